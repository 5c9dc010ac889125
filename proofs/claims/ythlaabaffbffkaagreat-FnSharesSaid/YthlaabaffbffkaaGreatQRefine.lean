/- Refined answers in both programs. -/
import Derived.Test.YthlaabaffbffkaaGreatQShareM
import Derived.Test.YthlaabaffbffkaaGreatQStandP
import Derived.Test.YthlaabaffbffkaaGreatQBestS
import Derived.Test.YthlaabaffbffkaaGreatQCompI
namespace Go.Proofs.YthlaabaffbffkaaGreat
open Go.RowKit
set_option linter.unusedVariables false
def evT (x y : GItem) : XT → Int
  | .base w => cmpItem w x y
  | .dual t => neg2 (evT x y t)
  | .two op a b => comb op (evT x y a) (evT x y b)
theorem fold_flat {x y : GItem} : ∀ {t : XT}, okT t → ∀ st : List Int, (flat t).foldl (stackStep x y) st = st ++ [evT x y t]
  | .base w, _, st => by
    rw [flat, List.foldl_cons, List.foldl_nil, stack_base rfl]; rfl
  | .dual t, h, st => by
    rw [flat, List.foldl_append, fold_flat (t := t) h st, List.foldl_cons, List.foldl_nil, stack_dual rfl]; rfl
  | .two op a b, h, st => by
    have ho := h.1
    unfold isTwo at ho
    rw [flat, List.foldl_append, fold_flat (t := a) h.2.1 st, List.foldl_append, fold_flat (t := b) h.2.2 _, List.foldl_cons, List.foldl_nil, List.append_assoc]
    rw [show [evT x y a] ++ [evT x y b] = [evT x y a, evT x y b] from rfl, stack_two (by dsimp only; omega) (by dsimp only; omega)]; rfl
theorem cmp_flat {x y : GItem} {t : XT} (h : okT t) : cmpBy (flat t) x y = evT x y t := by
  unfold cmpBy; rw [fold_flat h]; rfl
theorem ev_same {x y : GItem} {s t : XT} (hs : okT s) (ht : okT t) (h : flat s = flat t) : evT x y s = evT x y t := by
  rw [← cmp_flat hs, ← cmp_flat ht, h]
theorem cmpItem_codeT (w : GWish) (x y : GItem) : -1 ≤ cmpItem w x y ∧ cmpItem w x y ≤ 2 := by
  unfold cmpItem cmpV; repeat' split
  all_goals omega
theorem neg2_codeT {a : Int} (h : -1 ≤ a ∧ a ≤ 2) : -1 ≤ neg2 a ∧ neg2 a ≤ 2 := by unfold neg2; split <;> omega
theorem ev_code (x y : GItem) : ∀ t : XT, -1 ≤ evT x y t ∧ evT x y t ≤ 2
  | .base w => cmpItem_codeT w x y
  | .dual t => neg2_codeT (ev_code x y t)
  | .two op a b => comb_code (ev_code x y a) (ev_code x y b)
theorem comb_one {a b : Int} (ha : -1 ≤ a ∧ a ≤ 2) (hb : -1 ≤ b ∧ b ≤ 2) (h : comb 1 a b = 1) : (a = 1 ∧ b = 0) ∨ (a = 0 ∧ b = 1) ∨ (a = 1 ∧ b = 1) := by
  rcases code4 ha with rfl | rfl | rfl | rfl <;> rcases code4 hb with rfl | rfl | rfl | rfl <;> first | omega | exact absurd h (by decide)
theorem comb_four {a b : Int} (h : comb 4 a b = 1) : a = 1 ∧ b = 1 := by
  unfold comb at h
  rw [if_neg (by decide), if_neg (by decide)] at h
  split at h <;> omega
theorem weak_or {p q : XT} (h : weakT p q = true) : flat p = flat q ∨ (∃ b0 b1, q = .two 2 b0 b1 ∧ weakT p b0 = true) ∨ (∃ a0 a1, p = .two 4 a0 a1 ∧ (weakT a0 q = true ∨ weakT a1 q = true)) ∨ swapT p q = true := by
  unfold weakT at h
  simp only [Bool.or_eq_true, decide_eq_true_eq] at h
  rcases h with h | h | h | h
  · exact .inl h
  · cases q with
    | base w => simp at h
    | dual t => simp at h
    | two r b0 b1 =>
      simp only [Bool.and_eq_true, decide_eq_true_eq] at h
      obtain ⟨rfl, h⟩ := h
      exact .inr (.inl ⟨b0, b1, rfl, h⟩)
  · cases p with
    | base w => simp at h
    | dual t => simp at h
    | two o a0 a1 =>
      simp only [Bool.and_eq_true, Bool.or_eq_true, decide_eq_true_eq] at h
      obtain ⟨rfl, h⟩ := h
      exact .inr (.inr (.inl ⟨a0, a1, rfl, h⟩))
  · exact .inr (.inr (.inr h))
theorem weak_sound {x y : GItem} : ∀ (N : Nat) (p q : XT), SizeOf.sizeOf p + SizeOf.sizeOf q < N → okT p → okT q → weakT p q = true → evT x y p = 1 → evT x y q = 1
  | 0, _, _, hN, _, _, _, _ => absurd hN (Nat.not_lt_zero _)
  | N + 1, p, q, hN, hp, hq, h, he => by
    rcases weak_or h with h9 | ⟨b0, b1, rfl, h9⟩ | ⟨a0, a1, rfl, h9⟩ | h9
    · rw [← ev_same hp hq h9]; exact he
    · have ih := weak_sound N p b0 (by simp at hN; omega) hp hq.2.1 h9 he
      show comb 2 (evT x y b0) (evT x y b1) = 1
      rw [ih]; rfl
    · have h1 := comb_four (show comb 4 (evT x y a0) (evT x y a1) = 1 from he)
      rcases h9 with h9 | h9
      · exact weak_sound N a0 q (by simp at hN; omega) hp.2.1 hq h9 h1.1
      · exact weak_sound N a1 q (by simp at hN; omega) hp.2.2 hq h9 h1.2
    · clear h
      cases p with
      | base w => simp [swapT] at h9
      | dual t => simp [swapT] at h9
      | two o a0 a1 =>
        cases q with
        | base w => simp [swapT] at h9
        | dual t => simp [swapT] at h9
        | two r b0 b1 =>
          simp only [swapT, Bool.and_eq_true, Bool.or_eq_true, decide_eq_true_eq] at h9
          obtain ⟨hop, hop2⟩ := h9
          have hs : (evT x y b0 = evT x y a0 ∧ evT x y b1 = evT x y a1) ∨ (evT x y b0 = evT x y a1 ∧ evT x y b1 = evT x y a0) := by
            rcases hop2 with ⟨h1, h2⟩ | ⟨h1, h2⟩
            · exact .inl ⟨(ev_same hp.2.1 hq.2.1 h1).symm, (ev_same hp.2.2 hq.2.2 h2).symm⟩
            · exact .inr ⟨(ev_same hp.2.2 hq.2.1 h2).symm, (ev_same hp.2.1 hq.2.2 h1).symm⟩
          have hca := ev_code x y a0
          have hcb := ev_code x y a1
          show comb r (evT x y b0) (evT x y b1) = 1
          have he' : comb o (evT x y a0) (evT x y a1) = 1 := he
          rcases hop with ⟨rfl, rfl⟩ | ⟨rfl, rfl⟩
          · rcases comb_one hca hcb he' with ⟨e1, e2⟩ | ⟨e1, e2⟩ | ⟨e1, e2⟩ <;> rcases hs with ⟨f1, f2⟩ | ⟨f1, f2⟩ <;> rw [f1, f2, e1, e2] <;> rfl
          · obtain ⟨e1, e2⟩ := comb_four he'
            rcases hs with ⟨f1, f2⟩ | ⟨f1, f2⟩ <;> rw [f1, f2, e1, e2] <;> rfl
theorem isWeaker_sound {p q : List GNode} (h : isWeaker p q = true) : isExpr p = true ∧ isExpr q = true ∧ ∀ x y, beats p x y = true → beats q x y = true := by
  cases hpq : (isExpr p && isExpr q) with
  | false => rw [weak_no hpq] at h; cases h
  | true =>
    rw [Bool.and_eq_true] at hpq
    refine ⟨hpq.1, hpq.2, fun x y hb => ?_⟩
    obtain ⟨s, t, hs, ht, rfl, rfl, e⟩ := weak_trees hpq.1 hpq.2
    rw [e] at h
    unfold beats at hb ⊢
    rw [decide_eq_true_eq] at hb ⊢
    rw [cmp_flat hs] at hb
    rw [cmp_flat ht]
    exact weak_sound _ s t (Nat.lt_succ_self _) hs ht h hb
/-! ### what is shared -/
theorem only_mem {l : List GItem} {ids : List Int} {y : GItem} : y ∈ onlyM l ids true ↔ y ∈ l ∧ y.id ∈ ids := by
  unfold onlyM
  rw [List.mem_filter]
  simp
theorem refine_all {l : List GItem} (q : List GNode) : refineM l (allIds l) q = bestItems l q := by
  unfold refineM bestItems
  have : onlyM l (allIds l) true = l := by
    unfold onlyM
    rw [List.filter_eq_self]
    intro y hy
    have : y.id ∈ allIds l := List.mem_map.2 ⟨y, hy, rfl⟩
    simpa using this
  rw [this]
theorem refine_weak {l : List GItem} {p q : List GNode} (h : isWeaker p q = true) (hI : areItems l = true) : refineM l (bestItems l p) q = bestItems l q := by
  obtain ⟨hp, hq, hw⟩ := isWeaker_sound h
  have hBp : areBoth l p = true := by unfold areBoth; rw [hI, hp]; rfl
  have hBq : areBoth l q = true := by unfold areBoth; rw [hI, hq]; rfl
  unfold refineM bestItems
  rw [hBp, hBq]
  show bestM (onlyM l (bestM l p) true) q = bestM l q
  have hA := onlyM_items hI (bestM l p) true
  have hit : ∀ z ∈ l, isItem z = true := fun z hz => areItems_mem hI hz
  have hmem : ∀ y, y ∈ onlyM l (bestM l p) true ↔ y ∈ l ∧ Free l p y := by
    intro y
    rw [only_mem, bestM_iff]
    constructor
    · rintro ⟨hy, z, hz, hf, e⟩
      obtain rfl := same_id hI hz hy e
      exact ⟨hy, hf⟩
    · rintro ⟨hy, hf⟩
      exact ⟨hy, y, hy, hf, rfl⟩
  have hqp : ∀ y, Free l q y → Free l p y := fun y hf z hz => by
    cases hb : beats p z y with
    | false => rfl
    | true => rw [← hf z hz, hw z y hb]
  refine asc_ext (bestM_asc _ hA) (bestM_asc _ hI) (fun v => ?_)
  rw [bestM_iff, bestM_iff]
  constructor
  · rintro ⟨y, hy, hf, rfl⟩
    obtain ⟨hyl, hyf⟩ := (hmem y).1 hy
    refine ⟨y, hyl, ?_, rfl⟩
    by_cases hfr : Free l q y
    · exact hfr
    · obtain ⟨m, hm, hmf, hmb⟩ := beaten_top hq hit (hit y hyl) hfr
      have := hf m ((hmem m).2 ⟨hm, hqp m hmf⟩)
      rw [hmb] at this; cases this
  · rintro ⟨y, hy, hf, rfl⟩
    exact ⟨y, (hmem y).2 ⟨hy, hqp y hf⟩, fun z hz => hf z ((hmem z).1 hz).1, rfl⟩
/-- a weaker wish has all answers of the stronger one -/
theorem weak_sub {l : List GItem} {p q : List GNode} (h : isWeaker p q = true) {v : Int} (hv : v ∈ bestItems l q) : v ∈ bestItems l p := by
  obtain ⟨hp, hq, hw⟩ := isWeaker_sound h
  unfold bestItems at hv ⊢
  unfold areBoth at hv ⊢
  rw [hq, Bool.and_true] at hv
  rw [hp, Bool.and_true]
  split at hv
  · rename_i hI
    rw [if_pos hI]
    obtain ⟨y, hy, hf, rfl⟩ := bestM_iff.1 hv
    refine bestM_iff.2 ⟨y, hy, fun z hz => ?_, rfl⟩
    cases hb : beats p z y with
    | false => rfl
    | true => rw [← hf z hz, hw z y hb]
  · simp at hv
theorem from_ok {l : List GItem} {g : List (List GNode)} (hI : areItems l = true) {outs : List (List Int)} {q : List GNode} : ∀ {k : Nat}, (∀ j e o, j < k → g[j]? = some e → outs[j]? = some o → o = bestItems l e) → refineM l (fromTo l g outs q k) q = bestItems l q
  | 0, _ => by rw [fromTo]; exact refine_all q
  | k + 1, h => by
    have ih := from_ok hI (q := q) (k := k) (fun j e o hj => h j e o (by omega))
    cases hp : g[k]? with
    | none =>
      have : fromTo l g outs q (k + 1) = fromTo l g outs q k := by rw [fromTo, hp]
      rw [this]; exact ih
    | some p =>
      cases ho : outs[k]? with
      | none =>
        have : fromTo l g outs q (k + 1) = fromTo l g outs q k := by rw [fromTo, hp, ho]
        rw [this]; exact ih
      | some o =>
        by_cases hw : isWeaker p q = true ∧ o.length < (fromTo l g outs q k).length
        · rw [fromTo_yes hp ho hw.1 hw.2, h k p o (by omega) hp ho]
          exact refine_weak hw.1 hI
        · rw [fromTo_no hp ho (by
            by_cases h1 : isWeaker p q = true
            · exact .inr (fun h2 => hw ⟨h1, h2⟩)
            · exact .inl (by simpa using h1))]
          exact ih
theorem outs_ok {l : List GItem} {g : List (List GNode)} (hI : areItems l = true) : ∀ (i : Nat), i ≤ g.length → ∀ j e o, j < i → g[j]? = some e → (outsTo l g i)[j]? = some o → o = bestItems l e
  | 0, _, j, _, _, hj, _, _ => absurd hj (Nat.not_lt_zero _)
  | i + 1, hi, j, e, o, hj, he, ho => by
    have hl := outsTo_len l g i
    obtain ⟨q, hq⟩ : ∃ q, g[i]? = some q := ⟨g[i], List.getElem?_eq_getElem (by omega)⟩
    rw [outsTo_succ hq] at ho
    by_cases hji : j < i
    · rw [List.getElem?_append_left (by omega)] at ho
      exact outs_ok hI i (by omega) j e o hji he ho
    · obtain rfl : j = i := by omega
      rw [List.getElem?_append_right (by omega), hl, Nat.sub_self] at ho
      rw [hq] at he
      injection he with he
      subst he
      have ho2 : refineM l (fromTo l g (outsTo l g j) q j) q = o := by simpa using ho
      rw [← ho2]
      exact from_ok hI (fun k e o hk => outs_ok hI j (by omega) k e o hk)
theorem share_at {l : List GItem} {g : List (List GNode)} {i : Nat} {o : List Int} (h : (shareL l g)[i]? = some o) : ∃ e, g[i]? = some e ∧ isPoll l g = true ∧ o = bestItems l e := by
  unfold shareL at h
  split at h
  · rename_i hP
    have hi : i < g.length := by
      have := (List.getElem?_eq_some_iff.1 h).1
      rw [outsTo_len] at this; exact this
    obtain ⟨e, he⟩ : ∃ e, g[i]? = some e := ⟨g[i], List.getElem?_eq_getElem hi⟩
    exact ⟨e, he, hP, outs_ok (isPoll_items hP) g.length (Nat.le_refl _) i e o hi he h⟩
  · simp at h
theorem work_le {l : List GItem} {g : List (List GNode)} : ∀ i : Nat, workTo l g i ≤ (i : Int) * (l.length : Int) * (l.length : Int)
  | 0 => by rw [workTo]; simp
  | i + 1 => by
    have ih := work_le (l := l) (g := g) i
    have h2 := fromTo_small (q := g.getD i []) (g := g) (outsTo_small l g i) i
    rw [workTo]
    obtain ⟨m, hm⟩ : ∃ m, m = (fromTo l g (outsTo l g i) (g.getD i []) i).length := ⟨_, rfl⟩
    rw [← hm] at h2 ⊢
    have h3 : m * m ≤ l.length * l.length := Nat.mul_le_mul h2 h2
    have h4 : ((m : Int) * (m : Int)) ≤ (l.length : Int) * (l.length : Int) := by rw [← Int.natCast_mul, ← Int.natCast_mul]; exact_mod_cast h3
    have e1 : ((i + 1 : Nat) : Int) * (l.length : Int) * (l.length : Int) = (i : Int) * (l.length : Int) * (l.length : Int) + (l.length : Int) * (l.length : Int) := by
      rw [Int.natCast_add, Int.add_mul, Int.add_mul]; simp
    rw [e1]; omega
theorem share_work (l : List GItem) (g : List (List GNode)) : shareW l g ≤ (g.length : Int) * (l.length : Int) * (l.length : Int) := by
  unfold shareW
  split
  · exact work_le _
  · exact Int.mul_nonneg (Int.mul_nonneg (by omega) (by omega)) (by omega)
/-- the comparison that the reference makes -/
def cmpC (e : List GNode) (x y : GItem) : Int := if isExpr e && (isItem x && isItem y) then cmpBy e x y else 2
theorem cmpC_weak {p q : List GNode} (h : isWeaker p q = true) {x y : GItem} (hb : cmpC p x y = 1) : cmpC q x y = 1 := by
  obtain ⟨hp, hq, hw⟩ := isWeaker_sound h
  unfold cmpC at hb ⊢
  rw [hp, Bool.true_and] at hb
  rw [hq, Bool.true_and]
  split at hb
  · rename_i hI
    rw [if_pos hI]
    have := hw x y (by unfold beats; exact decide_eq_true hb)
    unfold beats at this
    exact of_decide_eq_true this
  · omega
end Go.Proofs.YthlaabaffbffkaaGreat

namespace Go.Proofs.YthlaabaffbffkaaGreat
open Go.RowKit
set_option linter.unusedVariables false
set_option linter.unusedSimpArgs false
/-- items in a row of the call's own; what their values lie in is older -/
abbrev fItemsSh (B : Nat) : Fp (List GItem) := fSl 42 2 (fSh B rItem)
theorem fItemsSh_Rd {B : Nat} {w : World} {xs : List GItem} {v : Value} {F : List Nat} (h : fItemsSh B w xs [v] F) (hB : B ≤ w.heap.size) : Rd rItems w xs [v] :=
  Rd.of rItems_good (B := B) (fSl_rd rItem_good (fun _ _ _ h => fSh_rd rItem_good h) h) ((fSl_good (fSh_good rItem_good (Nat.le_refl _)) : GoodF B (fItemsSh B)).lt h) hB
/-- what an element lies in is of given blocks -/
def fShS {α : Type} (S : Blocks) (R : Rep α) : Fp α := fun w x cs F => F = [] ∧ R w S x cs ∧ ∀ u ∈ cs, u.oneCell' = true
theorem fShS_good {α : Type} {B : Nat} {S : Blocks} {R : Rep α} (hR : Good R) (hS : ∀ b, S b → b < B) : GoodF B (fShS S R) :=
  ⟨fun hw ⟨hF, h, h1⟩ => ⟨hF, hR.step ⟨fun _ hb => hb, fun p hp => World.cell?_of_block (hw _ (.inr (hS _ hp)))⟩ h, h1⟩, fun h b hb => by rw [h.1] at hb; simp at hb, fun h => h.2.2⟩
abbrev fItemsS (S : Blocks) : Fp (List GItem) := fSl 42 2 (fShS S rItem)
theorem fItemsS_read {S : Blocks} {w : World} {xs : List GItem} {v : Value} {F : List Nat} (h : fItemsS S w xs [v] F) : rItems w (fun b => b ∈ F ∨ S b) xs [v] := by
  obtain ⟨v0, us, Fs, e, hown, hall, hFe⟩ := h
  injection e with e
  subst e
  have hl := all3_len hall
  have hus : ∀ u ∈ us, u.length = 2 := fun u hu => by obtain ⟨x, f, hr⟩ := all3_mem_us hall hu; exact hr.2
  obtain ⟨A, c, rfl, h1, h2, h3⟩ := ownsRow_rSl hown hl.1 hus
  refine ⟨A, c, rfl, h1, h2, fun k x hx => ?_⟩
  obtain ⟨u, f, hu, hf, hr⟩ := all3_at hall hx
  obtain ⟨b, rfl, hb, hc⟩ := h3 k u hu
  exact ⟨b, 0, u, rfl, .inl (by simp [hFe, hb]), hr.2, hc, rItem_good.step ⟨fun _ hb => .inr hb, fun _ _ => rfl⟩ hr.1.2.1⟩
theorem sh_item {w W : World} {S : Blocks} (hS : ∀ b, S b → b < w.heap.size) (hB : Bw w W) {x : GItem} {A : Option Addr} {c : Nat} (h : rInts w S x.vals [.slice A x.vals.length c]) : fShS S rItem W x [.int .i64 x.id, .slice A x.vals.length c] [] := by
  refine ⟨rfl, ⟨_, rfl, ?_⟩, fun u hu => ?_⟩
  · exact rInts_good.step ⟨fun _ h => h, fun p hp => Below.cell hB (hS _ hp)⟩ h
  · simp at hu; rcases hu with rfl | rfl <;> rfl
set_option maxRecDepth 100000 in
set_option maxHeartbeats 3200000 in
theorem I_onlyS (w : World) (l : List GItem) (ids : List Int) (b : Bool) (v u : Value) (S : Blocks) (hS : ∀ b, S b → b < w.heap.size) (h : rItems w S l [v]) (h' : Rd rInts w ids [u]) (hn : l.length ≤ 1048576) : Calls Tryz.prog 83 #[v, u, .bool b] w (RetV w (Made (fItemsS S) w.heap.size (onlyM l ids b))) := by
  obtain ⟨i0, hi, hz0, hz1, hz2⟩ := info_parts info_Item
  obtain ⟨A, n, c, rfl, L0, Lc, Lm⟩ := rSl_open h
  unfold maxLen at Lm
  have L := Lib.hid L0
  clear L0
  rw [← L.out] at hn
  have hv0 := fSl_empty (e := 42) (sz := 2) (R := fShS S rItem) w
  go_enter Tryz.func83, Tryz.ntmps83
  go_wp2
  go_loopg [7, 13] n (fun g s i w' => ∃ (k : Nat) (F : List Nat), k ≤ n ∧ g = n - k ∧ i = .int .i64 k ∧ fItemsS S w' (onlyTo l ids b k) [s] F ∧ Fresh w.heap.size F ∧ Bw w w')
  case atStart => exact ⟨0, _, by omega, rfl, rfl, hv0, ⟨by simp, by simp⟩, (Bw.refl _).alloc _⟩
  case round =>
    clear hv0
    obtain ⟨k, F, hk, rfl, rfl, hv, hF, hb⟩ := hrel
    by_cases hlt : k < n
    · obtain ⟨x, hx⟩ := get_of_lt (xs := l) (k := k) (by have := L.out; omega)
      obtain ⟨ba, oa, Ax, cx, rfl, _, hc0, hc1, hin⟩ := rItems_at h hx
      have i1 : (0 : Int) ≤ (k : Int) := by omega
      have i2 : (k : Int) < (n : Int) := by omega
      replace hc0 := hb.cell hc0
      replace hc1 := hb.cell hc1
      have hbx := World.block_lt_of_cell? _ _ hc0
      have HYES := Lib.hid (fun hc => onlyTo_yes (ids := ids) (b := b) hx hc)
      have HNO := Lib.hid (fun hc => onlyTo_no (ids := ids) (b := b) hx hc)
      have HH := Lib.hid h
      have HIN := Lib.hid hin
      have A1 : Bw wr (wr.alloc (.cells #[.int .i64 x.id, .slice Ax x.vals.length cx] 42)) := (Bw.refl wr).alloc _
      have hbA := hb.then A1
      have GG : GoodF w.heap.size (fItemsS S) := fSl_good (fShS_good rItem_good hS)
      have hvA := GG.bw A1 hb.size hv
      have hFm := GG.lt hvA
      obtain ⟨M, hM⟩ : ∃ M, M = x.vals.length := ⟨_, rfl⟩
      rw [← hM] at hc1 A1 hbA hvA hFm
      have HM := Lib.hid hM
      clear hx h hv hin hM
      go_wp2_with fail
      refine (slices_Contains_ints _ ids x.id _ (h'.bw rInts_good hbA)).mono ?_
      rintro e w2 ⟨rfl, hb2⟩
      have p0 : w2.cell? ⟨wr.heap.size, 0, none⟩ = some (.int .i64 x.id) := hb2.cell (by go_simp)
      have p1 : w2.cell? ⟨wr.heap.size, 1, none⟩ = some (.slice Ax M cx) := hb2.cell (by go_simp)
      have hbb := hbA.then hb2
      have hv2 := GG.bw hb2 hbA.size hvA
      clear hvA
      by_cases hcb : ids.contains x.id = b
      · have HB := Lib.hid (HYES.out hcb)
        have e1 : (ids.contains x.id == b) = true := by simpa using hcb
        obtain ⟨d, hd⟩ : ∃ d, d = ids.contains x.id := ⟨_, rfl⟩
        rw [← hd] at e1 ⊢
        have hvW := GG.bw ((Bw.refl w2).alloc (.cells #[.int .i64 x.id, .slice Ax M cx] 42)) hbb.size hv2
        have hbW := hbb.alloc (.cells #[.int .i64 x.id, .slice Ax M cx] 42)
        have hcl : ∀ j t, [Value.int .i64 x.id, .slice Ax M cx][j]? = some t → (w2.alloc (.cells #[.int .i64 x.id, .slice Ax M cx] 42)).cell? ((⟨w2.heap.size, 0, none⟩ : Addr).add j) = some t := World.news_of_block (cs := #[.int .i64 x.id, .slice Ax M cx]) (t := 42) (fr := (0, 0)) (heap_alloc_new w2 _)
        have hy : fShS S rItem (w2.alloc (.cells #[.int .i64 x.id, .slice Ax M cx] 42)) x [.int .i64 x.id, .slice Ax M cx] [] := by rw [HM.out]; exact sh_item hS (by rw [← HM.out]; exact hbW) HIN.out
        have hol := onlyTo_len (l := l) (ids := ids) (b := b) (k := k)
        have HOL := Lib.hid hol
        have hb0 := hbA.size
        clear hcb hd hv2 hol
        go_wp2_with (at_builtin; refine wpList_push _ rfl (.tmp 23) (.tmp 25) 24 rfl w 42 i0 _ 2 32 Tryz.underlying24 hi hz0 hz1 hz2 rfl (by omega) (fShS_good rItem_good hS) _ (onlyTo l ids b k) F rfl hvW hF ⟨w2.heap.size, 0, none⟩ 1 rfl x [.int .i64 x.id, .slice Ax M cx] [] hcl hy rfl _ hFm Fresh.nil hb0 (by have := HOL.out; omega) (by have := HOL.out; omega) hbW ?_; intro v' w' F' hv' hF' hb')
        go_roundg (n - (k + 1))
        case measure => omega
        case rel => exact ⟨k + 1, F', by omega, rfl, by go_num, by rw [HB.out]; exact hv', hF', hb'⟩
      · have HB := Lib.hid (HNO.out (by cases hq : ids.contains x.id <;> cases b <;> simp_all))
        have e1 : (ids.contains x.id == b) = false := by simpa using hcb
        obtain ⟨d, hd⟩ : ∃ d, d = ids.contains x.id := ⟨_, rfl⟩
        rw [← hd] at e1 ⊢
        clear hcb hd
        go_wp2
        go_roundg (n - (k + 1))
        case measure => omega
        case rel => exact ⟨k + 1, F, by omega, rfl, by go_num, by rw [HB.out]; exact hv2, hF, hbb⟩
    · obtain rfl : k = n := by omega
      rw [onlyTo_end (by rw [← L.out]; exact Nat.le_refl _)] at hv
      go_wp2
      go_ret
      exact ⟨_, rfl, ⟨F, hv, hF⟩, hb⟩
theorem I_only (w : World) (l : List GItem) (ids : List Int) (b : Bool) (v u : Value) (h : Rd rItems w l [v]) (h' : Rd rInts w ids [u]) (hn : l.length ≤ 1048576) : Calls Tryz.prog 83 #[v, u, .bool b] w (RetV w (Made (fItemsSh w.heap.size) w.heap.size (onlyM l ids b))) :=
  I_onlyS w l ids b v u (lt w) (fun _ h => h) h h' hn
end Go.Proofs.YthlaabaffbffkaaGreat

namespace Go.Proofs.YthlaabaffbffkaaGreat
open Go.RowKit
set_option linter.unusedVariables false
set_option linter.unusedSimpArgs false
theorem refineM_yes {l : List GItem} {ids : List Int} {q : List GNode} (h : areBoth l q = true) : refineM l ids q = bestM (onlyM l ids true) q := by rw [refineM, if_pos h]
theorem refineM_no {l : List GItem} {ids : List Int} {q : List GNode} (h : areBoth l q = false) : refineM l ids q = [] := by rw [refineM, h]; rfl
theorem refineM_len (l : List GItem) (ids : List Int) (q : List GNode) : (refineM l ids q).length ≤ l.length := by
  unfold refineM; split
  · exact Nat.le_trans (bestM_len _ _) (onlyM_len _ _ _)
  · simp
set_option maxRecDepth 100000 in
set_option maxHeartbeats 1600000 in
theorem I_RefineBest (w : World) (l : List GItem) (ids : List Int) (q : List GNode) (v t u : Value) (h : Rd rItems w l [v]) (hi : Rd rInts w ids [t]) (h' : Rd rNodes w q [u]) (hn : l.length ≤ 1048576) : Calls Tryz.prog 21 #[v, t, u] w (RetV w (Made fInts w.heap.size (refineM l ids q))) := by
  go_enter Tryz.func21, Tryz.ntmps21
  go_wp2_with fail
  refine (I_areBoth _ l q _ _ h h').mono ?_
  rintro e w2 ⟨rfl, hb2⟩
  rcases Bool.eq_false_or_eq_true (areBoth l q) with e1 | e1
  · have E := Lib.hid e1
    rw [e1]
    clear e1
    go_wp2_with fail
    refine (I_only _ l ids true _ _ (h.bw rItems_good hb2) (hi.bw rInts_good hb2) hn).mono ?_
    rintro e w3 ⟨v3, rfl, ⟨F3, o3, f3⟩, hb3⟩
    have r3 := fItemsSh_Rd o3 hb3.size
    go_wp2_with fail
    refine (I_BestItems _ (onlyM l ids true) q _ _ r3 (h'.bw rNodes_good (hb2.then hb3))).mono ?_
    rintro e w4 ⟨v4, rfl, ⟨F4, o4, f4⟩, hb4⟩
    have hE : bestItems (onlyM l ids true) q = refineM l ids q := by
      rw [refineM_yes E.out, bestItems, if_pos]
      unfold areBoth onlyM
      rw [areItems_filter _ (areBoth_items E.out), areBoth_expr E.out]; rfl
    rw [hE] at o4
    have hB := hb2.then hb3
    clear hE o3 r3
    go_wp2
    go_ret
    exact ⟨_, rfl, ⟨F4, o4, f4.mono hB.size⟩, hB.then hb4⟩
  · have E := Lib.hid e1
    rw [e1]
    clear e1
    have hv0 := fSl_empty (e := 3) (sz := 1) (R := fInt) w2
    rw [show ([] : List Int) = refineM l ids q by rw [refineM_no E.out]] at hv0
    have hz := hb2.size
    go_wp2
    go_ret
    exact ⟨_, rfl, ⟨_, hv0, ⟨by simp, by simpa using hz⟩⟩, hb2.alloc _⟩
set_option maxRecDepth 100000 in
set_option maxHeartbeats 3200000 in
theorem S_RefineBest (w : World) (l : List GItem) (ids : List Int) (q : List GNode) (v t u : Value) (h : Rd rItems w l [v]) (hid : Rd rInts w ids [t]) (h' : Rd rNodes w q [u]) (hn : l.length ≤ 1048576) : Calls Tryz.prog 22 #[v, t, u] w (RetV w (Made fInts w.heap.size (refineM l ids q))) := by
  obtain ⟨i0, hi, hz0, hz1, hz2⟩ := info_parts info_Item
  have GG : GoodF w.heap.size (fItemsSh w.heap.size) := fSl_good (fSh_good rItem_good (Nat.le_refl _))
  obtain ⟨A, n, c, rfl, L0, Lc, Lm⟩ := rSl_open h
  unfold maxLen at Lm
  have L := Lib.hid L0
  clear L0
  rw [← L.out] at hn
  go_enter Tryz.func22, Tryz.ntmps22
  go_wp2_with fail
  refine (S_l7Fine _ l q _ _ h h').mono ?_
  rintro e w2 ⟨rfl, hb2⟩
  rcases Bool.eq_false_or_eq_true (areBoth l q) with e1 | e1
  · have E := Lib.hid e1
    rw [e1]
    clear e1
    have hv0 := fSl_empty (e := 42) (sz := 2) (R := fSh w.heap.size rItem) w2
    have hs2 := hb2.size
    go_wp2
    go_loopg [7, 8] n (fun g s i w' => ∃ (k : Nat) (F : List Nat), k ≤ n ∧ g = n - k ∧ i = .int .i64 k ∧ fItemsSh w.heap.size w' (onlyTo l ids true k) [s] F ∧ Fresh w.heap.size F ∧ Bw w w')
    case atStart => exact ⟨0, _, by omega, rfl, rfl, hv0, ⟨by simp, by simpa using hs2⟩, hb2.alloc _⟩
    case round =>
      clear hv0
      obtain ⟨k, F, hk, rfl, rfl, hv, hF, hb⟩ := hrel
      by_cases hlt : k < n
      · obtain ⟨x, hx⟩ := get_of_lt (xs := l) (k := k) (by have := L.out; omega)
        obtain ⟨ba, oa, Ax, cx, rfl, _, hc0, hc1, hin⟩ := rItems_at h hx
        have i1 : (0 : Int) ≤ (k : Int) := by omega
        have i2 : (k : Int) < (n : Int) := by omega
        replace hc0 := hb.cell hc0
        replace hc1 := hb.cell hc1
        have HYES := Lib.hid (fun hc => onlyTo_yes (ids := ids) (b := true) hx hc)
        have HNO := Lib.hid (fun hc => onlyTo_no (ids := ids) (b := true) hx hc)
        have HIN := Lib.hid hin
        have HH := Lib.hid h
        have hFm := GG.lt hv
        obtain ⟨M, hM⟩ : ∃ M, M = x.vals.length := ⟨_, rfl⟩
        rw [← hM] at hc1
        have HM := Lib.hid hM
        clear hx h hin hM
        go_wp2_with fail
        refine (S_l2Has _ ids x.id _ (hid.bw rInts_good hb)).mono ?_
        rintro e w3 ⟨rfl, hb3⟩
        have p0 := hb3.cell hc0
        have p1 := hb3.cell hc1
        have hbb := hb.then hb3
        have hv2 := GG.bw hb3 hb.size hv
        clear hv hc0 hc1
        rcases Bool.eq_false_or_eq_true (ids.contains x.id) with e2 | e2
        · have HB := Lib.hid (HYES.out e2)
          rw [e2]
          clear e2
          have hvW := GG.bw ((Bw.refl w3).alloc (.cells #[.int .i64 x.id, .slice Ax M cx] 42)) hbb.size hv2
          have hbW := hbb.alloc (.cells #[.int .i64 x.id, .slice Ax M cx] 42)
          have hcl : ∀ j t, [Value.int .i64 x.id, .slice Ax M cx][j]? = some t → (w3.alloc (.cells #[.int .i64 x.id, .slice Ax M cx] 42)).cell? ((⟨w3.heap.size, 0, none⟩ : Addr).add j) = some t := World.news_of_block (cs := #[.int .i64 x.id, .slice Ax M cx]) (t := 42) (fr := (0, 0)) (heap_alloc_new w3 _)
          have hy : fSh w.heap.size rItem (w3.alloc (.cells #[.int .i64 x.id, .slice Ax M cx] 42)) x [.int .i64 x.id, .slice Ax M cx] [] := by rw [HM.out]; exact sh_item (fun _ h => h) (by rw [← HM.out]; exact hbW) HIN.out
          have hol := onlyTo_len (l := l) (ids := ids) (b := true) (k := k)
          have HOL := Lib.hid hol
          have hb0 := hb.size
          clear hv2 hol
          go_wp2_with (at_builtin; refine wpList_push _ rfl (.tmp 28) (.tmp 33) 24 rfl w 42 i0 _ 2 32 Tryz.underlying24 hi hz0 hz1 hz2 rfl (by omega) (fSh_good rItem_good (Nat.le_refl _)) _ (onlyTo l ids true k) F rfl hvW hF ⟨w3.heap.size, 0, none⟩ 1 rfl x [.int .i64 x.id, .slice Ax M cx] [] hcl hy rfl _ hFm Fresh.nil hb0 (by have := HOL.out; omega) (by have := HOL.out; omega) hbW ?_; intro v' w' F' hv' hF' hb')
          go_roundg (n - (k + 1))
          case measure => omega
          case rel => exact ⟨k + 1, F', by omega, rfl, by go_num, by rw [HB.out]; exact hv', hF', hb'⟩
        · have HB := Lib.hid (HNO.out (by rw [e2]; rfl))
          rw [e2]
          clear e2
          go_wp2
          go_roundg (n - (k + 1))
          case measure => omega
          case rel => exact ⟨k + 1, F, by omega, rfl, by go_num, by rw [HB.out]; exact hv2, hF, hbb⟩
      · obtain rfl : k = n := by omega
        rw [onlyTo_end (by rw [← L.out]; exact Nat.le_refl _)] at hv
        go_wp2_with fail
        refine (S_l7Best _ (onlyM l ids true) q _ _ (fItemsSh_Rd hv hb.size) (h'.bw rNodes_good hb) (by unfold onlyM; exact areItems_filter _ (areBoth_items E.out)) (areBoth_expr E.out)).mono ?_
        rintro e w4 ⟨v4, rfl, ⟨F4, o4, f4⟩, hb4⟩
        rw [← refineM_yes E.out] at o4
        go_wp2
        go_ret
        exact ⟨_, rfl, ⟨F4, o4, f4.mono hb.size⟩, hb.then hb4⟩
  · have E := Lib.hid e1
    rw [e1]
    clear e1
    have hv0 := fSl_empty (e := 3) (sz := 1) (R := fInt) w2
    rw [show ([] : List Int) = refineM l ids q by rw [refineM_no E.out]] at hv0
    have hz := hb2.size
    go_wp2
    go_ret
    exact ⟨_, rfl, ⟨_, hv0, ⟨by simp, by simpa using hz⟩⟩, hb2.alloc _⟩
end Go.Proofs.YthlaabaffbffkaaGreat
