/- Parts of lists of items, in the program and in the reference. -/
import Derived.Test.YtpihighajaeabaaGreatQModel3
import Derived.Test.YtpihighajaeabaaGreatQStanding
import Derived.Test.YtpihighajaeabaaGreatQStandP
import Derived.Test.YtpihighajaeabaaGreatQBestS
import Derived.Test.YtpihighajaeabaaGreatQCompI
namespace Go.Proofs.YtpihighajaeabaaGreat
open Go.RowKit
set_option linter.unusedVariables false
set_option linter.unusedSimpArgs false
/-! ### a tree's value -/
def cmpT : XT → GItem → GItem → Int
  | .base w, x, y => cmpItem w x y
  | .dual t, x, y => neg2 (cmpT t x y)
  | .two op a b, x, y => comb op (cmpT a x y) (cmpT b x y)
theorem get_two (st : List Int) (a b : Int) : (st ++ ([a] ++ [b])).getD st.length 0 = a ∧ (st ++ ([a] ++ [b])).getD (st.length + 1) 0 = b := by
  constructor
  · rw [List.getD_eq_getElem?_getD, List.getElem?_append_right (Nat.le_refl _)]; simp
  · rw [List.getD_eq_getElem?_getD, List.getElem?_append_right (by omega)]; simp
theorem cmpT_step : ∀ {t : XT}, okT t → ∀ (x y : GItem) (st : List Int), (flat t).foldl (stackStep x y) st = st ++ [cmpT t x y]
  | .base w, _, x, y, st => rfl
  | .dual t, h, x, y, st => by
    rw [flat, List.foldl_append, cmpT_step (t := t) h]
    show stackStep x y (st ++ [cmpT t x y]) ⟨3, noWish⟩ = _
    unfold stackStep
    rw [if_neg (by decide), if_pos rfl, List.length_append, List.length_singleton, Nat.add_sub_cancel, List.take_left, List.getD_eq_getElem?_getD, List.getElem?_append_right (Nat.le_refl _)]
    simp [cmpT]
  | .two op a b, h, x, y, st => by
    rw [flat, List.foldl_append, cmpT_step (t := a) h.2.1, List.foldl_append, cmpT_step (t := b) h.2.2]
    show stackStep x y (st ++ [cmpT a x y] ++ [cmpT b x y]) ⟨op, noWish⟩ = _
    have ho : ¬ op = 0 ∧ ¬ op = 3 := by have := h.1; unfold isTwo at this; omega
    unfold stackStep
    dsimp only
    rw [if_neg ho.1, if_neg ho.2, List.append_assoc]
    have hl : (st ++ ([cmpT a x y] ++ [cmpT b x y])).length = st.length + 2 := by simp
    rw [hl, Nat.add_sub_cancel, List.take_left, show st.length + 2 - 1 = st.length + 1 by omega, (get_two st _ _).1, (get_two st _ _).2]
    rfl
/-- a part gives way to one of the same value -/
theorem cmpBy_put {pre post : List GNode} {t t' : XT} (h : okT t) (h' : okT t') {x y : GItem} (he : cmpT t x y = cmpT t' x y) : cmpBy (pre ++ (flat t ++ post)) x y = cmpBy (pre ++ (flat t' ++ post)) x y := by
  unfold cmpBy
  rw [List.foldl_append, List.foldl_append, List.foldl_append, List.foldl_append, cmpT_step h, cmpT_step h', he]
theorem cmpT_code : ∀ {t : XT}, okT t → ∀ (x y : GItem), -1 ≤ cmpT t x y ∧ cmpT t x y ≤ 2
  | .base w, h, x, y => (PO.base h).code x y
  | .dual t, h, x, y => neg2_code (cmpT_code (t := t) h x y)
  | .two op a b, h, x, y => comb_code (cmpT_code (t := a) h.2.1 x y) (cmpT_code (t := b) h.2.2 x y)
theorem neg2_neg2 {a : Int} (h : -1 ≤ a ∧ a ≤ 2) : neg2 (neg2 a) = a := by
  rcases code4 h with rfl | rfl | rfl | rfl <;> rfl
theorem comb_same {op a : Int} (ho : isTwo op) (h : -1 ≤ a ∧ a ≤ 2) : comb op a a = a := by
  unfold isTwo at ho
  rcases ho with rfl | rfl | rfl <;> (rcases code4 h with rfl | rfl | rfl | rfl <;> rfl)
theorem flat_val {a b : XT} (ha : okT a) (hb : okT b) (h : flat a = flat b) (x y : GItem) : cmpT a x y = cmpT b x y := by
  have h1 := cmpT_step ha x y []
  rw [h, cmpT_step hb x y []] at h1
  simpa using h1.symm
theorem ruleT_val {r : Int} {t : XT} {z : List GNode} (h : ruleT r t = some z) (hok : okT t) : ∃ t', okT t' ∧ z = flat t' ∧ ∀ x y, cmpT t x y = cmpT t' x y := by
  cases t with
  | base w => cases h
  | two op a b =>
    simp only [ruleT] at h
    split at h
    · rename_i hc
      injection h with h
      refine ⟨a, hok.2.1, h.symm, fun x y => ?_⟩
      show comb op (cmpT a x y) (cmpT b x y) = _
      rw [← flat_val hok.2.1 hok.2.2 hc.2 x y]
      exact comb_same hok.1 (cmpT_code hok.2.1 x y)
    · cases h
  | dual s =>
    cases s with
    | base w => cases h
    | dual s =>
      simp only [ruleT] at h
      split at h
      · injection h with h
        exact ⟨s, hok, h.symm, fun x y => neg2_neg2 (cmpT_code (t := s) hok x y)⟩
      · cases h
    | two op a b =>
      simp only [ruleT] at h
      split at h
      · injection h with h
        refine ⟨.two op (.dual a) (.dual b), ⟨hok.1, hok.2.1, hok.2.2⟩, by rw [← h]; simp [flat], fun x y => ?_⟩
        exact (comb_anti op (cmpT_code (t := a) hok.2.1 x y) (cmpT_code (t := b) hok.2.2 x y)).symm
      · cases h
theorem applyM_val {e y : List GNode} {r m : Int} (h : applyM e r m = (y, true)) (p q : GItem) : cmpBy y p q = cmpBy e p q := by
  by_cases hc : isExpr e = true ∧ 0 ≤ m ∧ m < e.length
  · obtain ⟨k, rfl⟩ : ∃ k : Nat, m = k := ⟨m.toNat, by omega⟩
    obtain ⟨w, hq, hr⟩ := applyM_yes (r := r) hc.1 (m := k) (by omega)
    rw [hr] at h
    unfold resM at h
    split at h
    · rename_i z hz
      split at h
      · injection h with h _
        obtain ⟨t', h1, rfl, h3⟩ := ruleT_val hz hq.ok
        rw [← h]
        have he := hq.eq
        conv => rhs; rw [he]
        exact (cmpBy_put hq.ok h1 (h3 p q)).symm
      · cases h
    · cases h
  · rw [applyM_no hc] at h; cases h
theorem ruleFrom_val {e y : List GNode} {k : Nat} : ∀ {f r : Nat}, ruleFrom e k f r = some y → ∀ p q, cmpBy y p q = cmpBy e p q
  | 0, r, h => by cases h
  | f + 1, r, h => by
    rw [ruleFrom_succ] at h
    split at h
    · rename_i hb
      injection h with h
      subst h
      exact applyM_val (Prod.ext rfl hb)
    · exact ruleFrom_val h
theorem atFrom_val {e y : List GNode} : ∀ {f k : Nat}, atFrom e f k = some y → ∀ p q, cmpBy y p q = cmpBy e p q
  | 0, k, h => by cases h
  | f + 1, k, h => by
    rw [atFrom_succ] at h
    split at h
    · rename_i z hz
      injection h with h
      subst h
      exact ruleFrom_val (show ruleFrom e k 3 1 = some z from hz)
    · exact atFrom_val h
theorem normN_val : ∀ (n : Nat) (e : List GNode) (p q : GItem), cmpBy (normN n e) p q = cmpBy e p q
  | 0, e, p, q => rfl
  | n + 1, e, p, q => by
    rw [normN_succ]
    split
    · rename_i y hy
      rw [normN_val n y p q]
      exact atFrom_val (show atFrom e e.length 0 = some y from hy) p q
    · rfl
theorem best_norm {l : List GItem} {e : List GNode} (hE : isExpr e = true) : bestItems l (normM e) = bestItems l e := by
  have h1 : areBoth l (normM e) = areBoth l e := by
    unfold areBoth
    rw [hE, show isExpr (normM e) = true from normN_expr hE 60]
  have h2 : bestM l (normM e) = bestM l e := by
    have hb : ∀ a b, beats (normM e) a b = beats e a b := fun a b => by
      unfold beats
      rw [show cmpBy (normM e) a b = cmpBy e a b from normN_val 60 e a b]
    unfold bestM freeIn
    simp only [hb]
  unfold bestItems
  rw [h1, h2]
/-! ### bands of one, progressive lists -/
theorem band_one {l : List GItem} {e : List GNode} (hB : areBoth l e = true) : bandM l e 1 = bestM l e := by
  have hI := areBoth_items hB
  unfold bandM bestM idsOf
  rw [if_pos hB]
  congr 1
  refine List.filter_congr (fun x hx => ?_)
  obtain ⟨j, y, hf, hy, hyi⟩ : ∃ (j : Nat) (y : GItem), findIdx l x.id = (j : Int) ∧ l[j]? = some y ∧ y.id = x.id := by
    rcases findIdx_cases l x.id with ⟨_, h⟩ | h
    · exact absurd rfl (h x hx)
    · exact h
  have hyx : y = x := areItems_uniq hI (List.mem_of_getElem? hy) hx hyi
  subst hyx
  have hco : changeOk l e y.id = true := by unfold changeOk; rw [hB, hf]; simp
  unfold bandIn rankM
  rw [if_pos hco, relM_yes hB hf hy, Bool.eq_iff_iff, decide_eq_true_eq, free_iff]
  unfold idsOf
  rw [List.length_map]
  constructor
  · intro h z hz
    have h0 : (l.filter (relIn e y 1)) = [] := List.eq_nil_of_length_eq_zero (by omega)
    have := List.filter_eq_nil_iff.1 h0 z hz
    unfold relIn at this
    unfold beats
    simpa using this
  · intro h
    have h0 : (l.filter (relIn e y 1)) = [] := List.filter_eq_nil_iff.2 (fun z hz => by
      have := h z hz
      unfold beats at this
      unfold relIn
      simpa using this)
    rw [h0]; decide
theorem insR_perm (c : Int → Nat) (x : Int) : ∀ r : List Int, (insR c x r).Perm (x :: r)
  | [] => List.Perm.refl _
  | y :: r => by
    rw [insR]
    split
    · exact ((insR_perm c x r).cons y).trans (List.Perm.swap x y r)
    · exact List.Perm.refl _
theorem sortR_perm (c : Int → Nat) (xs : List Int) : (sortR c xs).Perm xs := by
  have key : ∀ (xs r : List Int), (xs.foldl (fun r x => insR c x r) r).Perm (xs ++ r) := by
    intro xs
    induction xs with
    | nil => intro r; exact List.Perm.refl _
    | cons x xs ih =>
      intro r
      rw [List.foldl_cons]
      refine (ih _).trans ?_
      refine ((insR_perm c x r).append_left xs).trans ?_
      exact List.perm_middle
  have := key xs []
  rwa [List.append_nil] at this
theorem prog_best (l : List GItem) (e : List GNode) : (progM l e).length = (bestItems l e).length ∧ ∀ v ∈ progM l e, v ∈ bestItems l e := by
  have h : (progM l e).Perm (bestItems l e) := (List.reverse_perm _).trans (sortR_perm _ _)
  exact ⟨h.length_eq, fun v hv => h.mem_iff.1 hv⟩
end Go.Proofs.YtpihighajaeabaaGreat

namespace Go.Proofs.YtpihighajaeabaaGreat
open Go.RowKit
set_option linter.unusedVariables false
set_option linter.unusedSimpArgs false
/-- items in a row of the call's own; what their values lie in is older -/
abbrev fItemsSh (B : Nat) : Fp (List GItem) := fSl 30 2 (fSh B rItem)
/-- what an element lies in is of given blocks -/
def fShS {α : Type} (S : Blocks) (R : Rep α) : Fp α := fun w x cs F => F = [] ∧ R w S x cs ∧ ∀ u ∈ cs, u.oneCell' = true
theorem fShS_good {α : Type} {B : Nat} {S : Blocks} {R : Rep α} (hR : Good R) (hS : ∀ b, S b → b < B) : GoodF B (fShS S R) :=
  ⟨fun hw ⟨hF, h, h1⟩ => ⟨hF, hR.step ⟨fun _ hb => hb, fun p hp => World.cell?_of_block (hw _ (.inr (hS _ hp)))⟩ h, h1⟩, fun h b hb => by rw [h.1] at hb; simp at hb, fun h => h.2.2⟩
abbrev fItemsS (S : Blocks) : Fp (List GItem) := fSl 30 2 (fShS S rItem)
theorem fItemsS_read {S : Blocks} {w : World} {xs : List GItem} {v : Value} {F : List Nat} (h : fItemsS S w xs [v] F) : rItems w (fun b => b ∈ F ∨ S b) xs [v] := by
  obtain ⟨v0, us, Fs, e, hown, hall, hFe⟩ := h
  injection e with e
  subst e
  have hl := all3_len hall
  have hus : ∀ u ∈ us, u.length = 2 := fun u hu => by obtain ⟨x, f, hr⟩ := all3_mem_us hall hu; exact hr.2
  obtain ⟨A, c, rfl, h1, h2, h3⟩ := ownsRow_rSl hown hl.1 hus
  refine ⟨A, c, rfl, h1, h2, fun k x hx => ?_⟩
  obtain ⟨u, f, hu, hf, hr⟩ := all3_at hall hx
  obtain ⟨b, rfl, hb, hc⟩ := h3 k u hu
  exact ⟨b, 0, u, rfl, .inl (by simp [hFe, hb]), hr.2, hc, rItem_good.step ⟨fun _ hb => .inr hb, fun _ _ => rfl⟩ hr.1.2.1⟩
theorem sh_item {w W : World} {S : Blocks} (hS : ∀ b, S b → b < w.heap.size) (hB : Bw w W) {x : GItem} {A : Option Addr} {c : Nat} (h : rInts w S x.vals [.slice A x.vals.length c]) : fShS S rItem W x [.int .i64 x.id, .slice A x.vals.length c] [] := by
  refine ⟨rfl, ⟨_, rfl, ?_⟩, fun u hu => ?_⟩
  · exact rInts_good.step ⟨fun _ h => h, fun p hp => Below.cell hB (hS _ hp)⟩ h
  · simp at hu; rcases hu with rfl | rfl <;> rfl
set_option maxRecDepth 100000 in
set_option maxHeartbeats 3200000 in
theorem I_onlyS (w : World) (l : List GItem) (ids : List Int) (b : Bool) (v u : Value) (S : Blocks) (hS : ∀ b, S b → b < w.heap.size) (h : rItems w S l [v]) (h' : Rd rInts w ids [u]) (hn : l.length ≤ 1048576) : Calls Tryz.prog 98 #[v, u, .bool b] w (RetV w (Made (fItemsS S) w.heap.size (onlyM l ids b))) := by
  obtain ⟨i0, hi, hz0, hz1, hz2⟩ := info_parts info_Item
  obtain ⟨A, n, c, rfl, L0, Lc, Lm⟩ := rSl_open h
  unfold maxLen at Lm
  have L := Lib.hid L0
  clear L0
  rw [← L.out] at hn
  have hv0 := fSl_empty (e := 30) (sz := 2) (R := fShS S rItem) w
  go_enter Tryz.func98, Tryz.ntmps98
  go_wp2
  go_loopg [7, 13] n (fun g s i w' => ∃ (k : Nat) (F : List Nat), k ≤ n ∧ g = n - k ∧ i = .int .i64 k ∧ fItemsS S w' (onlyTo l ids b k) [s] F ∧ Fresh w.heap.size F ∧ Bw w w')
  case atStart => exact ⟨0, _, by omega, rfl, rfl, hv0, ⟨by simp, by simp⟩, (Bw.refl _).alloc _⟩
  case round =>
    clear hv0
    obtain ⟨k, F, hk, rfl, rfl, hv, hF, hb⟩ := hrel
    by_cases hlt : k < n
    · obtain ⟨x, hx⟩ := get_of_lt (xs := l) (k := k) (by have := L.out; omega)
      obtain ⟨ba, oa, Ax, cx, rfl, _, hc0, hc1, hin⟩ := rItems_at h hx
      have i1 : (0 : Int) ≤ (k : Int) := by omega
      have i2 : (k : Int) < (n : Int) := by omega
      replace hc0 := hb.cell hc0
      replace hc1 := hb.cell hc1
      have hbx := World.block_lt_of_cell? _ _ hc0
      have HYES := Lib.hid (fun hc => onlyTo_yes (ids := ids) (b := b) hx hc)
      have HNO := Lib.hid (fun hc => onlyTo_no (ids := ids) (b := b) hx hc)
      have HH := Lib.hid h
      have HIN := Lib.hid hin
      have A1 : Bw wr (wr.alloc (.cells #[.int .i64 x.id, .slice Ax x.vals.length cx] 30)) := (Bw.refl wr).alloc _
      have hbA := hb.then A1
      have GG : GoodF w.heap.size (fItemsS S) := fSl_good (fShS_good rItem_good hS)
      have hvA := GG.bw A1 hb.size hv
      have hFm := GG.lt hvA
      obtain ⟨M, hM⟩ : ∃ M, M = x.vals.length := ⟨_, rfl⟩
      rw [← hM] at hc1 A1 hbA hvA hFm
      have HM := Lib.hid hM
      clear hx h hv hin hM
      go_wp2_with fail
      refine (slices_Contains_ints _ ids x.id _ (h'.bw rInts_good hbA)).mono ?_
      rintro e w2 ⟨rfl, hb2⟩
      have p0 : w2.cell? ⟨wr.heap.size, 0, none⟩ = some (.int .i64 x.id) := hb2.cell (by go_simp)
      have p1 : w2.cell? ⟨wr.heap.size, 1, none⟩ = some (.slice Ax M cx) := hb2.cell (by go_simp)
      have hbb := hbA.then hb2
      have hv2 := GG.bw hb2 hbA.size hvA
      clear hvA
      by_cases hcb : ids.contains x.id = b
      · have HB := Lib.hid (HYES.out hcb)
        have e1 : (ids.contains x.id == b) = true := by simpa using hcb
        obtain ⟨d, hd⟩ : ∃ d, d = ids.contains x.id := ⟨_, rfl⟩
        rw [← hd] at e1 ⊢
        have hvW := GG.bw ((Bw.refl w2).alloc (.cells #[.int .i64 x.id, .slice Ax M cx] 30)) hbb.size hv2
        have hbW := hbb.alloc (.cells #[.int .i64 x.id, .slice Ax M cx] 30)
        have hcl : ∀ j t, [Value.int .i64 x.id, .slice Ax M cx][j]? = some t → (w2.alloc (.cells #[.int .i64 x.id, .slice Ax M cx] 30)).cell? ((⟨w2.heap.size, 0, none⟩ : Addr).add j) = some t := World.news_of_block (cs := #[.int .i64 x.id, .slice Ax M cx]) (t := 30) (fr := (0, 0)) (heap_alloc_new w2 _)
        have hy : fShS S rItem (w2.alloc (.cells #[.int .i64 x.id, .slice Ax M cx] 30)) x [.int .i64 x.id, .slice Ax M cx] [] := by rw [HM.out]; exact sh_item hS (by rw [← HM.out]; exact hbW) HIN.out
        have hol := onlyTo_len (l := l) (ids := ids) (b := b) (k := k)
        have HOL := Lib.hid hol
        have hb0 := hbA.size
        clear hcb hd hv2 hol
        go_wp2_with (at_builtin; refine wpList_push _ rfl (.tmp 23) (.tmp 25) 24 rfl w 30 i0 _ 2 32 Tryz.underlying24 hi hz0 hz1 hz2 rfl (by omega) (fShS_good rItem_good hS) _ (onlyTo l ids b k) F rfl hvW hF ⟨w2.heap.size, 0, none⟩ 1 rfl x [.int .i64 x.id, .slice Ax M cx] [] hcl hy rfl _ hFm Fresh.nil hb0 (by have := HOL.out; omega) (by have := HOL.out; omega) hbW ?_; intro v' w' F' hv' hF' hb')
        go_roundg (n - (k + 1))
        case measure => omega
        case rel => exact ⟨k + 1, F', by omega, rfl, by go_num, by rw [HB.out]; exact hv', hF', hb'⟩
      · have HB := Lib.hid (HNO.out (by cases hq : ids.contains x.id <;> cases b <;> simp_all))
        have e1 : (ids.contains x.id == b) = false := by simpa using hcb
        obtain ⟨d, hd⟩ : ∃ d, d = ids.contains x.id := ⟨_, rfl⟩
        rw [← hd] at e1 ⊢
        clear hcb hd
        go_wp2
        go_roundg (n - (k + 1))
        case measure => omega
        case rel => exact ⟨k + 1, F, by omega, rfl, by go_num, by rw [HB.out]; exact hv2, hF, hbb⟩
    · obtain rfl : k = n := by omega
      rw [onlyTo_end (by rw [← L.out]; exact Nat.le_refl _)] at hv
      go_wp2
      go_ret
      exact ⟨_, rfl, ⟨F, hv, hF⟩, hb⟩
end Go.Proofs.YtpihighajaeabaaGreat
