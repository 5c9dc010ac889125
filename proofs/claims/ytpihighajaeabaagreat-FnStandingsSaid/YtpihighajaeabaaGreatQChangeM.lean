/- The smallest change that makes an item one of the best: plain model. -/
import Derived.Test.YtpihighajaeabaaGreatQBestI
import Derived.Test.YtpihighajaeabaaGreatQOwn3
import Derived.Test.YtpihighajaeabaaGreatQFind
namespace Go.Proofs.YtpihighajaeabaaGreat
open Go.RowKit
set_option linter.unusedVariables false

/-- a comparison that is the code of a preorder of the valid items -/
structure PO (c : GItem → GItem → Int) : Prop where
  code : ∀ x y, -1 ≤ c x y ∧ c x y ≤ 2
  refl : ∀ x, isItem x = true → c x x = 0
  anti : ∀ x y, isItem x = true → isItem y = true → c y x = neg2 (c x y)
  tr : ∀ x y z, isItem x = true → isItem y = true → isItem z = true → 0 ≤ c x y → c x y ≤ 1 → 0 ≤ c y z → c y z ≤ 1 → c x z = max (c x y) (c y z)
theorem cmpV_refl (w : GWish) (a : Int) : cmpV w a a = 0 := by
  unfold cmpV; repeat' split
  all_goals first | rfl | omega | contradiction
theorem reach_irr {l : List GPair} (h : arePairs l = true) {a : Int} (ha : 0 ≤ a ∧ a ≤ 9) : reachB l a a = false := by
  simp only [arePairs, Bool.and_eq_true, List.all_eq_true] at h
  have := h.2.2 a.toNat (List.mem_range.2 (by omega))
  rw [Int.toNat_of_nonneg ha.1] at this
  simpa using this
theorem reach_asym {l : List GPair} (h : arePairs l = true) {a b : Int} (ha : 0 ≤ a ∧ a ≤ 9) (hb : 0 ≤ b ∧ b ≤ 9) (h1 : reachB l a b = true) : reachB l b a = false := by
  rw [Bool.eq_false_iff]
  intro h2
  have := reach_trans hb h1 h2
  rw [reach_irr h ha] at this
  cases this
theorem cmpV_anti {w : GWish} (hw : isWish w = true) {a b : Int} (ha : 0 ≤ a ∧ a ≤ 9) (hb : 0 ≤ b ∧ b ≤ 9) : cmpV w b a = neg2 (cmpV w a b) := by
  by_cases h4 : w.kind = 4
  · have hp := isWish_pairs hw h4
    unfold cmpV; rw [if_pos h4, if_pos h4]
    by_cases e : a = b
    · rw [if_pos e, if_pos e.symm]; rfl
    · rw [if_neg e, if_neg (fun h => e h.symm)]
      rcases Bool.eq_false_or_eq_true (reachB w.pairs a b) with h1 | h1
      · rw [reach_asym hp ha hb h1, h1]; rfl
      · rcases Bool.eq_false_or_eq_true (reachB w.pairs b a) with h2 | h2
        · rw [h1, h2]; rfl
        · rw [h1, h2]; rfl
  · unfold cmpV; rw [if_neg h4, if_neg h4]; unfold neg2
    repeat' split
    all_goals omega
theorem cmpV_tr {w : GWish} (hw : isWish w = true) {a b c : Int} (ha : 0 ≤ a ∧ a ≤ 9) (hb : 0 ≤ b ∧ b ≤ 9) (hc : 0 ≤ c ∧ c ≤ 9) (h1 : 0 ≤ cmpV w a b) (h2 : cmpV w a b ≤ 1) (h3 : 0 ≤ cmpV w b c) (h4 : cmpV w b c ≤ 1) : cmpV w a c = max (cmpV w a b) (cmpV w b c) := by
  by_cases k4 : w.kind = 4
  · have hp := isWish_pairs hw k4
    by_cases e : a = b
    · subst e
      rw [cmpV_refl]; omega
    by_cases e2 : b = c
    · subst e2
      rw [cmpV_refl]; omega
    unfold cmpV at h1 h2 h3 h4 ⊢
    simp only [if_pos k4, if_neg e, if_neg e2] at h1 h2 h3 h4 ⊢
    rcases Bool.eq_false_or_eq_true (reachB w.pairs a b) with r1 | r1
    · rcases Bool.eq_false_or_eq_true (reachB w.pairs b c) with r2 | r2
      · have r3 := reach_trans hb r1 r2
        have e3 : a ≠ c := fun h => by subst h; rw [reach_irr hp ha] at r3; cases r3
        simp [r1, r2, r3, e3]
      · rcases Bool.eq_false_or_eq_true (reachB w.pairs c b) with r3 | r3
        · simp [r2, r3] at h3
        · simp [r2, r3] at h4
    · rcases Bool.eq_false_or_eq_true (reachB w.pairs b a) with r3 | r3
      · simp [r1, r3] at h1
      · simp [r1, r3] at h2
  · unfold cmpV at h1 h2 h3 h4 ⊢; simp only [if_neg k4] at h1 h2 h3 h4 ⊢
    generalize rankV w a = ra at *
    generalize rankV w b = rb at *
    generalize rankV w c = rc at *
    have t1 : ¬ rb < ra := fun hl => by
      rw [if_neg (by omega), if_pos hl] at h1; omega
    have t2 : ¬ rc < rb := fun hl => by
      rw [if_neg (by omega), if_pos hl] at h3; omega
    rw [if_neg t1, if_neg t2, if_neg (show ¬ rc < ra by omega)]
    by_cases u1 : ra < rb
    · rw [if_pos u1, if_pos (show ra < rc by omega)]; split <;> omega
    · rw [if_neg u1]
      by_cases u2 : rb < rc
      · rw [if_pos u2, if_pos (show ra < rc by omega)]; omega
      · rw [if_neg u2, if_neg (show ¬ ra < rc by omega)]; omega
theorem PO.base {w : GWish} (hw : isWish w = true) : PO (cmpItem w) := by
  have hf := isWish_field hw
  obtain ⟨f, hf2⟩ : ∃ f : Nat, w.field = f := ⟨w.field.toNat, by omega⟩
  have bd : ∀ x, isItem x = true → 0 ≤ valAt x w.field ∧ valAt x w.field ≤ 9 := fun x hx => by rw [hf2]; exact valAt_bd hx (by omega)
  refine ⟨fun x y => cmpV_code _ _ _, fun x hx => cmpV_refl _ _, fun x y hx hy => cmpV_anti hw (bd x hx) (bd y hy), fun x y z hx hy hz => cmpV_tr hw (bd x hx) (bd y hy) (bd z hz)⟩
theorem PO.dual {c : GItem → GItem → Int} (h : PO c) : PO (fun x y => neg2 (c x y)) := by
  refine ⟨fun x y => neg2_code (h.code x y), fun x hx => by rw [h.refl x hx]; rfl, fun x y hx hy => by rw [h.anti x y hx hy], fun x y z hx hy hz h1 h2 h3 h4 => ?_⟩
  rw [← h.anti x y hx hy] at h1 h2 ⊢
  rw [← h.anti y z hy hz] at h3 h4 ⊢
  rw [← h.anti x z hx hz, h.tr z y x hz hy hx h3 h4 h1 h2]
  omega
theorem code4 {a : Int} (h : -1 ≤ a ∧ a ≤ 2) : a = -1 ∨ a = 0 ∨ a = 1 ∨ a = 2 := by omega
theorem comb_refl (op : Int) : comb op 0 0 = 0 := by unfold comb; simp
theorem comb_anti (op : Int) {a b : Int} (ha : -1 ≤ a ∧ a ≤ 2) (hb : -1 ≤ b ∧ b ≤ 2) : comb op (neg2 a) (neg2 b) = neg2 (comb op a b) := by
  by_cases h1 : op = 1
  · subst h1
    rcases code4 ha with rfl | rfl | rfl | rfl <;> rcases code4 hb with rfl | rfl | rfl | rfl <;> decide
  by_cases h2 : op = 2
  · subst h2
    rcases code4 ha with rfl | rfl | rfl | rfl <;> rcases code4 hb with rfl | rfl | rfl | rfl <;> decide
  unfold comb
  rw [if_neg h1, if_neg h2, if_neg h1, if_neg h2]
  rcases code4 ha with rfl | rfl | rfl | rfl <;> rcases code4 hb with rfl | rfl | rfl | rfl <;> decide
theorem comb1_in {a b : Int} (ha : -1 ≤ a ∧ a ≤ 2) (hb : -1 ≤ b ∧ b ≤ 2) (h1 : 0 ≤ comb 1 a b) (h2 : comb 1 a b ≤ 1) : (0 ≤ a ∧ a ≤ 1) ∧ (0 ≤ b ∧ b ≤ 1) := by
  rcases code4 ha with rfl | rfl | rfl | rfl <;> rcases code4 hb with rfl | rfl | rfl | rfl <;> first | exact ⟨⟨by omega, by omega⟩, by omega, by omega⟩ | exact absurd h1 (by decide) | exact absurd h2 (by decide)
theorem comb1_max {a b : Int} (ha : 0 ≤ a ∧ a ≤ 1) (hb : 0 ≤ b ∧ b ≤ 1) : comb 1 a b = max a b := by
  have ea : a = 0 ∨ a = 1 := by omega
  have eb : b = 0 ∨ b = 1 := by omega
  rcases ea with rfl | rfl <;> rcases eb with rfl | rfl <;> decide
theorem comb_tr {op : Int} {a1 b1 a2 b2 a3 b3 : Int} (ha1 : -1 ≤ a1 ∧ a1 ≤ 2) (hb1 : -1 ≤ b1 ∧ b1 ≤ 2) (ha2 : -1 ≤ a2 ∧ a2 ≤ 2) (hb2 : -1 ≤ b2 ∧ b2 ≤ 2)
    (ha : 0 ≤ a1 → a1 ≤ 1 → 0 ≤ a2 → a2 ≤ 1 → a3 = max a1 a2) (hb : 0 ≤ b1 → b1 ≤ 1 → 0 ≤ b2 → b2 ≤ 1 → b3 = max b1 b2)
    (h1 : 0 ≤ comb op a1 b1) (h2 : comb op a1 b1 ≤ 1) (h3 : 0 ≤ comb op a2 b2) (h4 : comb op a2 b2 ≤ 1) : comb op a3 b3 = max (comb op a1 b1) (comb op a2 b2) := by
  by_cases k1 : op = 1
  · subst k1
    have p := comb1_in ha1 hb1 h1 h2
    have q := comb1_in ha2 hb2 h3 h4
    have e1 := ha p.1.1 p.1.2 q.1.1 q.1.2
    have e2 := hb p.2.1 p.2.2 q.2.1 q.2.2
    rw [comb1_max p.1 p.2, comb1_max q.1 q.2, comb1_max (by omega) (by omega)]
    omega
  by_cases k2 : op = 2
  · subst k2
    have e : ∀ a b : Int, comb 2 a b = if a = 0 then b else a := fun a b => rfl
    rw [e] at h1 h2 h3 h4 ⊢
    rw [e, e]
    by_cases z1 : a1 = 0
    · rw [if_pos z1] at h1 h2 ⊢
      by_cases z2 : a2 = 0
      · rw [if_pos z2] at h3 h4 ⊢
        rw [if_pos (by omega)]
        omega
      · rw [if_neg z2] at h3 h4 ⊢
        rw [if_neg (by omega)]
        omega
    · rw [if_neg z1] at h1 h2 ⊢
      by_cases z2 : a2 = 0
      · rw [if_pos z2] at h3 h4 ⊢
        rw [if_neg (by omega)]
        omega
      · rw [if_neg z2] at h3 h4 ⊢
        rw [if_neg (by omega)]
        omega
  have e : ∀ a b : Int, comb op a b = if a = b then a else 2 := fun a b => by unfold comb; rw [if_neg k1, if_neg k2]
  rw [e] at h1 h2 h3 h4 ⊢
  rw [e, e]
  by_cases z1 : a1 = b1
  · rw [if_pos z1] at h1 h2 ⊢
    by_cases z2 : a2 = b2
    · rw [if_pos z2] at h3 h4 ⊢
      rw [if_pos (by omega)]
      omega
    · rw [if_neg z2] at h4; omega
  · rw [if_neg z1] at h2; omega
theorem PO.two {op : Int} {a b : GItem → GItem → Int} (ha : PO a) (hb : PO b) : PO (fun x y => comb op (a x y) (b x y)) := by
  refine ⟨fun x y => comb_code (ha.code x y) (hb.code x y), fun x hx => by rw [ha.refl x hx, hb.refl x hx, comb_refl], fun x y hx hy => by rw [ha.anti x y hx hy, hb.anti x y hx hy]; exact comb_anti op (ha.code x y) (hb.code x y), fun x y z hx hy hz h1 h2 h3 h4 => ?_⟩
  exact comb_tr (ha.code x y) (hb.code x y) (ha.code y z) (hb.code y z) (ha.tr x y z hx hy hz) (hb.tr x y z hx hy hz) h1 h2 h3 h4
theorem snocF {α : Type} {l : List α} (h : 0 < l.length) : ∃ T a, l = T ++ [a] := ⟨l.dropLast, l.getLast (fun e => by rw [e] at h; simp at h), (List.dropLast_concat_getLast _).symm⟩
theorem stack_PO {e : List GNode} (hE : isExpr e = true) : ∀ k, k ≤ e.length → ∃ fs : List (GItem → GItem → Int), (∀ c ∈ fs, PO c) ∧ (∀ x y, stackAt e x y k = fs.map (fun c => c x y)) ∧ depthOf (e.drop k) fs.length = some 1
  | 0, _ => ⟨[], by simp, fun x y => by simp [stackAt], by simpa using isExpr_depth hE⟩
  | k + 1, hk => by
    obtain ⟨fs, h1, h2, h3⟩ := stack_PO hE k (by omega)
    obtain ⟨n, hn⟩ : ∃ n, e[k]? = some n := ⟨e[k], List.getElem?_eq_getElem (by omega)⟩
    obtain ⟨ho, hd⟩ := depth_step h3 hn
    have hge := nodeOk_ge ho
    by_cases h0 : n.op = 0
    · refine ⟨fs ++ [cmpItem n.wish], fun c hc => ?_, fun x y => ?_, ?_⟩
      · rcases List.mem_append.1 hc with hc | hc
        · exact h1 c hc
        · rw [List.mem_singleton] at hc; rw [hc]; exact PO.base (nodeOk_wish ho h0)
      · rw [stackAt_next hn, h2, stack_base h0]; simp
      · rw [← hd]; congr 1; simp [opnds, h0]
    · by_cases h3' : n.op = 3
      · have : opnds n.op = 1 := by unfold opnds; rw [if_neg h0, if_pos h3']
        rw [this] at hge hd
        obtain ⟨T, c, rfl⟩ := snocF (l := fs) (by omega)
        refine ⟨T ++ [fun x y => neg2 (c x y)], fun d hc => ?_, fun x y => ?_, ?_⟩
        · rcases List.mem_append.1 hc with hc | hc
          · exact h1 d (by simp [hc])
          · rw [List.mem_singleton] at hc; rw [hc]; exact PO.dual (h1 c (by simp))
        · rw [stackAt_next hn, h2, List.map_append, List.map_cons, List.map_nil, stack_dual h3']; simp
        · rw [← hd]; congr 1; simp
      · have h2' : opnds n.op = 2 := by unfold opnds; rw [if_neg h0, if_neg h3']
        rw [h2'] at hge hd
        obtain ⟨T', b, rfl⟩ := snocF (l := fs) (by omega)
        obtain ⟨T, a, rfl⟩ := snocF (l := T') (by simp at hge; omega)
        refine ⟨T ++ [fun x y => comb n.op (a x y) (b x y)], fun d hc => ?_, fun x y => ?_, ?_⟩
        · rcases List.mem_append.1 hc with hc | hc
          · exact h1 d (by simp [hc])
          · rw [List.mem_singleton] at hc; rw [hc]; exact PO.two (h1 a (by simp)) (h1 b (by simp))
        · rw [stackAt_next hn, h2, List.append_assoc, List.map_append, List.map_append, List.map_cons, List.map_cons, List.map_nil, List.singleton_append, stack_two h0 h3']; simp
        · rw [← hd]; congr 1; simp <;> omega
theorem cmpBy_PO {e : List GNode} (hE : isExpr e = true) : PO (cmpBy e) := by
  obtain ⟨fs, h1, h2, h3⟩ := stack_PO hE e.length (Nat.le_refl _)
  rw [List.drop_length] at h3
  simp only [depthOf] at h3
  have hl : fs.length = 1 := by injection h3 with h3; omega
  match fs, hl with
  | [c], _ =>
    have hc : cmpBy e = c := by
      funext x y
      rw [← stackAt_end (k := e.length) (Nat.le_refl _), h2]; rfl
    rw [hc]; exact h1 c (by simp)
theorem cmpBy_vals {e : List GNode} {x x' y y' : GItem} (hx : x.vals = x'.vals) (hy : y.vals = y'.vals) : cmpBy e x y = cmpBy e x' y' := by
  have : stackStep x y = stackStep x' y' := by
    funext st n
    unfold stackStep cmpItem valAt; rw [hx, hy]
  unfold cmpBy; rw [this]
/-- one that nothing beats -/
theorem PO.top {c : GItem → GItem → Int} (h : PO c) : ∀ {l : List GItem}, l ≠ [] → (∀ x ∈ l, isItem x = true) → ∃ m ∈ l, ∀ y ∈ l, c y m ≠ 1
  | [], hl, _ => absurd rfl hl
  | x :: l, _, hi => by
    have hx := hi x (by simp)
    by_cases hl : l = []
    · subst hl
      exact ⟨x, by simp, fun y hy => by rw [List.mem_singleton] at hy; rw [hy, h.refl x hx]; omega⟩
    · obtain ⟨m, hm, ht⟩ := PO.top h hl (fun y hy => hi y (by simp [hy]))
      have hmi := hi m (by simp [hm])
      by_cases hb : c x m = 1
      · refine ⟨x, by simp, fun y hy he => ?_⟩
        rcases List.mem_cons.1 hy with rfl | hy
        · rw [h.refl _ hx] at he; omega
        · refine ht y hy ?_
          rw [h.tr y x m (hi y (by simp [hy])) hx hmi (by omega) (by omega) (by omega) (by omega)]; omega
      · exact ⟨m, by simp [hm], fun y hy => by
          rcases List.mem_cons.1 hy with rfl | hy
          · exact hb
          · exact ht y hy⟩
theorem best_pos {l : List GItem} {e : List GNode} (hE : isExpr e = true) (hl : l ≠ []) (hi : ∀ x ∈ l, isItem x = true) : bestM l e ≠ [] := by
  obtain ⟨m, hm, ht⟩ := (cmpBy_PO hE).top hl hi
  have : m.id ∈ bestM l e := by
    unfold bestM
    refine List.mem_map.2 ⟨m, List.mem_filter.2 ⟨hm, ?_⟩, rfl⟩
    unfold freeIn
    rw [Bool.not_eq_true', List.any_eq_false]
    intro y hy
    simp only [beats, decide_eq_true_iff]
    exact ht y hy
  intro h; rw [h] at this; simp at this
end Go.Proofs.YtpihighajaeabaaGreat

namespace Go.Proofs.YtpihighajaeabaaGreat
open Go.RowKit
set_option linter.unusedVariables false

def dist (a b : Int) : Int := if a - b < b - a then b - a else a - b
def costL : List Int → List Int → Int
  | a :: p, b :: q => dist a b + costL p q
  | _, _ => 0
def costOf (x y : GItem) : Int := if isItem x && isItem y then costL x.vals y.vals else 0
theorem costL_step {xs ys : List Int} {k : Nat} {x y : Int} (hx : xs[k]? = some x) (hy : ys[k]? = some y) : costL (xs.drop k) (ys.drop k) = dist x y + costL (xs.drop (k + 1)) (ys.drop (k + 1)) := by
  rw [drop_cons hx, drop_cons hy, costL]
set_option maxHeartbeats 800000 in
theorem S_CostOf (w : World) (x y : GItem) (v1 v2 : Value) (h1 : Rd rInts w x.vals [v1]) (h2 : Rd rInts w y.vals [v2]) :
    Calls Tryz.prog 289 #[.agg #[.int .i64 x.id, v1], .agg #[.int .i64 y.id, v2]] w (Ret w (.int .i64 (costOf x y))) := by
  have B0 : Bw w ((w.alloc (.cells #[.int .i64 x.id, v1] 30)).alloc (.cells #[.int .i64 y.id, v2] 30)) := ((Bw.refl w).alloc _).alloc _
  obtain ⟨A1, n1, c1, rfl, a1, a2, a3⟩ := rSl_open h1
  obtain ⟨A2, n2, c2, rfl, b1, b2, b3⟩ := rSl_open h2
  have L1 := Lib.hid a1
  have L2 := Lib.hid b1
  clear a1 b1
  unfold maxLen at a3 b3
  go_enter Tryz.func289, Tryz.ntmps289
  go_wp2_with fail
  refine (S_IsItem _ x _ (h1.bw rInts_good B0)).mono ?_
  rintro e w2 ⟨rfl, hb2⟩
  have hc2 := bw_cell hb2
  by_cases i1 : isItem x = true
  · go_wp2_with fail
    refine (S_IsItem _ y _ (h2.bw rInts_good (B0.then hb2))).mono ?_
    rintro e w3 ⟨rfl, hb3⟩
    have B3 := hb2.then hb3
    have hc3 := bw_cell B3
    clear hc2
    by_cases i2 : isItem y = true
    · have hn1 : n1 = 3 := L1.out.trans (isItem_len i1)
      have hn2 : n2 = 3 := L2.out.trans (isItem_len i2)
      subst hn1 hn2
      have fin : costOf x y = costL x.vals y.vals := by simp [costOf, i1, i2]
      have FIN := Lib.hid fin
      clear fin
      go_wp2
      go_loopw [5, 6] (fun s i w' => ∃ (k : Nat) (n : Int), k ≤ 3 ∧ i = .int .i64 k ∧ s = .int .i64 n ∧ 0 ≤ n ∧ n ≤ 9 * k ∧ Hid (costOf x y = n + costL (x.vals.drop k) (y.vals.drop k)) ∧ Bw ((w.alloc (.cells #[.int .i64 x.id, .slice A1 3 c1] 30)).alloc (.cells #[.int .i64 y.id, .slice A2 3 c2] 30)) w') (fun s i _ => 3 - (intOf i).toNat)
      case atStart => exact ⟨0, 0, by omega, rfl, rfl, by omega, by omega, by show _ = _; rw [FIN.out]; simp, B3⟩
      case round =>
        obtain ⟨k, n, hk, rfl, rfl, g1, g2, HE, hb⟩ := hrel
        have hc := bw_cell hb
        clear hc3
        by_cases hlt : k < 3
        · obtain ⟨p, hp⟩ := get_of_lt (xs := x.vals) (k := k) (by rw [← L1.out]; exact hlt)
          obtain ⟨q, hq⟩ := get_of_lt (xs := y.vals) (k := k) (by rw [← L2.out]; exact hlt)
          obtain ⟨ba, oa, rfl, _, hcx⟩ := rInts_at (h1.bw rInts_good (B0.then hb)) hp
          obtain ⟨bb, ob, rfl, _, hcy⟩ := rInts_at (h2.bw rInts_good (B0.then hb)) hq
          have ⟨p1, p2⟩ := isItem_val i1 (List.mem_of_getElem? hp)
          have ⟨q1, q2⟩ := isItem_val i2 (List.mem_of_getElem? hq)
          have HS := Lib.hid (costL_step hp hq)
          clear hp hq h1 h2
          go_wp2
          go_quiet (fail)
          go_wp2
          have hd : 0 ≤ dist p q ∧ dist p q ≤ 9 := by unfold dist; split <;> omega
          go_roundw
          case rel => exact ⟨k + 1, n + dist p q, by omega, by go_num, rfl, by omega, by omega, by show _ = _; rw [HE.out, HS.out]; omega, hb.drewN _⟩
          case measure => simp [intOf]; omega
        · obtain rfl : k = 3 := by omega
          go_wp2
          go_ret
          exact Ret.int (by rw [HE.out, List.drop_of_length_le (by rw [← L1.out]; omega)]; simp [costL]) (B0.then hb)
    · have i2' : isItem y = false := by simpa using i2
      clear i2
      go_wp2
      go_ret
      exact Ret.int (by simp [costOf, i2']) (B0.then B3)
  · have i1' : isItem x = false := by simpa using i1
    clear i1
    go_wp2
    go_ret
    exact Ret.int (by simp [costOf, i1']) (B0.then hb2)
set_option maxHeartbeats 800000 in
theorem I_CostOf (w : World) (x y : GItem) (v1 v2 : Value) (h1 : Rd rInts w x.vals [v1]) (h2 : Rd rInts w y.vals [v2]) :
    Calls Tryz.prog 286 #[.agg #[.int .i64 x.id, v1], .agg #[.int .i64 y.id, v2]] w (Ret w (.int .i64 (costOf x y))) := by
  have B0 : Bw w ((w.alloc (.cells #[.int .i64 x.id, v1] 30)).alloc (.cells #[.int .i64 y.id, v2] 30)) := ((Bw.refl w).alloc _).alloc _
  obtain ⟨A1, n1, c1, rfl, a1, a2, a3⟩ := rSl_open h1
  obtain ⟨A2, n2, c2, rfl, b1, b2, b3⟩ := rSl_open h2
  have L1 := Lib.hid a1
  have L2 := Lib.hid b1
  clear a1 b1
  unfold maxLen at a3 b3
  go_enter Tryz.func286, Tryz.ntmps286
  go_wp2_with fail
  refine (I_IsItem _ x _ (h1.bw rInts_good B0)).mono ?_
  rintro e w2 ⟨rfl, hb2⟩
  have hc2 := bw_cell hb2
  by_cases i1 : isItem x = true
  · go_wp2_with fail
    refine (I_IsItem _ y _ (h2.bw rInts_good (B0.then hb2))).mono ?_
    rintro e w3 ⟨rfl, hb3⟩
    have B3 := hb2.then hb3
    have hc3 := bw_cell B3
    clear hc2
    by_cases i2 : isItem y = true
    · have hn1 : n1 = 3 := L1.out.trans (isItem_len i1)
      have hn2 : n2 = 3 := L2.out.trans (isItem_len i2)
      subst hn1 hn2
      have fin : costOf x y = costL x.vals y.vals := by simp [costOf, i1, i2]
      have FIN := Lib.hid fin
      clear fin
      go_wp2
      go_loopw [5, 19] (fun s i w' => ∃ (k : Nat) (n : Int), k ≤ 3 ∧ i = .int .i64 k ∧ s = .int .i64 n ∧ 0 ≤ n ∧ n ≤ 9 * k ∧ Hid (costOf x y = n + costL (x.vals.drop k) (y.vals.drop k)) ∧ Bw ((w.alloc (.cells #[.int .i64 x.id, .slice A1 3 c1] 30)).alloc (.cells #[.int .i64 y.id, .slice A2 3 c2] 30)) w') (fun s i _ => 3 - (intOf i).toNat)
      case atStart => exact ⟨0, 0, by omega, rfl, rfl, by omega, by omega, by show _ = _; rw [FIN.out]; simp, B3⟩
      case round =>
        obtain ⟨k, n, hk, rfl, rfl, g1, g2, HE, hb⟩ := hrel
        have hc := bw_cell hb
        clear hc3
        by_cases hlt : k < 3
        · obtain ⟨p, hp⟩ := get_of_lt (xs := x.vals) (k := k) (by rw [← L1.out]; exact hlt)
          obtain ⟨q, hq⟩ := get_of_lt (xs := y.vals) (k := k) (by rw [← L2.out]; exact hlt)
          obtain ⟨ba, oa, rfl, _, hcx⟩ := rInts_at (h1.bw rInts_good (B0.then hb)) hp
          obtain ⟨bb, ob, rfl, _, hcy⟩ := rInts_at (h2.bw rInts_good (B0.then hb)) hq
          have ⟨p1, p2⟩ := isItem_val i1 (List.mem_of_getElem? hp)
          have ⟨q1, q2⟩ := isItem_val i2 (List.mem_of_getElem? hq)
          have HS := Lib.hid (costL_step hp hq)
          clear hp hq h1 h2
          go_wp2
          go_quiet (fail)
          go_wp2
          have hd : 0 ≤ dist p q ∧ dist p q ≤ 9 := by unfold dist; split <;> omega
          go_roundw
          case rel => exact ⟨k + 1, n + dist p q, by omega, by go_num, rfl, by omega, by omega, by show _ = _; rw [HE.out, HS.out]; omega, hb.drewN _⟩
          case measure => simp [intOf]; omega
        · obtain rfl : k = 3 := by omega
          go_wp2
          go_ret
          exact Ret.int (by rw [HE.out, List.drop_of_length_le (by rw [← L1.out]; omega)]; simp [costL]) (B0.then hb)
    · have i2' : isItem y = false := by simpa using i2
      clear i2
      go_wp2
      go_ret
      exact Ret.int (by simp [costOf, i2']) (B0.then B3)
  · have i1' : isItem x = false := by simpa using i1
    clear i1
    go_wp2
    go_ret
    exact Ret.int (by simp [costOf, i1']) (B0.then hb2)
end Go.Proofs.YtpihighajaeabaaGreat

namespace Go.Proofs.YtpihighajaeabaaGreat
open Go.RowKit
set_option linter.unusedVariables false
def candI (id : Int) (n : Nat) : GItem := ⟨id, [(n : Int) / 100, (n : Int) / 10 % 10, (n : Int) % 10]⟩
def beatsO (e : List GNode) (id : Int) (y x : GItem) : Bool := decide (y.id ≠ id) && beats e y x
def freeO (l : List GItem) (e : List GNode) (id : Int) (x : GItem) : Bool := !(l.any fun y => beatsO e id y x)
def chStep (l : List GItem) (e : List GNode) (p : GItem) (id : Int) (s : GItem × Int) (n : Nat) : GItem × Int :=
  if (decide (s.2 < 0) || decide (costOf p (candI id n) < s.2)) && freeO l e id (candI id n) then (candI id n, costOf p (candI id n)) else s
def chTo (l : List GItem) (e : List GNode) (p : GItem) (id : Int) : Nat → GItem × Int
  | 0 => (⟨0, []⟩, -1)
  | n + 1 => chStep l e p id (chTo l e p id n) n
def itemAt (l : List GItem) (id : Int) : GItem := (l[(findIdx l id).toNat]?).getD ⟨0, []⟩
def changeOk (l : List GItem) (e : List GNode) (id : Int) : Bool := areBoth l e && decide (0 ≤ findIdx l id)
def changeX (l : List GItem) (e : List GNode) (id : Int) : GItem := if changeOk l e id then (chTo l e (itemAt l id) id 1000).1 else ⟨0, []⟩
def changeC (l : List GItem) (e : List GNode) (id : Int) : Int := if changeOk l e id then (chTo l e (itemAt l id) id 1000).2 else 0
theorem itemAt_of {l : List GItem} {id : Int} {j : Nat} {x : GItem} (h : findIdx l id = (j : Int)) (hx : l[j]? = some x) : itemAt l id = x := by
  unfold itemAt; rw [h]; simp [hx]
theorem dist_nn (a b : Int) : 0 ≤ dist a b := by unfold dist; split <;> omega
theorem dist_comm (a b : Int) : dist a b = dist b a := by unfold dist; split <;> split <;> omega
theorem costL_nn : ∀ xs ys, 0 ≤ costL xs ys
  | a :: p, b :: q => by have := dist_nn a b; have := costL_nn p q; rw [costL]; omega
  | [], _ => by simp [costL]
  | _ :: _, [] => by simp [costL]
theorem costL_comm : ∀ xs ys, costL xs ys = costL ys xs
  | a :: p, b :: q => by rw [costL, costL, dist_comm a b, costL_comm p q]
  | [], [] => rfl
  | [], _ :: _ => rfl
  | _ :: _, [] => rfl
theorem costOf_nn (x y : GItem) : 0 ≤ costOf x y := by unfold costOf; split; exact costL_nn _ _; exact Int.le_refl _
theorem costOf_comm (x y : GItem) : costOf x y = costOf y x := by unfold costOf; rw [Bool.and_comm, costL_comm]
theorem cand_item {id : Int} (h : 0 ≤ id ∧ id ≤ 99) {n : Nat} (hn : n < 1000) : isItem (candI id n) = true := by
  simp only [isItem, candI, inB, Bool.and_eq_true, decide_eq_true_eq, List.all_cons, List.all_nil, List.length_cons, List.length_nil]
  refine ⟨decide_eq_true h, by trivial, ?_⟩
  exact ⟨⟨by omega, by omega⟩, ⟨by omega, by omega⟩, ⟨by omega, by omega⟩, trivial⟩
theorem cand_of {x : GItem} (h : isItem x = true) (id : Int) : ∃ n, n < 1000 ∧ (candI id n).vals = x.vals := by
  have hl := isItem_len h
  have hv := fun v hv => isItem_val h (v := v) hv
  obtain ⟨i, vs⟩ := x
  dsimp only at hl hv
  match vs, hl with
  | [a, b, c], _ =>
    have ha := hv a (by simp)
    have hb := hv b (by simp)
    have hc := hv c (by simp)
    refine ⟨a.toNat * 100 + b.toNat * 10 + c.toNat, by omega, ?_⟩
    simp only [candI, List.cons.injEq, and_true]
    refine ⟨by omega, by omega, by omega⟩
theorem chTo_sign (l : List GItem) (e : List GNode) (p : GItem) (id : Int) : ∀ n, (chTo l e p id n = (⟨0, []⟩, -1)) ∨ 0 ≤ (chTo l e p id n).2
  | 0 => .inl rfl
  | n + 1 => by
    rw [chTo, chStep]
    split
    · exact .inr (costOf_nn _ _)
    · exact chTo_sign l e p id n
theorem chTo_found {l : List GItem} {e : List GNode} {p : GItem} {id : Int} {m : Nat} (hf : freeO l e id (candI id m) = true) : ∀ {n}, m < n → 0 ≤ (chTo l e p id n).2
  | 0, h => absurd h (Nat.not_lt_zero _)
  | n + 1, h => by
    rw [chTo, chStep]
    split
    · exact costOf_nn _ _
    · rename_i hc
      by_cases hm : m = n
      · subst hm
        rcases chTo_sign l e p id m with h1 | h1
        · rw [h1, hf] at hc
          simp at hc
        · exact h1
      · exact chTo_found hf (by omega)
theorem free_exists {l : List GItem} {e : List GNode} {id : Int} (hE : isExpr e = true) (hi : ∀ x ∈ l, isItem x = true) (hid : 0 ≤ id ∧ id ≤ 99) : ∃ m, m < 1000 ∧ freeO l e id (candI id m) = true := by
  by_cases hl : l.filter (fun y => decide (y.id ≠ id)) = []
  · refine ⟨0, by omega, ?_⟩
    unfold freeO
    rw [Bool.not_eq_true', List.any_eq_false]
    intro y hy
    have := List.filter_eq_nil_iff.1 hl y hy
    unfold beatsO
    intro hc
    rw [Bool.and_eq_true] at hc
    exact this hc.1
  · obtain ⟨t, ht, hb⟩ := (cmpBy_PO hE).top hl (fun x hx => hi x (List.mem_filter.1 hx).1)
    obtain ⟨n, hn, hv⟩ := cand_of (hi t (List.mem_filter.1 ht).1) id
    refine ⟨n, hn, ?_⟩
    unfold freeO
    rw [Bool.not_eq_true', List.any_eq_false]
    intro y hy
    unfold beatsO beats
    intro hc
    rw [Bool.and_eq_true, decide_eq_true_eq, decide_eq_true_eq] at hc
    have h2 := hc.2
    rw [cmpBy_vals (x' := y) (y' := t) rfl hv] at h2
    exact hb y (List.mem_filter.2 ⟨hy, by simpa using hc.1⟩) h2
theorem change_pos {l : List GItem} {e : List GNode} {p : GItem} {id : Int} (hB : areBoth l e = true) (hid : 0 ≤ id ∧ id ≤ 99) : 0 ≤ (chTo l e p id 1000).2 := by
  obtain ⟨m, hm, hf⟩ := free_exists (areBoth_expr hB) (fun x hx => areItems_mem (areBoth_items hB) hx) hid
  exact chTo_found hf hm
theorem chTo_len (l : List GItem) (e : List GNode) (p : GItem) (id : Int) : ∀ n, (chTo l e p id n).1.vals.length ≤ 3
  | 0 => Nat.zero_le _
  | n + 1 => by
    rw [chTo, chStep]
    split
    · exact Nat.le_refl _
    · exact chTo_len l e p id n
theorem chTo_at (l : List GItem) (e : List GNode) (p : GItem) (id : Int) : ∀ n, 0 ≤ (chTo l e p id n).2 → ∃ m, m < n ∧ chTo l e p id n = (candI id m, costOf p (candI id m)) ∧ freeO l e id (candI id m) = true
  | 0, h => absurd h (by simp [chTo])
  | n + 1, h => by
    rw [chTo, chStep] at h ⊢
    split
    · rename_i hc
      exact ⟨n, by omega, rfl, (by simpa using hc : _ ∧ _).2⟩
    · rename_i hc
      rw [if_neg hc] at h
      obtain ⟨m, hm, h1⟩ := chTo_at l e p id n h
      exact ⟨m, by omega, h1⟩
theorem chTo_ge (l : List GItem) (e : List GNode) (p : GItem) (id : Int) (n : Nat) : -1 ≤ (chTo l e p id n).2 := by
  rcases chTo_sign l e p id n with h | h
  · rw [h]; omega
  · omega
theorem chTo_yes {l : List GItem} {e : List GNode} {p : GItem} {id : Int} {n : Nat} (h1 : (chTo l e p id n).2 < 0 ∨ costOf p (candI id n) < (chTo l e p id n).2) (h2 : freeO l e id (candI id n) = true) : chTo l e p id (n + 1) = (candI id n, costOf p (candI id n)) := by
  rw [chTo, chStep, h2, if_pos]
  simpa using h1
theorem chTo_no {l : List GItem} {e : List GNode} {p : GItem} {id : Int} {n : Nat} (h : ¬ ((chTo l e p id n).2 < 0 ∨ costOf p (candI id n) < (chTo l e p id n).2) ∨ freeO l e id (candI id n) = false) : chTo l e p id (n + 1) = chTo l e p id n := by
  rw [chTo, chStep, if_neg]
  intro hc
  simp only [Bool.and_eq_true, Bool.or_eq_true, decide_eq_true_eq] at hc
  rcases h with h | h
  · exact h hc.1
  · rw [h] at hc; exact absurd hc.2 (by simp)
/-- three numbers laid in a row -/
theorem fInts_three {w : World} {a b c : Int} : fInts (w.alloc (.cells #[.int .i64 a, .int .i64 b, .int .i64 c] 3)) [a, b, c] [.slice (some ⟨w.heap.size, 0, none⟩) 3 3] [w.heap.size] := by
  refine ⟨_, [[.int .i64 a], [.int .i64 b], [.int .i64 c]], [[], [], []], rfl, ⟨by simp, .inr ⟨w.heap.size, 3, _, rfl, Nat.zero_le _, heap_alloc_new w _, Nat.le_refl _, by unfold maxLen; omega, rfl, by simp⟩⟩, ?_, by simp [Value.ownBlock]⟩
  exact ⟨⟨⟨rfl, rfl⟩, rfl⟩, ⟨⟨rfl, rfl⟩, rfl⟩, ⟨⟨rfl, rfl⟩, rfl⟩, trivial⟩
theorem fInts_nil (w : World) : fInts w [] [.slice none 0 0] [] := ⟨_, [], [], rfl, World.ownsRow_nil _ _ _ _, trivial, by simp [Value.ownBlock]⟩
end Go.Proofs.YtpihighajaeabaaGreat
