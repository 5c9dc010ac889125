/- Comparisons of values and items in the program. -/
import Derived.Test.YtpihighajaeabaaGreatQModel3
import Derived.Test.YtpihighajaeabaaGreatQOwn3
import Derived.Test.YtpihighajaeabaaGreatQFind
import Derived.Test.YtpihighajaeabaaGreatQReach
import Derived.Test.YtpihighajaeabaaGreatQWishI
import Derived.Test.YtpihighajaeabaaGreatQTree
namespace Go.Proofs.YtpihighajaeabaaGreat
open Go.RowKit
set_option linter.unusedVariables false

/-- a comparison that is the code of a preorder of the valid items -/
structure PO (c : GItem → GItem → Int) : Prop where
  code : ∀ x y, -1 ≤ c x y ∧ c x y ≤ 2
  refl : ∀ x, isItem x = true → c x x = 0
  anti : ∀ x y, isItem x = true → isItem y = true → c y x = neg2 (c x y)
  tr : ∀ x y z, isItem x = true → isItem y = true → isItem z = true → 0 ≤ c x y → c x y ≤ 1 → 0 ≤ c y z → c y z ≤ 1 → c x z = max (c x y) (c y z)
theorem cmpV_refl (w : GWish) (a : Int) : cmpV w a a = 0 := by
  unfold cmpV; repeat' split
  all_goals first | rfl | omega | contradiction
theorem reach_irr {l : List GPair} (h : arePairs l = true) {a : Int} (ha : 0 ≤ a ∧ a ≤ 9) : reachB l a a = false := by
  simp only [arePairs, Bool.and_eq_true, List.all_eq_true] at h
  have := h.2.2 a.toNat (List.mem_range.2 (by omega))
  rw [Int.toNat_of_nonneg ha.1] at this
  simpa using this
theorem reach_asym {l : List GPair} (h : arePairs l = true) {a b : Int} (ha : 0 ≤ a ∧ a ≤ 9) (hb : 0 ≤ b ∧ b ≤ 9) (h1 : reachB l a b = true) : reachB l b a = false := by
  rw [Bool.eq_false_iff]
  intro h2
  have := reach_trans hb h1 h2
  rw [reach_irr h ha] at this
  cases this
theorem cmpV_anti {w : GWish} (hw : isWish w = true) {a b : Int} (ha : 0 ≤ a ∧ a ≤ 9) (hb : 0 ≤ b ∧ b ≤ 9) : cmpV w b a = neg2 (cmpV w a b) := by
  by_cases h4 : w.kind = 4
  · have hp := isWish_pairs hw h4
    unfold cmpV; rw [if_pos h4, if_pos h4]
    by_cases e : a = b
    · rw [if_pos e, if_pos e.symm]; rfl
    · rw [if_neg e, if_neg (fun h => e h.symm)]
      rcases Bool.eq_false_or_eq_true (reachB w.pairs a b) with h1 | h1
      · rw [reach_asym hp ha hb h1, h1]; rfl
      · rcases Bool.eq_false_or_eq_true (reachB w.pairs b a) with h2 | h2
        · rw [h1, h2]; rfl
        · rw [h1, h2]; rfl
  · unfold cmpV; rw [if_neg h4, if_neg h4]; unfold neg2
    repeat' split
    all_goals omega
theorem cmpV_tr {w : GWish} (hw : isWish w = true) {a b c : Int} (ha : 0 ≤ a ∧ a ≤ 9) (hb : 0 ≤ b ∧ b ≤ 9) (hc : 0 ≤ c ∧ c ≤ 9) (h1 : 0 ≤ cmpV w a b) (h2 : cmpV w a b ≤ 1) (h3 : 0 ≤ cmpV w b c) (h4 : cmpV w b c ≤ 1) : cmpV w a c = max (cmpV w a b) (cmpV w b c) := by
  by_cases k4 : w.kind = 4
  · have hp := isWish_pairs hw k4
    by_cases e : a = b
    · subst e
      rw [cmpV_refl]; omega
    by_cases e2 : b = c
    · subst e2
      rw [cmpV_refl]; omega
    unfold cmpV at h1 h2 h3 h4 ⊢
    simp only [if_pos k4, if_neg e, if_neg e2] at h1 h2 h3 h4 ⊢
    rcases Bool.eq_false_or_eq_true (reachB w.pairs a b) with r1 | r1
    · rcases Bool.eq_false_or_eq_true (reachB w.pairs b c) with r2 | r2
      · have r3 := reach_trans hb r1 r2
        have e3 : a ≠ c := fun h => by subst h; rw [reach_irr hp ha] at r3; cases r3
        simp [r1, r2, r3, e3]
      · rcases Bool.eq_false_or_eq_true (reachB w.pairs c b) with r3 | r3
        · simp [r2, r3] at h3
        · simp [r2, r3] at h4
    · rcases Bool.eq_false_or_eq_true (reachB w.pairs b a) with r3 | r3
      · simp [r1, r3] at h1
      · simp [r1, r3] at h2
  · unfold cmpV at h1 h2 h3 h4 ⊢; simp only [if_neg k4] at h1 h2 h3 h4 ⊢
    generalize rankV w a = ra at *
    generalize rankV w b = rb at *
    generalize rankV w c = rc at *
    have t1 : ¬ rb < ra := fun hl => by
      rw [if_neg (by omega), if_pos hl] at h1; omega
    have t2 : ¬ rc < rb := fun hl => by
      rw [if_neg (by omega), if_pos hl] at h3; omega
    rw [if_neg t1, if_neg t2, if_neg (show ¬ rc < ra by omega)]
    by_cases u1 : ra < rb
    · rw [if_pos u1, if_pos (show ra < rc by omega)]; split <;> omega
    · rw [if_neg u1]
      by_cases u2 : rb < rc
      · rw [if_pos u2, if_pos (show ra < rc by omega)]; omega
      · rw [if_neg u2, if_neg (show ¬ ra < rc by omega)]; omega
theorem PO.base {w : GWish} (hw : isWish w = true) : PO (cmpItem w) := by
  have hf := isWish_field hw
  obtain ⟨f, hf2⟩ : ∃ f : Nat, w.field = f := ⟨w.field.toNat, by omega⟩
  have bd : ∀ x, isItem x = true → 0 ≤ valAt x w.field ∧ valAt x w.field ≤ 9 := fun x hx => by rw [hf2]; exact valAt_bd hx (by omega)
  refine ⟨fun x y => cmpV_code _ _ _, fun x hx => cmpV_refl _ _, fun x y hx hy => cmpV_anti hw (bd x hx) (bd y hy), fun x y z hx hy hz => cmpV_tr hw (bd x hx) (bd y hy) (bd z hz)⟩
theorem PO.dual {c : GItem → GItem → Int} (h : PO c) : PO (fun x y => neg2 (c x y)) := by
  refine ⟨fun x y => neg2_code (h.code x y), fun x hx => by rw [h.refl x hx]; rfl, fun x y hx hy => by rw [h.anti x y hx hy], fun x y z hx hy hz h1 h2 h3 h4 => ?_⟩
  rw [← h.anti x y hx hy] at h1 h2 ⊢
  rw [← h.anti y z hy hz] at h3 h4 ⊢
  rw [← h.anti x z hx hz, h.tr z y x hz hy hx h3 h4 h1 h2]
  omega
theorem code4 {a : Int} (h : -1 ≤ a ∧ a ≤ 2) : a = -1 ∨ a = 0 ∨ a = 1 ∨ a = 2 := by omega
theorem comb_refl (op : Int) : comb op 0 0 = 0 := by unfold comb; simp
theorem comb_anti (op : Int) {a b : Int} (ha : -1 ≤ a ∧ a ≤ 2) (hb : -1 ≤ b ∧ b ≤ 2) : comb op (neg2 a) (neg2 b) = neg2 (comb op a b) := by
  by_cases h1 : op = 1
  · subst h1
    rcases code4 ha with rfl | rfl | rfl | rfl <;> rcases code4 hb with rfl | rfl | rfl | rfl <;> decide
  by_cases h2 : op = 2
  · subst h2
    rcases code4 ha with rfl | rfl | rfl | rfl <;> rcases code4 hb with rfl | rfl | rfl | rfl <;> decide
  unfold comb
  rw [if_neg h1, if_neg h2, if_neg h1, if_neg h2]
  rcases code4 ha with rfl | rfl | rfl | rfl <;> rcases code4 hb with rfl | rfl | rfl | rfl <;> decide
theorem comb1_in {a b : Int} (ha : -1 ≤ a ∧ a ≤ 2) (hb : -1 ≤ b ∧ b ≤ 2) (h1 : 0 ≤ comb 1 a b) (h2 : comb 1 a b ≤ 1) : (0 ≤ a ∧ a ≤ 1) ∧ (0 ≤ b ∧ b ≤ 1) := by
  rcases code4 ha with rfl | rfl | rfl | rfl <;> rcases code4 hb with rfl | rfl | rfl | rfl <;> first | exact ⟨⟨by omega, by omega⟩, by omega, by omega⟩ | exact absurd h1 (by decide) | exact absurd h2 (by decide)
theorem comb1_max {a b : Int} (ha : 0 ≤ a ∧ a ≤ 1) (hb : 0 ≤ b ∧ b ≤ 1) : comb 1 a b = max a b := by
  have ea : a = 0 ∨ a = 1 := by omega
  have eb : b = 0 ∨ b = 1 := by omega
  rcases ea with rfl | rfl <;> rcases eb with rfl | rfl <;> decide
theorem comb_tr {op : Int} {a1 b1 a2 b2 a3 b3 : Int} (ha1 : -1 ≤ a1 ∧ a1 ≤ 2) (hb1 : -1 ≤ b1 ∧ b1 ≤ 2) (ha2 : -1 ≤ a2 ∧ a2 ≤ 2) (hb2 : -1 ≤ b2 ∧ b2 ≤ 2)
    (ha : 0 ≤ a1 → a1 ≤ 1 → 0 ≤ a2 → a2 ≤ 1 → a3 = max a1 a2) (hb : 0 ≤ b1 → b1 ≤ 1 → 0 ≤ b2 → b2 ≤ 1 → b3 = max b1 b2)
    (h1 : 0 ≤ comb op a1 b1) (h2 : comb op a1 b1 ≤ 1) (h3 : 0 ≤ comb op a2 b2) (h4 : comb op a2 b2 ≤ 1) : comb op a3 b3 = max (comb op a1 b1) (comb op a2 b2) := by
  by_cases k1 : op = 1
  · subst k1
    have p := comb1_in ha1 hb1 h1 h2
    have q := comb1_in ha2 hb2 h3 h4
    have e1 := ha p.1.1 p.1.2 q.1.1 q.1.2
    have e2 := hb p.2.1 p.2.2 q.2.1 q.2.2
    rw [comb1_max p.1 p.2, comb1_max q.1 q.2, comb1_max (by omega) (by omega)]
    omega
  by_cases k2 : op = 2
  · subst k2
    have e : ∀ a b : Int, comb 2 a b = if a = 0 then b else a := fun a b => rfl
    rw [e] at h1 h2 h3 h4 ⊢
    rw [e, e]
    by_cases z1 : a1 = 0
    · rw [if_pos z1] at h1 h2 ⊢
      by_cases z2 : a2 = 0
      · rw [if_pos z2] at h3 h4 ⊢
        rw [if_pos (by omega)]
        omega
      · rw [if_neg z2] at h3 h4 ⊢
        rw [if_neg (by omega)]
        omega
    · rw [if_neg z1] at h1 h2 ⊢
      by_cases z2 : a2 = 0
      · rw [if_pos z2] at h3 h4 ⊢
        rw [if_neg (by omega)]
        omega
      · rw [if_neg z2] at h3 h4 ⊢
        rw [if_neg (by omega)]
        omega
  have e : ∀ a b : Int, comb op a b = if a = b then a else 2 := fun a b => by unfold comb; rw [if_neg k1, if_neg k2]
  rw [e] at h1 h2 h3 h4 ⊢
  rw [e, e]
  by_cases z1 : a1 = b1
  · rw [if_pos z1] at h1 h2 ⊢
    by_cases z2 : a2 = b2
    · rw [if_pos z2] at h3 h4 ⊢
      rw [if_pos (by omega)]
      omega
    · rw [if_neg z2] at h4; omega
  · rw [if_neg z1] at h2; omega
theorem PO.two {op : Int} {a b : GItem → GItem → Int} (ha : PO a) (hb : PO b) : PO (fun x y => comb op (a x y) (b x y)) := by
  refine ⟨fun x y => comb_code (ha.code x y) (hb.code x y), fun x hx => by rw [ha.refl x hx, hb.refl x hx, comb_refl], fun x y hx hy => by rw [ha.anti x y hx hy, hb.anti x y hx hy]; exact comb_anti op (ha.code x y) (hb.code x y), fun x y z hx hy hz h1 h2 h3 h4 => ?_⟩
  exact comb_tr (ha.code x y) (hb.code x y) (ha.code y z) (hb.code y z) (ha.tr x y z hx hy hz) (hb.tr x y z hx hy hz) h1 h2 h3 h4
theorem snocF {α : Type} {l : List α} (h : 0 < l.length) : ∃ T a, l = T ++ [a] := ⟨l.dropLast, l.getLast (fun e => by rw [e] at h; simp at h), (List.dropLast_concat_getLast _).symm⟩
theorem stack_PO {e : List GNode} (hE : isExpr e = true) : ∀ k, k ≤ e.length → ∃ fs : List (GItem → GItem → Int), (∀ c ∈ fs, PO c) ∧ (∀ x y, stackAt e x y k = fs.map (fun c => c x y)) ∧ depthOf (e.drop k) fs.length = some 1
  | 0, _ => ⟨[], by simp, fun x y => by simp [stackAt], by simpa using isExpr_depth hE⟩
  | k + 1, hk => by
    obtain ⟨fs, h1, h2, h3⟩ := stack_PO hE k (by omega)
    obtain ⟨n, hn⟩ : ∃ n, e[k]? = some n := ⟨e[k], List.getElem?_eq_getElem (by omega)⟩
    obtain ⟨ho, hd⟩ := depth_step h3 hn
    have hge := nodeOk_ge ho
    by_cases h0 : n.op = 0
    · refine ⟨fs ++ [cmpItem n.wish], fun c hc => ?_, fun x y => ?_, ?_⟩
      · rcases List.mem_append.1 hc with hc | hc
        · exact h1 c hc
        · rw [List.mem_singleton] at hc; rw [hc]; exact PO.base (nodeOk_wish ho h0)
      · rw [stackAt_next hn, h2, stack_base h0]; simp
      · rw [← hd]; congr 1; simp [opnds, h0]
    · by_cases h3' : n.op = 3
      · have : opnds n.op = 1 := by unfold opnds; rw [if_neg h0, if_pos h3']
        rw [this] at hge hd
        obtain ⟨T, c, rfl⟩ := snocF (l := fs) (by omega)
        refine ⟨T ++ [fun x y => neg2 (c x y)], fun d hc => ?_, fun x y => ?_, ?_⟩
        · rcases List.mem_append.1 hc with hc | hc
          · exact h1 d (by simp [hc])
          · rw [List.mem_singleton] at hc; rw [hc]; exact PO.dual (h1 c (by simp))
        · rw [stackAt_next hn, h2, List.map_append, List.map_cons, List.map_nil, stack_dual h3']; simp
        · rw [← hd]; congr 1; simp
      · have h2' : opnds n.op = 2 := by unfold opnds; rw [if_neg h0, if_neg h3']
        rw [h2'] at hge hd
        obtain ⟨T', b, rfl⟩ := snocF (l := fs) (by omega)
        obtain ⟨T, a, rfl⟩ := snocF (l := T') (by simp at hge; omega)
        refine ⟨T ++ [fun x y => comb n.op (a x y) (b x y)], fun d hc => ?_, fun x y => ?_, ?_⟩
        · rcases List.mem_append.1 hc with hc | hc
          · exact h1 d (by simp [hc])
          · rw [List.mem_singleton] at hc; rw [hc]; exact PO.two (h1 a (by simp)) (h1 b (by simp))
        · rw [stackAt_next hn, h2, List.append_assoc, List.map_append, List.map_append, List.map_cons, List.map_cons, List.map_nil, List.singleton_append, stack_two h0 h3']; simp
        · rw [← hd]; congr 1; simp <;> omega
theorem cmpBy_PO {e : List GNode} (hE : isExpr e = true) : PO (cmpBy e) := by
  obtain ⟨fs, h1, h2, h3⟩ := stack_PO hE e.length (Nat.le_refl _)
  rw [List.drop_length] at h3
  simp only [depthOf] at h3
  have hl : fs.length = 1 := by injection h3 with h3; omega
  match fs, hl with
  | [c], _ =>
    have hc : cmpBy e = c := by
      funext x y
      rw [← stackAt_end (k := e.length) (Nat.le_refl _), h2]; rfl
    rw [hc]; exact h1 c (by simp)
/-- one that nothing beats -/
theorem PO.top {c : GItem → GItem → Int} (h : PO c) : ∀ {l : List GItem}, l ≠ [] → (∀ x ∈ l, isItem x = true) → ∃ m ∈ l, ∀ y ∈ l, c y m ≠ 1
  | [], hl, _ => absurd rfl hl
  | x :: l, _, hi => by
    have hx := hi x (by simp)
    by_cases hl : l = []
    · subst hl
      exact ⟨x, by simp, fun y hy => by rw [List.mem_singleton] at hy; rw [hy, h.refl x hx]; omega⟩
    · obtain ⟨m, hm, ht⟩ := PO.top h hl (fun y hy => hi y (by simp [hy]))
      have hmi := hi m (by simp [hm])
      by_cases hb : c x m = 1
      · refine ⟨x, by simp, fun y hy he => ?_⟩
        rcases List.mem_cons.1 hy with rfl | hy
        · rw [h.refl _ hx] at he; omega
        · refine ht y hy ?_
          rw [h.tr y x m (hi y (by simp [hy])) hx hmi (by omega) (by omega) (by omega) (by omega)]; omega
      · exact ⟨m, by simp [hm], fun y hy => by
          rcases List.mem_cons.1 hy with rfl | hy
          · exact hb
          · exact ht y hy⟩
theorem best_pos {l : List GItem} {e : List GNode} (hE : isExpr e = true) (hl : l ≠ []) (hi : ∀ x ∈ l, isItem x = true) : bestM l e ≠ [] := by
  obtain ⟨m, hm, ht⟩ := (cmpBy_PO hE).top hl hi
  have : m.id ∈ bestM l e := by
    unfold bestM
    refine List.mem_map.2 ⟨m, List.mem_filter.2 ⟨hm, ?_⟩, rfl⟩
    unfold freeIn
    rw [Bool.not_eq_true', List.any_eq_false]
    intro y hy
    simp only [beats, decide_eq_true_iff]
    exact ht y hy
  intro h; rw [h] at this; simp at this
end Go.Proofs.YtpihighajaeabaaGreat

namespace Go.Proofs.YtpihighajaeabaaGreat
open Go.RowKit
set_option linter.unusedVariables false

end Go.Proofs.YtpihighajaeabaaGreat

namespace Go.Proofs.YtpihighajaeabaaGreat
open Go.RowKit
set_option linter.unusedVariables false
def itemAt (l : List GItem) (id : Int) : GItem := (l[(findIdx l id).toNat]?).getD ⟨0, []⟩
def changeOk (l : List GItem) (e : List GNode) (id : Int) : Bool := areBoth l e && decide (0 ≤ findIdx l id)
theorem itemAt_of {l : List GItem} {id : Int} {j : Nat} {x : GItem} (h : findIdx l id = (j : Int)) (hx : l[j]? = some x) : itemAt l id = x := by
  unfold itemAt; rw [h]; simp [hx]
end Go.Proofs.YtpihighajaeabaaGreat

namespace Go.Proofs.YtpihighajaeabaaGreat
open Go.RowKit
set_option linter.unusedVariables false
set_option linter.unusedSimpArgs false
def idxI (x : Int) : List Int → Nat → Int
  | [], _ => -1
  | y :: l, i => if x = y then (i : Int) else idxI x l (i + 1)
theorem idxI_step {xs : List Int} {k : Nat} {x y : Int} (h : xs[k]? = some y) : idxI x (xs.drop k) k = if x = y then (k : Int) else idxI x (xs.drop (k + 1)) (k + 1) := by rw [drop_cons h, idxI]
theorem idxI_contains (x : Int) : ∀ (l : List Int) (i : Nat), decide (0 ≤ idxI x l i) = l.contains x
  | [], i => by simp [idxI]
  | y :: l, i => by
    rw [idxI, List.contains_cons]
    by_cases h : x = y
    · rw [if_pos h]; simp [h]
    · rw [if_neg h, idxI_contains x l (i + 1)]; simp [h]
set_option maxHeartbeats 800000 in
theorem slices_Index_ints (w : World) (xs : List Int) (x : Int) (v : Value) (h : Rd rInts w xs [v]) : Calls Tryz.prog 95 #[v, .int .i64 x] w (Ret w (.int .i64 (idxI x xs 0))) := by
  obtain ⟨A, n, c, rfl, L0, Lc, Lm⟩ := rSl_open h
  unfold maxLen at Lm
  have L := Lib.hid L0
  clear L0
  go_enter Tryz.func95, Tryz.ntmps95
  go_wp2
  go_loopg [8] n (fun g i w' => ∃ k : Nat, k ≤ n ∧ g = n - k ∧ i = .int .i64 k ∧ Hid (idxI x xs 0 = idxI x (xs.drop k) k) ∧ Bw w w')
  case atStart => exact ⟨0, by omega, rfl, rfl, Lib.hid rfl, Bw.refl _⟩
  case round =>
    obtain ⟨k, hk, rfl, rfl, HE, hb⟩ := hrel
    by_cases hlt : k < n
    · obtain ⟨y, hy⟩ := get_of_lt (xs := xs) (k := k) (by have := L.out; omega)
      obtain ⟨ba, oa, rfl, _, hc0⟩ := rInts_at h hy
      have hc := hb.cell hc0
      have HS := Lib.hid (idxI_step (x := x) hy)
      have i1 : (0 : Int) ≤ (k : Int) := by omega
      have i2 : (k : Int) < (n : Int) := by omega
      clear hy h hc0
      by_cases he : x = y
      · have e1 : (x == y) = true := by simpa using he
        have HX := Lib.hid (show idxI x xs 0 = k by rw [HE.out, HS.out, if_pos he])
        clear he
        go_wp2
        go_ret
        exact Ret.int (HX.out.symm) (hb)
      · have e1 : (x == y) = false := by simpa using he
        have HX := Lib.hid (show idxI x xs 0 = idxI x (xs.drop (k + 1)) (k + 1) by rw [HE.out, HS.out, if_neg he])
        clear he
        go_wp2
        go_roundg (n - (k + 1))
        case measure => omega
        case rel => exact ⟨k + 1, by omega, rfl, by go_num, HX, hb⟩
    · have HX := Lib.hid (show idxI x xs 0 = -1 by rw [HE.out, List.drop_of_length_le (by have := L.out; omega)]; rfl)
      go_wp2
      go_ret
      exact Ret.int (HX.out.symm) (hb)
set_option maxHeartbeats 400000 in
theorem slices_Contains_ints (w : World) (xs : List Int) (x : Int) (v : Value) (h : Rd rInts w xs [v]) : Calls Tryz.prog 104 #[v, .int .i64 x] w (Ret w (.bool (xs.contains x))) := by
  have HC := Lib.hid (idxI_contains x xs 0)
  go_enter Tryz.func104, Tryz.ntmps104
  go_wp2_with fail
  refine (slices_Index_ints _ xs x _ h).mono ?_
  rintro e w2 ⟨rfl, hb2⟩
  go_wp2
  go_ret
  exact Ret.bool (HC.out) (hb2)
end Go.Proofs.YtpihighajaeabaaGreat

namespace Go.Proofs.YtpihighajaeabaaGreat
open Go.RowKit
set_option linter.unusedVariables false
set_option linter.unusedSimpArgs false
theorem max_intI (a b : Int) : max a b = if a ≤ b then b else a := by by_cases h : a ≤ b <;> simp [h] <;> omega
theorem rank_near (x : GWish) (v : Int) (k0 : ¬ x.kind = 0) (k1 : ¬ x.kind = 1) (k2 : x.kind = 2) : rankV x v = if v - x.value < x.value - v then x.value - v else v - x.value := by
  rw [rankV, if_neg k0, if_neg k1, if_pos k2, max_intI]
  by_cases h : v - x.value ≤ x.value - v
  · rw [if_pos h]; split <;> omega
  · rw [if_neg h, if_neg (by omega)]
def Same (w : World) (v : Value) (e : Ending) (w' : World) : Prop := e = .returned v ∧ w' = w
theorem Same.int {w : World} {a b : Int} (h : b = a) : Same w (.int .i64 b) (.returned (.int .i64 a)) w := ⟨by rw [h], rfl⟩
set_option maxRecDepth 100000 in
theorem I_combined_pareto (w : World) (a b : Int) (ha : -1 ≤ a ∧ a ≤ 2) (hb : -1 ≤ b ∧ b ≤ 2) : Calls Tryz.prog 161 #[.int .i64 1, .int .i64 a, .int .i64 b] w (Same w (.int .i64 (comb 1 a b))) := by
  have ea : a = -1 ∨ a = 0 ∨ a = 1 ∨ a = 2 := by omega
  have eb : b = -1 ∨ b = 0 ∨ b = 1 ∨ b = 2 := by omega
  clear ha hb
  rcases ea with rfl | rfl | rfl | rfl <;> rcases eb with rfl | rfl | rfl | rfl
  all_goals
    go_enter Tryz.func161, Tryz.ntmps161
    go_wp2
    go_ret
    exact Same.int rfl
set_option maxRecDepth 100000 in
theorem I_combined_same (w : World) (op a b : Int) (hop : op = 1 ∨ op = 2 ∨ op = 4) (ha : -1 ≤ a ∧ a ≤ 2) (hb : -1 ≤ b ∧ b ≤ 2) : Calls Tryz.prog 161 #[.int .i64 op, .int .i64 a, .int .i64 b] w (Same w (.int .i64 (comb op a b))) := by
  rcases hop with rfl | rfl | rfl
  · exact I_combined_pareto w a b ha hb
  · by_cases h : a = 0
    · have e1 : (a != 0) = false := by simpa using h
      have H := Lib.hid (show comb 2 a b = b by rw [comb, if_neg (by omega), if_pos rfl, if_pos h])
      clear h
      go_enter Tryz.func161, Tryz.ntmps161
      go_wp2
      go_ret
      exact Same.int H.out
    · have e1 : (a != 0) = true := by simpa using h
      have H := Lib.hid (show comb 2 a b = a by rw [comb, if_neg (by omega), if_pos rfl, if_neg h])
      clear h
      go_enter Tryz.func161, Tryz.ntmps161
      go_wp2
      go_ret
      exact Same.int H.out
  · by_cases h : a = b
    · have e1 : (a == b) = true := by simpa using h
      have H := Lib.hid (show comb 4 a b = a by rw [comb, if_neg (by omega), if_neg (by omega), if_pos h])
      clear h
      go_enter Tryz.func161, Tryz.ntmps161
      go_wp2
      go_ret
      exact Same.int H.out
    · have e1 : (a == b) = false := by simpa using h
      have H := Lib.hid (show comb 4 a b = 2 by rw [comb, if_neg (by omega), if_neg (by omega), if_neg h])
      clear h
      go_enter Tryz.func161, Tryz.ntmps161
      go_wp2
      go_ret
      exact Same.int H.out
theorem Ret.two {w w' : World} {a b : Int} {c : Value} (h : a = b) (hb : Bw w w') : Ret w (.tuple #[.int .i64 b, c]) (.returned (.tuple #[.int .i64 a, c])) w' := ⟨by rw [h], hb⟩
set_option maxRecDepth 100000 in
set_option maxHeartbeats 1600000 in
theorem I_RankOfValue (w : World) (x : GWish) (a u : Value) (v : Int) (h : Rd rInts w x.list [a]) (h' : Rd rPairs w x.pairs [u]) (hx : isWish x = true) (h4 : ¬ x.kind = 4) (hv : 0 ≤ v ∧ v ≤ 9) :
    Calls Tryz.prog 260 #[.agg #[.int .i64 x.kind, .int .i64 x.field, .int .i64 x.value, a, u], .int .i64 v] w (Ret w (.tuple #[.int .i64 (rankV x v), .bool true])) := by
  have B0 : Bw w (w.alloc (.cells #[.int .i64 x.kind, .int .i64 x.field, .int .i64 x.value, a, u] 109)) := (Bw.refl w).alloc _
  have HX := Lib.hid hx
  have HV := Lib.hid (inB_iff.2 hv)
  have hval := isWish_value hx
  have hk := isWish_kind hx
  clear hx
  go_enter Tryz.func260, Tryz.ntmps260
  go_wp2_with fail
  refine (I_IsWish _ x _ _ (h.bw rInts_good B0) (h'.bw rPairs_good B0)).mono ?_
  rintro e w1 ⟨rfl, hb1⟩
  rw [HX.out]
  have p0 : w1.cell? ⟨w.heap.size, 0, none⟩ = some (.int .i64 x.kind) := hb1.cell (by go_simp)
  have p1 : w1.cell? ⟨w.heap.size, 1, none⟩ = some (.int .i64 x.field) := hb1.cell (by go_simp)
  have p2 : w1.cell? ⟨w.heap.size, 2, none⟩ = some (.int .i64 x.value) := hb1.cell (by go_simp)
  have p3 : w1.cell? ⟨w.heap.size, 3, none⟩ = some (a) := hb1.cell (by go_simp)
  have p4 : w1.cell? ⟨w.heap.size, 4, none⟩ = some (u) := hb1.cell (by go_simp)
  have B1 := B0.then hb1
  go_wp2_with fail
  refine (I_within _ _ _ _).mono ?_
  rintro e w2 ⟨rfl, hb2⟩
  rw [HV.out]
  replace p0 := hb2.cell p0
  replace p2 := hb2.cell p2
  replace p3 := hb2.cell p3
  replace B1 := B1.then hb2
  clear p1 p4
  by_cases k0 : x.kind = 0
  · have q0 : (x.kind == 0) = true := by simpa using k0
    have E := Lib.hid (show v = rankV x v by rw [rankV, if_pos k0])
    clear k0 h4
    go_wp2
    refine bodyPost_ret (v := .tuple #[.int .i64 v, .bool true]) (by simp [results, Tryz.results260, go_sem]) rfl (Ret.two (E.out) (B1))
  have q0 : (x.kind == 0) = false := by simpa using k0
  by_cases k1 : x.kind = 1
  · have q1 : (x.kind == 1) = true := by simpa using k1
    have E := Lib.hid (show 9 - v = rankV x v by rw [rankV, if_neg k0, if_pos k1])
    clear k0 k1 h4
    go_wp2
    refine bodyPost_ret (v := .tuple #[.int .i64 (9 - v), .bool true]) (by simp [results, Tryz.results260, go_sem]) rfl (Ret.two (E.out) (B1))
  have q1 : (x.kind == 1) = false := by simpa using k1
  by_cases k2 : x.kind = 2
  · have q2 : (x.kind == 2) = true := by simpa using k2
    have K := rank_near x v k0 k1 k2
    by_cases hlt : v - x.value < x.value - v
    · rw [if_pos hlt] at K
      have E := Lib.hid K
      clear k0 k1 k2 h4 K
      go_wp2
      refine bodyPost_ret (v := .tuple #[.int .i64 (x.value - v), .bool true]) (by simp [results, Tryz.results260, go_sem]) rfl (Ret.two (E.out.symm) (B1))
    · rw [if_neg hlt] at K
      have E := Lib.hid K
      clear k0 k1 k2 h4 K
      go_wp2
      refine bodyPost_ret (v := .tuple #[.int .i64 (v - x.value), .bool true]) (by simp [results, Tryz.results260, go_sem]) rfl (Ret.two (E.out.symm) (B1))
  have q2 : (x.kind == 2) = false := by simpa using k2
  have k3 : x.kind = 3 := by omega
  have q3 : (x.kind == 3) = true := by simpa using k3
  have E := Lib.hid (show rankV x v = if x.list.contains v then 0 else 1 by rw [rankV, if_neg k0, if_neg k1, if_neg k2])
  clear k0 k1 k2 k3 h4 hk
  go_wp2_with fail
  refine (slices_Contains_ints _ x.list v _ (h.bw rInts_good B1)).mono ?_
  rintro e w3 ⟨rfl, hb3⟩
  rcases Bool.eq_false_or_eq_true (x.list.contains v) with e1 | e1
  · have R := Lib.hid e1
    rw [e1]
    clear e1
    go_wp2
    refine bodyPost_ret (v := .tuple #[.int .i64 0, .bool true]) (by simp [results, Tryz.results260, go_sem]) rfl (Ret.two ((by rw [E.out, R.out]; rfl)) ((B1.then hb3)))
  · have R := Lib.hid e1
    rw [e1]
    clear e1
    go_wp2
    refine bodyPost_ret (v := .tuple #[.int .i64 1, .bool true]) (by simp [results, Tryz.results260, go_sem]) rfl (Ret.two ((by rw [E.out, R.out]; rfl)) ((B1.then hb3)))
end Go.Proofs.YtpihighajaeabaaGreat
