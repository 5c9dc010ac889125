/- Preferences are orders; among items there is one that nothing beats. No program in sight. -/
import Derived.Test.YthlaabaffbffkaaGreatQStack
namespace Go.Proofs.YthlaabaffbffkaaGreat
open Go.RowKit
set_option linter.unusedVariables false

def beats (e : List GNode) (y x : GItem) : Bool := decide (cmpBy e y x = 1)
def freeIn (l : List GItem) (e : List GNode) (x : GItem) : Bool := !(l.any fun y => beats e y x)
def bestM (l : List GItem) (e : List GNode) : List Int := (l.filter (freeIn l e)).map (·.id)
def areBoth (l : List GItem) (e : List GNode) : Bool := areItems l && isExpr e
def bestItems (l : List GItem) (e : List GNode) : List Int := if areBoth l e then bestM l e else []
def onlyM (l : List GItem) (ids : List Int) (b : Bool) : List GItem := l.filter fun x => ids.contains x.id == b
theorem areItemsFrom_none : ∀ {l : List GItem} {p : Option Int}, areItemsFrom p l = true → areItemsFrom none l = true
  | [], _, _ => rfl
  | x :: l, none, h => h
  | x :: l, some p, h => by
    simp only [areItemsFrom, Bool.and_eq_true] at h ⊢
    exact ⟨h.1.1, h.2⟩
theorem areItemsFrom_low {p q : Int} (hpq : p ≤ q) : ∀ {l : List GItem}, areItemsFrom (some q) l = true → areItemsFrom (some p) l = true
  | [], _ => rfl
  | x :: l, h => by
    simp only [areItemsFrom, Bool.and_eq_true, decide_eq_true_iff] at h ⊢
    exact ⟨⟨h.1.1, by omega⟩, h.2⟩
theorem areItemsFrom_filter (f : GItem → Bool) : ∀ {l : List GItem} {p : Option Int}, areItemsFrom p l = true → areItemsFrom p (l.filter f) = true
  | [], _, _ => by simp [areItemsFrom]
  | x :: l, none, h => by
    have hh := h
    simp only [areItemsFrom, Bool.and_eq_true] at h
    by_cases hf : f x = true
    · rw [List.filter_cons_of_pos hf]
      simp only [areItemsFrom, Bool.and_eq_true]
      exact ⟨h.1, areItemsFrom_filter f h.2⟩
    · rw [List.filter_cons_of_neg hf]
      exact areItemsFrom_filter f (areItemsFrom_none h.2)
  | x :: l, some p, h => by
    simp only [areItemsFrom, Bool.and_eq_true, decide_eq_true_iff] at h
    by_cases hf : f x = true
    · rw [List.filter_cons_of_pos hf]
      simp only [areItemsFrom, Bool.and_eq_true, decide_eq_true_iff]
      exact ⟨h.1, areItemsFrom_filter f h.2⟩
    · rw [List.filter_cons_of_neg hf]
      exact areItemsFrom_filter f (areItemsFrom_low (by omega) h.2)
theorem areItems_filter {l : List GItem} (f : GItem → Bool) (h : areItems l = true) : areItems (l.filter f) = true := by
  unfold areItems at h ⊢
  simp only [Bool.and_eq_true, decide_eq_true_iff] at h ⊢
  exact ⟨areItemsFrom_filter f h.1, Nat.le_trans (List.length_filter_le _ _) h.2⟩
theorem areBoth_items {l : List GItem} {e : List GNode} (h : areBoth l e = true) : areItems l = true := by unfold areBoth at h; simp only [Bool.and_eq_true] at h; exact h.1
theorem areBoth_expr {l : List GItem} {e : List GNode} (h : areBoth l e = true) : isExpr e = true := by unfold areBoth at h; simp only [Bool.and_eq_true] at h; exact h.2
theorem bestM_len (l : List GItem) (e : List GNode) : (bestM l e).length ≤ l.length := by unfold bestM; rw [List.length_map]; exact List.length_filter_le _ _
/-- the best of the first items -/
def bestTo (l : List GItem) (e : List GNode) (k : Nat) : List Int := ((l.take k).filter (freeIn l e)).map (·.id)
theorem bestTo_yes {l : List GItem} {e : List GNode} {k : Nat} {x : GItem} (hx : l[k]? = some x) (h : freeIn l e x = true) : bestTo l e (k + 1) = bestTo l e k ++ [x.id] := by
  unfold bestTo; rw [List.take_add_one, hx, List.filter_append, List.map_append]; simp [h]
theorem bestTo_no {l : List GItem} {e : List GNode} {k : Nat} {x : GItem} (hx : l[k]? = some x) (h : freeIn l e x = false) : bestTo l e (k + 1) = bestTo l e k := by
  unfold bestTo; rw [List.take_add_one, hx, List.filter_append, List.map_append]; simp [h]
theorem bestTo_end {l : List GItem} {e : List GNode} {k : Nat} (h : l.length ≤ k) : bestTo l e k = bestM l e := by unfold bestTo bestM; rw [List.take_of_length_le h]
theorem bestTo_len {l : List GItem} {e : List GNode} {k : Nat} : (bestTo l e k).length ≤ k := by
  unfold bestTo; rw [List.length_map]
  exact Nat.le_trans (List.length_filter_le _ _) (by rw [List.length_take]; omega)
theorem any_take_succ {α : Type} (f : α → Bool) {l : List α} {k : Nat} {y : α} (h : l[k]? = some y) : (l.take (k + 1)).any f = ((l.take k).any f || f y) := by
  rw [List.take_add_one, h, List.any_append]; simp
theorem any_take_end {α : Type} (f : α → Bool) {l : List α} {k : Nat} (h : l.length ≤ k) : (l.take k).any f = l.any f := by rw [List.take_of_length_le h]
def onlyTo (l : List GItem) (ids : List Int) (b : Bool) (k : Nat) : List GItem := (l.take k).filter fun x => ids.contains x.id == b
theorem onlyTo_yes {l : List GItem} {ids : List Int} {b : Bool} {k : Nat} {x : GItem} (hx : l[k]? = some x) (h : ids.contains x.id = b) : onlyTo l ids b (k + 1) = onlyTo l ids b k ++ [x] := by
  have hb : (ids.contains x.id == b) = true := by rw [h]; simp
  unfold onlyTo; rw [List.take_add_one, hx, List.filter_append]
  simp only [Option.toList_some, List.filter_cons, List.filter_nil, hb, if_true]
theorem onlyTo_no {l : List GItem} {ids : List Int} {b : Bool} {k : Nat} {x : GItem} (hx : l[k]? = some x) (h : ids.contains x.id = !b) : onlyTo l ids b (k + 1) = onlyTo l ids b k := by
  have hb : (ids.contains x.id == b) = false := by rw [h]; cases b <;> rfl
  unfold onlyTo; rw [List.take_add_one, hx, List.filter_append]
  simp only [Option.toList_some, List.filter_cons, List.filter_nil, hb, List.append_nil, Bool.false_eq_true, if_false]
theorem onlyTo_end {l : List GItem} {ids : List Int} {b : Bool} {k : Nat} (h : l.length ≤ k) : onlyTo l ids b k = onlyM l ids b := by unfold onlyTo onlyM; rw [List.take_of_length_le h]
theorem onlyTo_len {l : List GItem} {ids : List Int} {b : Bool} {k : Nat} : (onlyTo l ids b k).length ≤ k := by
  unfold onlyTo
  exact Nat.le_trans (List.length_filter_le _ _) (by rw [List.length_take]; omega)
theorem onlyM_len (l : List GItem) (ids : List Int) (b : Bool) : (onlyM l ids b).length ≤ l.length := List.length_filter_le _ _

/-! ### several laws' answers -/
def codeB (c : Int) : Int := c
def refineM (l : List GItem) (ids : List Int) (q : List GNode) : List Int := if areBoth l q then bestM (onlyM l ids true) q else []
def localFree (a : List GItem) (f : Int) (p : List GNode) (x : GItem) : Bool := !(a.any fun y => decide (valAt x f = valAt y f) && beats p y x)
def localM (a : List GItem) (f : Int) (p : List GNode) : List Int := if areBoth a p && inB f 0 2 then (a.filter (localFree a f p)).map (·.id) else []
def isStand (s : GStanding) : Bool := areBoth s.items s.wanted && (decide (s.best = bestM s.items s.wanted) && inB s.tests 0 1000000)
end Go.Proofs.YthlaabaffbffkaaGreat

namespace Go.Proofs.YthlaabaffbffkaaGreat
open Go.RowKit
set_option linter.unusedVariables false

/-- a comparison that is the code of a preorder of the valid items -/
structure PO (c : GItem → GItem → Int) : Prop where
  code : ∀ x y, -1 ≤ c x y ∧ c x y ≤ 2
  refl : ∀ x, isItem x = true → c x x = 0
  anti : ∀ x y, isItem x = true → isItem y = true → c y x = neg2 (c x y)
  tr : ∀ x y z, isItem x = true → isItem y = true → isItem z = true → 0 ≤ c x y → c x y ≤ 1 → 0 ≤ c y z → c y z ≤ 1 → c x z = max (c x y) (c y z)
theorem cmpV_refl (w : GWish) (a : Int) : cmpV w a a = 0 := by
  unfold cmpV; repeat' split
  all_goals first | rfl | omega | contradiction
theorem reach_irr {l : List GPair} (h : arePairs l = true) {a : Int} (ha : 0 ≤ a ∧ a ≤ 9) : reachB l a a = false := by
  simp only [arePairs, Bool.and_eq_true, List.all_eq_true] at h
  have := h.2.2 a.toNat (List.mem_range.2 (by omega))
  rw [Int.toNat_of_nonneg ha.1] at this
  simpa using this
theorem reach_asym {l : List GPair} (h : arePairs l = true) {a b : Int} (ha : 0 ≤ a ∧ a ≤ 9) (hb : 0 ≤ b ∧ b ≤ 9) (h1 : reachB l a b = true) : reachB l b a = false := by
  rw [Bool.eq_false_iff]
  intro h2
  have := reach_trans hb h1 h2
  rw [reach_irr h ha] at this
  cases this
theorem cmpV_anti {w : GWish} (hw : isWish w = true) {a b : Int} (ha : 0 ≤ a ∧ a ≤ 9) (hb : 0 ≤ b ∧ b ≤ 9) : cmpV w b a = neg2 (cmpV w a b) := by
  by_cases h4 : w.kind = 4
  · have hp := isWish_pairs hw h4
    unfold cmpV; rw [if_pos h4, if_pos h4]
    by_cases e : a = b
    · rw [if_pos e, if_pos e.symm]; rfl
    · rw [if_neg e, if_neg (fun h => e h.symm)]
      rcases Bool.eq_false_or_eq_true (reachB w.pairs a b) with h1 | h1
      · rw [reach_asym hp ha hb h1, h1]; rfl
      · rcases Bool.eq_false_or_eq_true (reachB w.pairs b a) with h2 | h2
        · rw [h1, h2]; rfl
        · rw [h1, h2]; rfl
  · unfold cmpV; rw [if_neg h4, if_neg h4]; unfold neg2
    repeat' split
    all_goals omega
theorem cmpV_tr {w : GWish} (hw : isWish w = true) {a b c : Int} (ha : 0 ≤ a ∧ a ≤ 9) (hb : 0 ≤ b ∧ b ≤ 9) (hc : 0 ≤ c ∧ c ≤ 9) (h1 : 0 ≤ cmpV w a b) (h2 : cmpV w a b ≤ 1) (h3 : 0 ≤ cmpV w b c) (h4 : cmpV w b c ≤ 1) : cmpV w a c = max (cmpV w a b) (cmpV w b c) := by
  by_cases k4 : w.kind = 4
  · have hp := isWish_pairs hw k4
    by_cases e : a = b
    · subst e
      rw [cmpV_refl]; omega
    by_cases e2 : b = c
    · subst e2
      rw [cmpV_refl]; omega
    unfold cmpV at h1 h2 h3 h4 ⊢
    simp only [if_pos k4, if_neg e, if_neg e2] at h1 h2 h3 h4 ⊢
    rcases Bool.eq_false_or_eq_true (reachB w.pairs a b) with r1 | r1
    · rcases Bool.eq_false_or_eq_true (reachB w.pairs b c) with r2 | r2
      · have r3 := reach_trans hb r1 r2
        have e3 : a ≠ c := fun h => by subst h; rw [reach_irr hp ha] at r3; cases r3
        simp [r1, r2, r3, e3]
      · rcases Bool.eq_false_or_eq_true (reachB w.pairs c b) with r3 | r3
        · simp [r2, r3] at h3
        · simp [r2, r3] at h4
    · rcases Bool.eq_false_or_eq_true (reachB w.pairs b a) with r3 | r3
      · simp [r1, r3] at h1
      · simp [r1, r3] at h2
  · unfold cmpV at h1 h2 h3 h4 ⊢; simp only [if_neg k4] at h1 h2 h3 h4 ⊢
    generalize rankV w a = ra at *
    generalize rankV w b = rb at *
    generalize rankV w c = rc at *
    have t1 : ¬ rb < ra := fun hl => by
      rw [if_neg (by omega), if_pos hl] at h1; omega
    have t2 : ¬ rc < rb := fun hl => by
      rw [if_neg (by omega), if_pos hl] at h3; omega
    rw [if_neg t1, if_neg t2, if_neg (show ¬ rc < ra by omega)]
    by_cases u1 : ra < rb
    · rw [if_pos u1, if_pos (show ra < rc by omega)]; split <;> omega
    · rw [if_neg u1]
      by_cases u2 : rb < rc
      · rw [if_pos u2, if_pos (show ra < rc by omega)]; omega
      · rw [if_neg u2, if_neg (show ¬ ra < rc by omega)]; omega
theorem PO.base {w : GWish} (hw : isWish w = true) : PO (cmpItem w) := by
  have hf := isWish_field hw
  obtain ⟨f, hf2⟩ : ∃ f : Nat, w.field = f := ⟨w.field.toNat, by omega⟩
  have bd : ∀ x, isItem x = true → 0 ≤ valAt x w.field ∧ valAt x w.field ≤ 9 := fun x hx => by rw [hf2]; exact valAt_bd hx (by omega)
  refine ⟨fun x y => cmpV_code _ _ _, fun x hx => cmpV_refl _ _, fun x y hx hy => cmpV_anti hw (bd x hx) (bd y hy), fun x y z hx hy hz => cmpV_tr hw (bd x hx) (bd y hy) (bd z hz)⟩
theorem PO.dual {c : GItem → GItem → Int} (h : PO c) : PO (fun x y => neg2 (c x y)) := by
  refine ⟨fun x y => neg2_code (h.code x y), fun x hx => by rw [h.refl x hx]; rfl, fun x y hx hy => by rw [h.anti x y hx hy], fun x y z hx hy hz h1 h2 h3 h4 => ?_⟩
  rw [← h.anti x y hx hy] at h1 h2 ⊢
  rw [← h.anti y z hy hz] at h3 h4 ⊢
  rw [← h.anti x z hx hz, h.tr z y x hz hy hx h3 h4 h1 h2]
  omega
theorem code4 {a : Int} (h : -1 ≤ a ∧ a ≤ 2) : a = -1 ∨ a = 0 ∨ a = 1 ∨ a = 2 := by omega
theorem comb_refl (op : Int) : comb op 0 0 = 0 := by unfold comb; simp
theorem comb_anti (op : Int) {a b : Int} (ha : -1 ≤ a ∧ a ≤ 2) (hb : -1 ≤ b ∧ b ≤ 2) : comb op (neg2 a) (neg2 b) = neg2 (comb op a b) := by
  by_cases h1 : op = 1
  · subst h1
    rcases code4 ha with rfl | rfl | rfl | rfl <;> rcases code4 hb with rfl | rfl | rfl | rfl <;> decide
  by_cases h2 : op = 2
  · subst h2
    rcases code4 ha with rfl | rfl | rfl | rfl <;> rcases code4 hb with rfl | rfl | rfl | rfl <;> decide
  unfold comb
  rw [if_neg h1, if_neg h2, if_neg h1, if_neg h2]
  rcases code4 ha with rfl | rfl | rfl | rfl <;> rcases code4 hb with rfl | rfl | rfl | rfl <;> decide
theorem comb1_in {a b : Int} (ha : -1 ≤ a ∧ a ≤ 2) (hb : -1 ≤ b ∧ b ≤ 2) (h1 : 0 ≤ comb 1 a b) (h2 : comb 1 a b ≤ 1) : (0 ≤ a ∧ a ≤ 1) ∧ (0 ≤ b ∧ b ≤ 1) := by
  rcases code4 ha with rfl | rfl | rfl | rfl <;> rcases code4 hb with rfl | rfl | rfl | rfl <;> first | exact ⟨⟨by omega, by omega⟩, by omega, by omega⟩ | exact absurd h1 (by decide) | exact absurd h2 (by decide)
theorem comb1_max {a b : Int} (ha : 0 ≤ a ∧ a ≤ 1) (hb : 0 ≤ b ∧ b ≤ 1) : comb 1 a b = max a b := by
  have ea : a = 0 ∨ a = 1 := by omega
  have eb : b = 0 ∨ b = 1 := by omega
  rcases ea with rfl | rfl <;> rcases eb with rfl | rfl <;> decide
theorem comb_tr {op : Int} {a1 b1 a2 b2 a3 b3 : Int} (ha1 : -1 ≤ a1 ∧ a1 ≤ 2) (hb1 : -1 ≤ b1 ∧ b1 ≤ 2) (ha2 : -1 ≤ a2 ∧ a2 ≤ 2) (hb2 : -1 ≤ b2 ∧ b2 ≤ 2)
    (ha : 0 ≤ a1 → a1 ≤ 1 → 0 ≤ a2 → a2 ≤ 1 → a3 = max a1 a2) (hb : 0 ≤ b1 → b1 ≤ 1 → 0 ≤ b2 → b2 ≤ 1 → b3 = max b1 b2)
    (h1 : 0 ≤ comb op a1 b1) (h2 : comb op a1 b1 ≤ 1) (h3 : 0 ≤ comb op a2 b2) (h4 : comb op a2 b2 ≤ 1) : comb op a3 b3 = max (comb op a1 b1) (comb op a2 b2) := by
  by_cases k1 : op = 1
  · subst k1
    have p := comb1_in ha1 hb1 h1 h2
    have q := comb1_in ha2 hb2 h3 h4
    have e1 := ha p.1.1 p.1.2 q.1.1 q.1.2
    have e2 := hb p.2.1 p.2.2 q.2.1 q.2.2
    rw [comb1_max p.1 p.2, comb1_max q.1 q.2, comb1_max (by omega) (by omega)]
    omega
  by_cases k2 : op = 2
  · subst k2
    have e : ∀ a b : Int, comb 2 a b = if a = 0 then b else a := fun a b => rfl
    rw [e] at h1 h2 h3 h4 ⊢
    rw [e, e]
    by_cases z1 : a1 = 0
    · rw [if_pos z1] at h1 h2 ⊢
      by_cases z2 : a2 = 0
      · rw [if_pos z2] at h3 h4 ⊢
        rw [if_pos (by omega)]
        omega
      · rw [if_neg z2] at h3 h4 ⊢
        rw [if_neg (by omega)]
        omega
    · rw [if_neg z1] at h1 h2 ⊢
      by_cases z2 : a2 = 0
      · rw [if_pos z2] at h3 h4 ⊢
        rw [if_neg (by omega)]
        omega
      · rw [if_neg z2] at h3 h4 ⊢
        rw [if_neg (by omega)]
        omega
  have e : ∀ a b : Int, comb op a b = if a = b then a else 2 := fun a b => by unfold comb; rw [if_neg k1, if_neg k2]
  rw [e] at h1 h2 h3 h4 ⊢
  rw [e, e]
  by_cases z1 : a1 = b1
  · rw [if_pos z1] at h1 h2 ⊢
    by_cases z2 : a2 = b2
    · rw [if_pos z2] at h3 h4 ⊢
      rw [if_pos (by omega)]
      omega
    · rw [if_neg z2] at h4; omega
  · rw [if_neg z1] at h2; omega
theorem PO.two {op : Int} {a b : GItem → GItem → Int} (ha : PO a) (hb : PO b) : PO (fun x y => comb op (a x y) (b x y)) := by
  refine ⟨fun x y => comb_code (ha.code x y) (hb.code x y), fun x hx => by rw [ha.refl x hx, hb.refl x hx, comb_refl], fun x y hx hy => by rw [ha.anti x y hx hy, hb.anti x y hx hy]; exact comb_anti op (ha.code x y) (hb.code x y), fun x y z hx hy hz h1 h2 h3 h4 => ?_⟩
  exact comb_tr (ha.code x y) (hb.code x y) (ha.code y z) (hb.code y z) (ha.tr x y z hx hy hz) (hb.tr x y z hx hy hz) h1 h2 h3 h4
theorem snocF {α : Type} {l : List α} (h : 0 < l.length) : ∃ T a, l = T ++ [a] := ⟨l.dropLast, l.getLast (fun e => by rw [e] at h; simp at h), (List.dropLast_concat_getLast _).symm⟩
theorem stack_PO {e : List GNode} (hE : isExpr e = true) : ∀ k, k ≤ e.length → ∃ fs : List (GItem → GItem → Int), (∀ c ∈ fs, PO c) ∧ (∀ x y, stackAt e x y k = fs.map (fun c => c x y)) ∧ depthOf (e.drop k) fs.length = some 1
  | 0, _ => ⟨[], by simp, fun x y => by simp [stackAt], by simpa using isExpr_depth hE⟩
  | k + 1, hk => by
    obtain ⟨fs, h1, h2, h3⟩ := stack_PO hE k (by omega)
    obtain ⟨n, hn⟩ : ∃ n, e[k]? = some n := ⟨e[k], List.getElem?_eq_getElem (by omega)⟩
    obtain ⟨ho, hd⟩ := depth_step h3 hn
    have hge := nodeOk_ge ho
    by_cases h0 : n.op = 0
    · refine ⟨fs ++ [cmpItem n.wish], fun c hc => ?_, fun x y => ?_, ?_⟩
      · rcases List.mem_append.1 hc with hc | hc
        · exact h1 c hc
        · rw [List.mem_singleton] at hc; rw [hc]; exact PO.base (nodeOk_wish ho h0)
      · rw [stackAt_next hn, h2, stack_base h0]; simp
      · rw [← hd]; congr 1; simp [opnds, h0]
    · by_cases h3' : n.op = 3
      · have : opnds n.op = 1 := by unfold opnds; rw [if_neg h0, if_pos h3']
        rw [this] at hge hd
        obtain ⟨T, c, rfl⟩ := snocF (l := fs) (by omega)
        refine ⟨T ++ [fun x y => neg2 (c x y)], fun d hc => ?_, fun x y => ?_, ?_⟩
        · rcases List.mem_append.1 hc with hc | hc
          · exact h1 d (by simp [hc])
          · rw [List.mem_singleton] at hc; rw [hc]; exact PO.dual (h1 c (by simp))
        · rw [stackAt_next hn, h2, List.map_append, List.map_cons, List.map_nil, stack_dual h3']; simp
        · rw [← hd]; congr 1; simp
      · have h2' : opnds n.op = 2 := by unfold opnds; rw [if_neg h0, if_neg h3']
        rw [h2'] at hge hd
        obtain ⟨T', b, rfl⟩ := snocF (l := fs) (by omega)
        obtain ⟨T, a, rfl⟩ := snocF (l := T') (by simp at hge; omega)
        refine ⟨T ++ [fun x y => comb n.op (a x y) (b x y)], fun d hc => ?_, fun x y => ?_, ?_⟩
        · rcases List.mem_append.1 hc with hc | hc
          · exact h1 d (by simp [hc])
          · rw [List.mem_singleton] at hc; rw [hc]; exact PO.two (h1 a (by simp)) (h1 b (by simp))
        · rw [stackAt_next hn, h2, List.append_assoc, List.map_append, List.map_append, List.map_cons, List.map_cons, List.map_nil, List.singleton_append, stack_two h0 h3']; simp
        · rw [← hd]; congr 1; simp <;> omega
theorem cmpBy_PO {e : List GNode} (hE : isExpr e = true) : PO (cmpBy e) := by
  obtain ⟨fs, h1, h2, h3⟩ := stack_PO hE e.length (Nat.le_refl _)
  rw [List.drop_length] at h3
  simp only [depthOf] at h3
  have hl : fs.length = 1 := by injection h3 with h3; omega
  match fs, hl with
  | [c], _ =>
    have hc : cmpBy e = c := by
      funext x y
      rw [← stackAt_end (k := e.length) (Nat.le_refl _), h2]; rfl
    rw [hc]; exact h1 c (by simp)
theorem cmpBy_vals {e : List GNode} {x x' y y' : GItem} (hx : x.vals = x'.vals) (hy : y.vals = y'.vals) : cmpBy e x y = cmpBy e x' y' := by
  have : stackStep x y = stackStep x' y' := by
    funext st n
    unfold stackStep cmpItem valAt; rw [hx, hy]
  unfold cmpBy; rw [this]
/-- one that nothing beats -/
theorem PO.top {c : GItem → GItem → Int} (h : PO c) : ∀ {l : List GItem}, l ≠ [] → (∀ x ∈ l, isItem x = true) → ∃ m ∈ l, ∀ y ∈ l, c y m ≠ 1
  | [], hl, _ => absurd rfl hl
  | x :: l, _, hi => by
    have hx := hi x (by simp)
    by_cases hl : l = []
    · subst hl
      exact ⟨x, by simp, fun y hy => by rw [List.mem_singleton] at hy; rw [hy, h.refl x hx]; omega⟩
    · obtain ⟨m, hm, ht⟩ := PO.top h hl (fun y hy => hi y (by simp [hy]))
      have hmi := hi m (by simp [hm])
      by_cases hb : c x m = 1
      · refine ⟨x, by simp, fun y hy he => ?_⟩
        rcases List.mem_cons.1 hy with rfl | hy
        · rw [h.refl _ hx] at he; omega
        · refine ht y hy ?_
          rw [h.tr y x m (hi y (by simp [hy])) hx hmi (by omega) (by omega) (by omega) (by omega)]; omega
      · exact ⟨m, by simp [hm], fun y hy => by
          rcases List.mem_cons.1 hy with rfl | hy
          · exact hb
          · exact ht y hy⟩
theorem best_pos {l : List GItem} {e : List GNode} (hE : isExpr e = true) (hl : l ≠ []) (hi : ∀ x ∈ l, isItem x = true) : bestM l e ≠ [] := by
  obtain ⟨m, hm, ht⟩ := (cmpBy_PO hE).top hl hi
  have : m.id ∈ bestM l e := by
    unfold bestM
    refine List.mem_map.2 ⟨m, List.mem_filter.2 ⟨hm, ?_⟩, rfl⟩
    unfold freeIn
    rw [Bool.not_eq_true', List.any_eq_false]
    intro y hy
    simp only [beats, decide_eq_true_iff]
    exact ht y hy
  intro h; rw [h] at this; simp at this
end Go.Proofs.YthlaabaffbffkaaGreat
