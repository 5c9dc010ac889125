/- The best items in plain words. No program in sight. -/
import Derived.Test.YtfffklkiikmieaaStack
namespace Go.Proofs.Ytfffklkiikmieaa
open Go.RowKit
set_option linter.unusedVariables false

def beats (e : List GNode) (y x : GItem) : Bool := decide (cmpBy e y x = 1)
def freeIn (l : List GItem) (e : List GNode) (x : GItem) : Bool := !(l.any fun y => beats e y x)
def bestM (l : List GItem) (e : List GNode) : List Int := (l.filter (freeIn l e)).map (·.id)
def areBoth (l : List GItem) (e : List GNode) : Bool := areItems l && isExpr e
def bestItems (l : List GItem) (e : List GNode) : List Int := if areBoth l e then bestM l e else []
def onlyM (l : List GItem) (ids : List Int) (b : Bool) : List GItem := l.filter fun x => ids.contains x.id == b
theorem areItemsFrom_none : ∀ {l : List GItem} {p : Option Int}, areItemsFrom p l = true → areItemsFrom none l = true
  | [], _, _ => rfl
  | x :: l, none, h => h
  | x :: l, some p, h => by
    simp only [areItemsFrom, Bool.and_eq_true] at h ⊢
    exact ⟨h.1.1, h.2⟩
theorem areItemsFrom_low {p q : Int} (hpq : p ≤ q) : ∀ {l : List GItem}, areItemsFrom (some q) l = true → areItemsFrom (some p) l = true
  | [], _ => rfl
  | x :: l, h => by
    simp only [areItemsFrom, Bool.and_eq_true, decide_eq_true_iff] at h ⊢
    exact ⟨⟨h.1.1, by omega⟩, h.2⟩
theorem areItemsFrom_filter (f : GItem → Bool) : ∀ {l : List GItem} {p : Option Int}, areItemsFrom p l = true → areItemsFrom p (l.filter f) = true
  | [], _, _ => by simp [areItemsFrom]
  | x :: l, none, h => by
    have hh := h
    simp only [areItemsFrom, Bool.and_eq_true] at h
    by_cases hf : f x = true
    · rw [List.filter_cons_of_pos hf]
      simp only [areItemsFrom, Bool.and_eq_true]
      exact ⟨h.1, areItemsFrom_filter f h.2⟩
    · rw [List.filter_cons_of_neg hf]
      exact areItemsFrom_filter f (areItemsFrom_none h.2)
  | x :: l, some p, h => by
    simp only [areItemsFrom, Bool.and_eq_true, decide_eq_true_iff] at h
    by_cases hf : f x = true
    · rw [List.filter_cons_of_pos hf]
      simp only [areItemsFrom, Bool.and_eq_true, decide_eq_true_iff]
      exact ⟨h.1, areItemsFrom_filter f h.2⟩
    · rw [List.filter_cons_of_neg hf]
      exact areItemsFrom_filter f (areItemsFrom_low (by omega) h.2)
theorem areItems_filter {l : List GItem} (f : GItem → Bool) (h : areItems l = true) : areItems (l.filter f) = true := by
  unfold areItems at h ⊢
  simp only [Bool.and_eq_true, decide_eq_true_iff] at h ⊢
  exact ⟨areItemsFrom_filter f h.1, Nat.le_trans (List.length_filter_le _ _) h.2⟩
theorem areBoth_items {l : List GItem} {e : List GNode} (h : areBoth l e = true) : areItems l = true := by unfold areBoth at h; simp only [Bool.and_eq_true] at h; exact h.1
theorem areBoth_expr {l : List GItem} {e : List GNode} (h : areBoth l e = true) : isExpr e = true := by unfold areBoth at h; simp only [Bool.and_eq_true] at h; exact h.2
theorem bestM_len (l : List GItem) (e : List GNode) : (bestM l e).length ≤ l.length := by unfold bestM; rw [List.length_map]; exact List.length_filter_le _ _
/-- the best of the first items -/
def bestTo (l : List GItem) (e : List GNode) (k : Nat) : List Int := ((l.take k).filter (freeIn l e)).map (·.id)
theorem bestTo_yes {l : List GItem} {e : List GNode} {k : Nat} {x : GItem} (hx : l[k]? = some x) (h : freeIn l e x = true) : bestTo l e (k + 1) = bestTo l e k ++ [x.id] := by
  unfold bestTo; rw [List.take_add_one, hx, List.filter_append, List.map_append]; simp [h]
theorem bestTo_no {l : List GItem} {e : List GNode} {k : Nat} {x : GItem} (hx : l[k]? = some x) (h : freeIn l e x = false) : bestTo l e (k + 1) = bestTo l e k := by
  unfold bestTo; rw [List.take_add_one, hx, List.filter_append, List.map_append]; simp [h]
theorem bestTo_end {l : List GItem} {e : List GNode} {k : Nat} (h : l.length ≤ k) : bestTo l e k = bestM l e := by unfold bestTo bestM; rw [List.take_of_length_le h]
theorem bestTo_len {l : List GItem} {e : List GNode} {k : Nat} : (bestTo l e k).length ≤ k := by
  unfold bestTo; rw [List.length_map]
  exact Nat.le_trans (List.length_filter_le _ _) (by rw [List.length_take]; omega)
theorem any_take_succ {α : Type} (f : α → Bool) {l : List α} {k : Nat} {y : α} (h : l[k]? = some y) : (l.take (k + 1)).any f = ((l.take k).any f || f y) := by
  rw [List.take_add_one, h, List.any_append]; simp
theorem any_take_end {α : Type} (f : α → Bool) {l : List α} {k : Nat} (h : l.length ≤ k) : (l.take k).any f = l.any f := by rw [List.take_of_length_le h]
def onlyTo (l : List GItem) (ids : List Int) (b : Bool) (k : Nat) : List GItem := (l.take k).filter fun x => ids.contains x.id == b
theorem onlyTo_yes {l : List GItem} {ids : List Int} {b : Bool} {k : Nat} {x : GItem} (hx : l[k]? = some x) (h : ids.contains x.id = b) : onlyTo l ids b (k + 1) = onlyTo l ids b k ++ [x] := by
  have hb : (ids.contains x.id == b) = true := by rw [h]; simp
  unfold onlyTo; rw [List.take_add_one, hx, List.filter_append]
  simp only [Option.toList_some, List.filter_cons, List.filter_nil, hb, if_true]
theorem onlyTo_no {l : List GItem} {ids : List Int} {b : Bool} {k : Nat} {x : GItem} (hx : l[k]? = some x) (h : ids.contains x.id = !b) : onlyTo l ids b (k + 1) = onlyTo l ids b k := by
  have hb : (ids.contains x.id == b) = false := by rw [h]; cases b <;> rfl
  unfold onlyTo; rw [List.take_add_one, hx, List.filter_append]
  simp only [Option.toList_some, List.filter_cons, List.filter_nil, hb, List.append_nil, Bool.false_eq_true, if_false]
theorem onlyTo_end {l : List GItem} {ids : List Int} {b : Bool} {k : Nat} (h : l.length ≤ k) : onlyTo l ids b k = onlyM l ids b := by unfold onlyTo onlyM; rw [List.take_of_length_le h]
theorem onlyTo_len {l : List GItem} {ids : List Int} {b : Bool} {k : Nat} : (onlyTo l ids b k).length ≤ k := by
  unfold onlyTo
  exact Nat.le_trans (List.length_filter_le _ _) (by rw [List.length_take]; omega)
theorem onlyM_len (l : List GItem) (ids : List Int) (b : Bool) : (onlyM l ids b).length ≤ l.length := List.length_filter_le _ _

/-! ### several laws' answers -/
def codeB (c : Int) : Int := c
def refineM (l : List GItem) (ids : List Int) (q : List GNode) : List Int := if areBoth l q then bestM (onlyM l ids true) q else []
def localFree (a : List GItem) (f : Int) (p : List GNode) (x : GItem) : Bool := !(a.any fun y => decide (valAt x f = valAt y f) && beats p y x)
def localM (a : List GItem) (f : Int) (p : List GNode) : List Int := if areBoth a p && inB f 0 2 then (a.filter (localFree a f p)).map (·.id) else []
def isStand (s : GStanding) : Bool := areBoth s.items s.wanted && (decide (s.best = bestM s.items s.wanted) && inB s.tests 0 1000000)
end Go.Proofs.Ytfffklkiikmieaa
