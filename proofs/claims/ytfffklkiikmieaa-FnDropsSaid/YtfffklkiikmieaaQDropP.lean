/- The wishes that are named suffice to be dropped, and none of them can be kept. No program in sight. -/
import Derived.Test.YtfffklkiikmieaaQDropM
namespace Go.Proofs.Ytfffklkiikmieaa
open Go.RowKit
set_option linter.unusedVariables false
theorem ascN_low {n : Nat} : ∀ {s : List Nat} {lo lo' : Nat}, lo' ≤ lo → ascN n lo s → ascN n lo' s
  | [], _, _, _, _ => trivial
  | v :: t, _, _, h, ⟨h1, h2, h3⟩ => ⟨by omega, h2, h3⟩
theorem ascN_filter {n : Nat} (f : Nat → Bool) : ∀ {s : List Nat} {lo : Nat}, ascN n lo s → ascN n lo (s.filter f)
  | [], _, _ => trivial
  | v :: t, lo, ⟨h1, h2, h3⟩ => by
    by_cases hf : f v = true
    · rw [List.filter_cons_of_pos hf]; exact ⟨h1, h2, ascN_filter f h3⟩
    · rw [List.filter_cons_of_neg hf]; exact ascN_low (by omega) (ascN_filter f h3)
/-- the places that are dropped when one of them is kept -/
def butOne (s : List Nat) (k : Nat) : List Nat := s.filter fun j => decide (j ≠ k)
theorem butOne_len {s : List Nat} {k : Nat} (h : k ∈ s) : (butOne s k).length < s.length := by
  unfold butOne
  induction s with
  | nil => simp at h
  | cons a s ih =>
    by_cases ha : a = k
    · rw [List.filter_cons_of_neg (by simp [ha])]
      have := List.length_filter_le (fun j => decide (j ≠ k)) s
      rw [List.length_cons]; omega
    · rw [List.filter_cons_of_pos (by simp [ha])]
      have := ih ((List.mem_cons.1 h).resolve_left (Ne.symm ha))
      simp only [List.length_cons]; omega
theorem butOne_contains (s : List Nat) (k j : Nat) : (butOne s k).contains j = (s.contains j && decide (j ≠ k)) := by
  rw [Bool.eq_iff_iff, Bool.and_eq_true]
  unfold butOne
  simp [List.mem_filter]
def dropN (l : List GItem) (w : List GWish) (id : Int) : List Nat := dropI (suits l w id) w.length (w.length + 1) 0
theorem dropN_all (l : List GItem) (w : List GWish) (id : Int) : Least (suits l w id) w.length (dropN l w id) ∧ ∀ u, ascN w.length 0 u → u.length < (dropN l w id).length → suits l w id u = false :=
  dropI_least (f := w.length + 1) (size := 0) _ (asc_range w.length) (suits_all l w id) (by rw [List.length_range]; omega) (fun u _ h => absurd h (Nat.not_lt_zero _))
theorem dropN_suits (l : List GItem) (w : List GWish) (id : Int) : suits l w id (dropN l w id) = true := (dropN_all l w id).1.2.1
theorem dropN_one {l : List GItem} {w : List GWish} {id : Int} {k : Nat} (h : k ∈ dropN l w id) : suits l w id (butOne (dropN l w id) k) = false :=
  (dropN_all l w id).2 _ (ascN_filter _ (dropN_all l w id).1.1) (butOne_len h)
theorem dropL_N {l : List GItem} {w : List GWish} {id : Int} (h : dropOk l w id = true) : dropL l w id = ints (dropN l w id) := by unfold dropL; rw [if_pos h]; rfl
/-- what the law keeps: nothing of what is dropped, or all but one -/
def keptOf (s : List Nat) : Option Nat → List Nat
  | none => s
  | some k => butOne s k
theorem keptOf_suits (l : List GItem) (w : List GWish) (id : Int) {o : Option Nat} (h : ∀ k, o = some k → k ∈ dropN l w id) : suits l w id (keptOf (dropN l w id) o) = o.isNone := by
  cases o with
  | none => exact dropN_suits l w id
  | some k => exact dropN_one (h k rfl)
end Go.Proofs.Ytfffklkiikmieaa
