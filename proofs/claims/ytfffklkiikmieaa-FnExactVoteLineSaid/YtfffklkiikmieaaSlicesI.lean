/- Go's library: slices.Index and slices.Contains at whole numbers. -/
import Derived.Test.YtfffklkiikmieaaReach
namespace Go.Proofs.Ytfffklkiikmieaa
open Go.RowKit
set_option linter.unusedVariables false
set_option linter.unusedSimpArgs false
def idxI (x : Int) : List Int → Nat → Int
  | [], _ => -1
  | y :: l, i => if x = y then (i : Int) else idxI x l (i + 1)
theorem idxI_step {xs : List Int} {k : Nat} {x y : Int} (h : xs[k]? = some y) : idxI x (xs.drop k) k = if x = y then (k : Int) else idxI x (xs.drop (k + 1)) (k + 1) := by rw [drop_cons h, idxI]
theorem idxI_contains (x : Int) : ∀ (l : List Int) (i : Nat), decide (0 ≤ idxI x l i) = l.contains x
  | [], i => by simp [idxI]
  | y :: l, i => by
    rw [idxI, List.contains_cons]
    by_cases h : x = y
    · rw [if_pos h]; simp [h]
    · rw [if_neg h, idxI_contains x l (i + 1)]; simp [h]
theorem idxI_lt (x : Int) : ∀ (l : List Int) (i : Nat), -1 ≤ idxI x l i ∧ idxI x l i ≤ i + l.length
  | [], i => by simp [idxI]; try omega
  | y :: l, i => by
    have := idxI_lt x l (i + 1)
    rw [idxI]; split
    · simp; try omega
    · simp at this ⊢; omega
set_option maxHeartbeats 800000 in
theorem slices_Index_ints (w : World) (xs : List Int) (x : Int) (v : Value) (h : Rd rInts w xs [v]) : Calls Try.prog 168 #[v, .int .i64 x] w (Ret w (.int .i64 (idxI x xs 0))) := by
  obtain ⟨A, n, c, rfl, L0, Lc, Lm⟩ := rSl_open h
  unfold maxLen at Lm
  have L := Lib.hid L0
  clear L0
  go_enter Try.func168, Try.ntmps168
  go_wp2
  go_loopg [8] n (fun g i w' => ∃ k : Nat, k ≤ n ∧ g = n - k ∧ i = .int .i64 k ∧ Hid (idxI x xs 0 = idxI x (xs.drop k) k) ∧ Bw w w')
  case atStart => exact ⟨0, by omega, rfl, rfl, Lib.hid rfl, Bw.refl _⟩
  case round =>
    obtain ⟨k, hk, rfl, rfl, HE, hb⟩ := hrel
    by_cases hlt : k < n
    · obtain ⟨y, hy⟩ := get_of_lt (xs := xs) (k := k) (by have := L.out; omega)
      obtain ⟨ba, oa, rfl, _, hc0⟩ := rInts_at h hy
      have hc := hb.cell hc0
      have HS := Lib.hid (idxI_step (x := x) hy)
      have i1 : (0 : Int) ≤ (k : Int) := by omega
      have i2 : (k : Int) < (n : Int) := by omega
      clear hy h hc0
      by_cases he : x = y
      · have e1 : (x == y) = true := by simpa using he
        have HX := Lib.hid (show idxI x xs 0 = k by rw [HE.out, HS.out, if_pos he])
        clear he
        go_wp2
        go_ret
        exact Ret.int (HX.out.symm) (hb)
      · have e1 : (x == y) = false := by simpa using he
        have HX := Lib.hid (show idxI x xs 0 = idxI x (xs.drop (k + 1)) (k + 1) by rw [HE.out, HS.out, if_neg he])
        clear he
        go_wp2
        go_roundg (n - (k + 1))
        case measure => omega
        case rel => exact ⟨k + 1, by omega, rfl, by go_num, HX, hb⟩
    · have HX := Lib.hid (show idxI x xs 0 = -1 by rw [HE.out, List.drop_of_length_le (by have := L.out; omega)]; rfl)
      go_wp2
      go_ret
      exact Ret.int (HX.out.symm) (hb)
set_option maxHeartbeats 400000 in
theorem slices_Contains_ints (w : World) (xs : List Int) (x : Int) (v : Value) (h : Rd rInts w xs [v]) : Calls Try.prog 89 #[v, .int .i64 x] w (Ret w (.bool (xs.contains x))) := by
  have HC := Lib.hid (idxI_contains x xs 0)
  go_enter Try.func89, Try.ntmps89
  go_wp2_with fail
  refine (slices_Index_ints _ xs x _ h).mono ?_
  rintro e w2 ⟨rfl, hb2⟩
  go_wp2
  go_ret
  exact Ret.bool (HC.out) (hb2)
end Go.Proofs.Ytfffklkiikmieaa
