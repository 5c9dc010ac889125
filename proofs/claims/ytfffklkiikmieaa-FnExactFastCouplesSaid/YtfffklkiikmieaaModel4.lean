/- The locally best items in plain words. No program in sight. -/
import Derived.Test.YtfffklkiikmieaaModel3
namespace Go.Proofs.Ytfffklkiikmieaa
open Go.RowKit
set_option linter.unusedVariables false
def localTo (a : List GItem) (f : Int) (p : List GNode) (k : Nat) : List Int := ((a.take k).filter (localFree a f p)).map (·.id)
theorem localTo_yes {l : List GItem} {f : Int} {e : List GNode} {k : Nat} {x : GItem} (hx : l[k]? = some x) (h : localFree l f e x = true) : localTo l f e (k + 1) = localTo l f e k ++ [x.id] := by
  unfold localTo; rw [List.take_add_one, hx, List.filter_append, List.map_append]; simp [h]
theorem localTo_no {l : List GItem} {f : Int} {e : List GNode} {k : Nat} {x : GItem} (hx : l[k]? = some x) (h : localFree l f e x = false) : localTo l f e (k + 1) = localTo l f e k := by
  unfold localTo; rw [List.take_add_one, hx, List.filter_append, List.map_append]; simp [h]
theorem localTo_end {l : List GItem} {f : Int} {e : List GNode} {k : Nat} (h : l.length ≤ k) : localTo l f e k = (l.filter (localFree l f e)).map (·.id) := by unfold localTo; rw [List.take_of_length_le h]
theorem localTo_len {l : List GItem} {f : Int} {e : List GNode} {k : Nat} : (localTo l f e k).length ≤ k := by
  unfold localTo; rw [List.length_map]
  exact Nat.le_trans (List.length_filter_le _ _) (by rw [List.length_take]; omega)
theorem localM_yes {a : List GItem} {f : Int} {p : List GNode} (h : (areBoth a p && inB f 0 2) = true) : localM a f p = (a.filter (localFree a f p)).map (·.id) := by rw [localM, if_pos h]
theorem localM_no {a : List GItem} {f : Int} {p : List GNode} (h : (areBoth a p && inB f 0 2) = false) : localM a f p = [] := by rw [localM, h]; rfl
theorem localM_len (a : List GItem) (f : Int) (p : List GNode) : (localM a f p).length ≤ a.length := by
  unfold localM; split
  · rw [List.length_map]; exact List.length_filter_le _ _
  · simp
end Go.Proofs.Ytfffklkiikmieaa
