/- Plain facts about valid items. -/
import Derived.Test.YtfffklkiikmieaaFind
namespace Go.Proofs.Ytfffklkiikmieaa
open Go.RowKit
set_option linter.unusedVariables false
theorem inB_iff {x lo hi : Int} : inB x lo hi = true ↔ lo ≤ x ∧ x ≤ hi := by unfold inB; exact decide_eq_true_iff
theorem areItemsFrom_mem : ∀ {l : List GItem} {p : Option Int} {x : GItem}, areItemsFrom p l = true → x ∈ l → isItem x = true
  | y :: l, none, x, h, hx => by
    simp only [areItemsFrom, Bool.and_eq_true] at h
    rcases List.mem_cons.1 hx with rfl | hx
    · exact h.1
    · exact areItemsFrom_mem h.2 hx
  | y :: l, some p, x, h, hx => by
    simp only [areItemsFrom, Bool.and_eq_true] at h
    rcases List.mem_cons.1 hx with rfl | hx
    · exact h.1.1
    · exact areItemsFrom_mem h.2 hx
theorem areItems_mem {l : List GItem} {x : GItem} (h : areItems l = true) (hx : x ∈ l) : isItem x = true := by
  simp only [areItems, Bool.and_eq_true] at h
  exact areItemsFrom_mem h.1 hx
theorem areItems_len {l : List GItem} (h : areItems l = true) : l.length ≤ 16 := by
  simp only [areItems, Bool.and_eq_true, decide_eq_true_iff] at h
  exact h.2
theorem isItem_len {x : GItem} (h : isItem x = true) : x.vals.length = 3 := by
  simp only [isItem, Bool.and_eq_true, decide_eq_true_iff] at h
  exact h.2.1
theorem isItem_id {x : GItem} (h : isItem x = true) : 0 ≤ x.id ∧ x.id ≤ 99 := by
  simp only [isItem, Bool.and_eq_true] at h
  exact inB_iff.1 h.1
theorem isItem_val {x : GItem} (h : isItem x = true) {v : Int} (hv : v ∈ x.vals) : 0 ≤ v ∧ v ≤ 9 := by
  simp only [isItem, Bool.and_eq_true, List.all_eq_true] at h
  exact inB_iff.1 (h.2.2 v hv)
/-- the value of a field -/
def valAt (x : GItem) (f : Int) : Int := x.vals.getD f.toNat 0
theorem valAt_get {x : GItem} (h : isItem x = true) {f : Nat} (hf : f ≤ 2) : x.vals[f]? = some (valAt x f) := by
  have hl := isItem_len h
  unfold valAt
  rw [Int.toNat_natCast, List.getD_eq_getElem?_getD, List.getElem?_eq_getElem (by omega)]; rfl
theorem valAt_bd {x : GItem} (h : isItem x = true) {f : Nat} (hf : f ≤ 2) : 0 ≤ valAt x f ∧ valAt x f ≤ 9 := isItem_val h (List.mem_of_getElem? (valAt_get h hf))
end Go.Proofs.Ytfffklkiikmieaa
