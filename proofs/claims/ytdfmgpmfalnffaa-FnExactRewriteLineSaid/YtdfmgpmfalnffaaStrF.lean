/- Lists of strings in the laws: comparison, marks, and what is looked for. -/
import Derived.Test.YtdfmgpmfalnffaaLines
import Derived.Test.YtdfmgpmfalnffaaMarks
namespace Go.Proofs.Ytdfmgpmfalnffaa
open Go.RowKit
set_option linter.unusedVariables false
set_option linter.unusedSimpArgs false
def mText (k : Nat) : ByteArray := strOfNums (109 :: digs k k [])
def mkStrs : List ByteArray → Nat → List ByteArray
  | [], _ => []
  | _ :: xs, k => mText k :: mkStrs xs (k + 1)
theorem mkStrs_length : ∀ (xs : List ByteArray) (k : Nat), (mkStrs xs k).length = xs.length
  | [], _ => rfl
  | _ :: xs, k => by rw [mkStrs, List.length_cons, mkStrs_length xs, List.length_cons]
theorem mkStrs_at : ∀ {xs : List ByteArray} {k j : Nat}, j < xs.length → (mkStrs xs k)[j]? = some (mText (k + j))
  | [], _, _, h => by simp at h
  | _ :: xs, k, 0, _ => rfl
  | _ :: xs, k, j + 1, h => by simp only [mkStrs, List.getElem?_cons_succ]; rw [mkStrs_at (by simpa using h)]; congr 2; omega
theorem all3_nilsS {w : World} : ∀ {xs : List ByteArray} {us : List (List Value)} {Fs : List (List Nat)}, all3 (fun x u f => fStr w x u f ∧ u.length = 1) xs us Fs → Fs.flatten = []
  | [], [], [], _ => rfl
  | _ :: xs, _ :: us, f :: Fs, h => by rw [List.flatten_cons, h.1.1.2, all3_nilsS (xs := xs) h.2]; rfl
  | [], _ :: _, _, h | [], [], _ :: _, h | _ :: _, [], _, h | _ :: _, _ :: _, [], h => h.elim
theorem fStrs_foot2 {w : World} {xs : List ByteArray} {v : Value} {f : List Nat} (h : fStrs w xs [v] f) : f = v.ownBlock.toList := by
  obtain ⟨v', us, Fs, hv, _, hall, hF⟩ := h
  injection hv with hv
  subst hv
  rw [hF, all3_nilsS hall, List.append_nil]
theorem bytes_eq {x y : ByteArray} (h : x = y) : (x.toList == y.toList) = true := by rw [h]; simp
theorem bytes_ne {x y : ByteArray} (h : ¬ x = y) : (x.toList == y.toList) = false := by
  rw [beq_eq_false_iff_ne]
  intro e
  rw [ByteArray.toList_eq, ByteArray.toList_eq] at e
  exact h (ByteArray.ext (Array.toList_inj.1 e))
end Go.Proofs.Ytdfmgpmfalnffaa
