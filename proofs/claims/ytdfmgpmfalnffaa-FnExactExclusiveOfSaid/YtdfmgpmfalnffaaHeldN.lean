/- What the laws look for in a list of nodes. -/
import Derived.Test.YtdfmgpmfalnffaaMarks4
namespace Go.Proofs.Ytdfmgpmfalnffaa
open Go.RowKit
set_option linter.unusedVariables false
theorem mkNodes_length : ∀ (xs : List GNode) (k : Nat), (mkNodes xs k).length = xs.length
  | [], _ => rfl
  | _ :: xs, k => by rw [mkNodes, List.length_cons, mkNodes_length xs, List.length_cons]
theorem mkNodes_at : ∀ {xs : List GNode} {k j : Nat} {x : GNode}, xs[j]? = some x → (mkNodes xs k)[j]? = some ⟨((k + markNodes (xs.take j) : Nat) : Int), ⟨((k + markNodes (xs.take j) + 1 : Nat) : Int), ((k + markNodes (xs.take j) + 2 : Nat) : Int), ((k + markNodes (xs.take j) + 3 : Nat) : Int), mkInts x.wish.list (k + markNodes (xs.take j) + 4), mkPairs x.wish.pairs (k + markNodes (xs.take j) + 4 + x.wish.list.length)⟩⟩
  | y :: xs, k, 0, x, h => by simp at h; subst h; simp [mkNodes, markNodes, sumL]
  | y :: xs, k, j + 1, x, h => by
    simp only [mkNodes, List.getElem?_cons_succ]
    rw [mkNodes_at (by simpa using h)]
    have e : k + markN y + markNodes (xs.take j) = k + markNodes ((y :: xs).take (j + 1)) := by
      simp only [markNodes, List.take_succ_cons, sumL]; omega
    rw [e]
  | [], _, _, _, h => by simp at h
end Go.Proofs.Ytdfmgpmfalnffaa
