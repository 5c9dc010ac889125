/- More words for owned memory. -/
import Derived.Test.YtfffklkiikmieaaOwn
namespace Go.Proofs.Ytfffklkiikmieaa
open Go.RowKit
set_option linter.unusedVariables false
theorem fSl_lit {α : Type} {e : TypeId} {sz : Nat} {R : Fp α} {w : World} {v : Value} {xs : List α} {F : List Nat} (h : fSl e sz R w xs [v] F) (hne : 0 < xs.length) : ∃ g c, v = .slice (some ⟨g, 0, none⟩) xs.length c ∧ xs.length ≤ c ∧ c ≤ maxLen ∧ g ∈ F := by
  obtain ⟨v', us, Fs, hv, hown, _, hF⟩ := h
  injection hv with hv
  subst hv
  rcases hown.2 with ⟨_, h0⟩ | ⟨g, cap, cur, rfl, _, _, hc, hm, _⟩
  · omega
  · exact ⟨g, cap, rfl, hc, hm, by rw [hF]; simp [Value.ownBlock]⟩
theorem fSl_empty {α : Type} {e : TypeId} {sz : Nat} {R : Fp α} (w : World) : fSl e sz R (w.alloc (.cells #[] e)) [] [.slice (some ⟨w.heap.size, 0, none⟩) 0 0] [w.heap.size] := by
  refine ⟨_, [], [], rfl, ?_, trivial, by simp [Value.ownBlock]⟩
  exact World.ownsRow_made w #[] 0 (Nat.zero_le _) (Nat.zero_le _) (by simp)
theorem fSl_lit' {α : Type} {e : TypeId} {sz : Nat} {R : Fp α} {w : World} {v : Value} {xs : List α} {F : List Nat} (h : fSl e sz R w xs [v] F) (hne : 0 < xs.length) : ∃ g L c, v = .slice (some ⟨g, 0, none⟩) L c ∧ Hid (xs.length = L) ∧ L ≤ c ∧ c ≤ maxLen ∧ 0 < L := by
  obtain ⟨g, c, e, h1, h2, _⟩ := fSl_lit h hne
  exact ⟨g, xs.length, c, e, rfl, h1, h2, hne⟩
end Go.Proofs.Ytfffklkiikmieaa
