/- Lines on standings in both programs. -/
import Derived.Test.YtfffklkiikmieaaStanding
import Derived.Test.YtfffklkiikmieaaLines
namespace Go.Proofs.Ytfffklkiikmieaa
open Go.RowKit
set_option linter.unusedVariables false
set_option linter.unusedSimpArgs false
def standLine (x : GStanding) : ByteArray :=
  if isStand x then ⟨#[105, 116, 101, 109, 115, 32]⟩ ++ fmtInt x.items.length ++ ⟨#[32, 98, 101, 115, 116, 32]⟩ ++ idLine x.best ++ ⟨#[32, 116, 101, 115, 116, 115, 32]⟩ ++ fmtInt x.tests else ⟨#[]⟩
theorem wf_small' {n : Int} (h : 0 ≤ n ∧ n ≤ 1000000000) : (Lit.int .i64 n).wf = true := by
  simp [Lit.wf, IntKind.min, IntKind.max, IntKind.signed, IntKind.bits]; omega
theorem bestM_ids {l : List GItem} {e : List GNode} (h : areItems l = true) : ∀ v ∈ bestM l e, 0 ≤ v ∧ v ≤ 99 := fun v hv => by
  unfold bestM at hv
  obtain ⟨x, hx, rfl⟩ := List.mem_map.1 hv
  exact isItem_id (areItems_mem h (List.mem_filter.1 hx).1)
theorem idLine_size {l : List Int} (hw : ∀ x ∈ l, (Lit.int .i64 x).wf = true) : (idLine l).size ≤ 4 + l.length * 21 := by
  unfold idLine
  split
  · show 4 ≤ _; omega
  · unfold numText glued
    have h1 := gl_size ⟨#[32]⟩ (numList l) 0 ⟨#[]⟩
    have h2 := numList_size (l := l) ⟨#[32]⟩ hw
    have e : (⟨#[32]⟩ : ByteArray).size = 1 := rfl
    have e0 : (⟨#[]⟩ : ByteArray).size = 0 := rfl
    rw [e] at h2
    omega
end Go.Proofs.Ytfffklkiikmieaa
