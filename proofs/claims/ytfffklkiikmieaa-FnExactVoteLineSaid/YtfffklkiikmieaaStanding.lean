/- Valid standings in both programs. -/
import Derived.Test.YtfffklkiikmieaaBestI
import Derived.Test.YtfffklkiikmieaaBestS
namespace Go.Proofs.Ytfffklkiikmieaa
open Go.RowKit
set_option linter.unusedVariables false
set_option linter.unusedSimpArgs false
theorem bestItems_yes {l : List GItem} {e : List GNode} (h : areBoth l e = true) : bestItems l e = bestM l e := by rw [bestItems, if_pos h]
end Go.Proofs.Ytfffklkiikmieaa
