/- Comparisons of lists of items and of expressions, and of standings, in both programs. -/
import Derived.Test.YtdfmgpmfalnffaaWishes2
namespace Go.Proofs.Ytdfmgpmfalnffaa
open Go.RowKit
set_option linter.unusedVariables false
end Go.Proofs.Ytdfmgpmfalnffaa
