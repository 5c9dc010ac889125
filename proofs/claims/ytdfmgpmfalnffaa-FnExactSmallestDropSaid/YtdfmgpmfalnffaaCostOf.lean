/- For every input, FnExactCostOf returns true and leaves its arguments as they were. No condition. -/
import Derived.Test.YtdfmgpmfalnffaaRows
import Derived.Test.YtdfmgpmfalnffaaCost
import Derived.Test.YtdfmgpmfalnffaaOpen
namespace Go.Proofs.Ytdfmgpmfalnffaa
open Go.RowKit Go.ChangeShapes Go.WideShapes Go.ChangeAt
set_option linter.unusedVariables false
end Go.Proofs.Ytdfmgpmfalnffaa
