/- For every input, FnExactCostOf returns true and leaves its arguments as they were. No condition. -/
import Derived.Test.YtfffklkiikmieaaRows
import Derived.Test.YtfffklkiikmieaaCost
import Derived.Test.YtfffklkiikmieaaOpen
namespace Go.Proofs.Ytfffklkiikmieaa
open Go.RowKit Go.ChangeShapes Go.WideShapes Go.ChangeAt
set_option linter.unusedVariables false
end Go.Proofs.Ytfffklkiikmieaa
