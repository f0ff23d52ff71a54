/- Funds: the law of plans that fail: states and what is to be shown, reduced. No conditions. -/
import Derived.Test.YtklleedcdjkpeaaFollowS
import Derived.Test.YtklleedcdjkpeaaExamS
set_option linter.unusedSimpArgs false
set_option linter.unusedVariables false
set_option linter.constructorNameAsVariable false
set_option maxRecDepth 100000
set_option maxHeartbeats 2000000
namespace Go.P9
open Go.Lom Go.Proofs Go

end Go.P9
