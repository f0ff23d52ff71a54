/- Funds: an example of the worst run, the law of needs: the code keeps its contracts. No conditions. -/
import Derived.Test.YtklleedcdjkpeaaExamS
import Derived.Test.YtklleedcdjkpeaaNeedsP
set_option linter.constructorNameAsVariable false
set_option linter.unusedVariables false
set_option linter.unusedSimpArgs false
set_option maxRecDepth 100000
namespace Go.P9
open Go.Lom Go.Proofs Go

end Go.P9
