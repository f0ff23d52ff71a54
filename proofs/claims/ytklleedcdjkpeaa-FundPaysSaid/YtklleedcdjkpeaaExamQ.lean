/- Funds: how much is taken in a run, the law of needs. No conditions. -/
import Derived.Test.YtklleedcdjkpeaaExamP
set_option linter.constructorNameAsVariable false
set_option linter.unusedVariables false
set_option linter.unusedSimpArgs false
set_option maxRecDepth 100000
namespace Go.P9
open Go.Lom Go.Proofs Go


/-! the rows of the example -/
end Go.P9
