/- Spread of both sides, and the laws of shares and of ranks: states and what is to be shown, reduced. No conditions. -/
import Derived.Test.YtnjaebjhfilljaaRanksL
import Derived.Test.YtnjaebjhfilljaaFairS
set_option linter.unusedSimpArgs false
set_option linter.constructorNameAsVariable false
set_option maxRecDepth 100000
set_option maxHeartbeats 2000000
set_option linter.unusedVariables false
namespace Go.P7
open Go.Lom Go.Proofs Go

def spreadL (l : List (Int × Int)) (s : Int) : List Int × Int := spreadN l 10 0 (l.map fun _ => 0) s

end Go.P7
