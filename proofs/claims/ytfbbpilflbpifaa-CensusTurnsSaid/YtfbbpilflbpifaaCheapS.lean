/- CensusCheapest: states and what is to be shown, reduced. No conditions. -/
import Derived.Test.YtfbbpilflbpifaaPatS
import Derived.Test.YtfbbpilflbpifaaRankQ
set_option linter.unusedSimpArgs false
set_option linter.unusedVariables false
set_option linter.constructorNameAsVariable false
set_option maxRecDepth 100000
set_option maxHeartbeats 2000000
namespace Go.P10
open Go.Lom Go.Proofs Go
def aheadI : List Int → List Int → Bool
  | [], [] => false
  | [], _ :: _ => true
  | _ :: _, [] => false
  | x :: a, y :: b => if x = y then aheadI a b else decide (x < y)
end Go.P10
