/- Links and heads: states and what is to be shown, reduced. No conditions. -/
import Derived.Test.YtfenogdjhadcoaaWatJ
import Derived.Test.YtfenogdjhadcoaaPayS
set_option linter.all false
set_option maxRecDepth 100000
set_option maxHeartbeats 2000000
namespace Go.P8
open Go.Lom Go.Proofs Go
abbrev T2 : Ty := .pr I I
abbrev L2 : Ty := .sl T2
@[reducible] def arT : Nat -> Ty
 | 0 => I
 | n + 1 => .pr I (arT n)
def arL : (n : Nat) -> (arT n).den -> List Int
 | 0, x => [x]
 | n + 1, x => x.1 :: arL n x.2
end Go.P8
