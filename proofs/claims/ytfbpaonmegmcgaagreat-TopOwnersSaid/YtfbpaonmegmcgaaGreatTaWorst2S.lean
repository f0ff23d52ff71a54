/- Funds: the worst run by the reference: states and what is to be shown, reduced. No conditions. -/
import Derived.Test.YtfbpaonmegmcgaaGreatTaWorstS
set_option linter.all false
set_option maxRecDepth 100000
set_option maxHeartbeats 2000000
namespace Go.P9
open Go.Lom Go.Proofs Go
def aheadI : List Int -> List Int -> Bool
 | [], [] => false
 | [], _ :: _ => true
 | _ :: _, [] => false
 | x :: a, y :: b => if x = y then aheadI a b else decide (x < y)
def bitB (bits : Int) (i : Nat) : Bool := Int.tmod (Int.fdiv bits (2 ^ min i 64)) 2 == 1
end Go.P9
