/- Funds: an example of the worst run: states and what is to be shown, reduced. No conditions. -/
import Derived.Test.YtklleedcdjkpeaaNeedsS
set_option linter.unusedSimpArgs false
set_option linter.unusedVariables false
set_option linter.constructorNameAsVariable false
set_option maxRecDepth 100000
set_option maxHeartbeats 2000000
namespace Go.P9
open Go.Lom Go.Proofs Go


/-! how much is taken -/
def byRow (row : List Int) (day t : Int) : Int := ((row.take (day + 1).toNat).drop t.toNat).sum
def byI (out : List (List Int)) (day i : Int) : Int := ((out.drop i.toNat).map fun row => byRow row day 0).sum
/-! the law -/
end Go.P9
