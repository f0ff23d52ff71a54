/- Funds: the worst run by the reference: the code keeps its contracts. No conditions. -/
import Derived.Test.YtfbpaonmegmcgaaGreatTaWorst2S
import Derived.Test.YtfbpaonmegmcgaaGreatTaWorstP
set_option linter.all false
set_option maxRecDepth 100000
namespace Go.P9
open Go.Lom Go.Proofs Go
theorem seg_app3 (b : List Int) (i : Int) : seg 0 (b.length + (seg 0 1 [i]).length) (seg 0 b.length b ++ seg 0 1 [i]) = b ++ [i] := by
 simp [seg]
 exact List.take_of_length_le (by simp)
end Go.P9
