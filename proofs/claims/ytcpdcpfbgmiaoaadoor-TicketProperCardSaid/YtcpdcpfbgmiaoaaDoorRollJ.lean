/- Rolls: the statements that ask the program alone: states and what is to be shown, reduced. No conditions. -/
import Derived.Test.YtcpdcpfbgmiaoaaDoorRollF
import Derived.Test.YtcpdcpfbgmiaoaaDoorFit2S
set_option linter.all false
set_option maxRecDepth 100000
set_option maxHeartbeats 2000000
namespace Go.P3
open Go.Lom Go.Proofs Go
structure okLs (l : List Cl) : Prop where
 len : l.length <= big
 all : ∀ c ∈ l, okCl c
end Go.P3
