/- Rolls: comparisons, a roll after calls, TicketRefuses: states and what is to be shown, reduced. No conditions. -/
import Derived.Test.YtcpdcpfbgmiaoaaDoorRollJ
set_option linter.all false
set_option maxRecDepth 100000
set_option maxHeartbeats 2000000
namespace Go.P3
open Go.Lom Go.Proofs Go
abbrev LE : Ty := .sl E5
abbrev LK : Ty := .sl T6
end Go.P3
