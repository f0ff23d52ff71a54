/- Tickets: what can be read of a code: states and what is to be shown, reduced. No conditions. -/
import Derived.Test.YtcpdcpfbgmiaoaaDoorTickS
set_option linter.all false
set_option maxRecDepth 100000
set_option maxHeartbeats 2000000
namespace Go.P3
open Go.Lom Go.Proofs Go
abbrev shR3 : SV := S [(2, .v L), (3, .v I)]
def byI (s : List UInt8) : List Int := s.map fun b => (b.toNat : Int)
end Go.P3
