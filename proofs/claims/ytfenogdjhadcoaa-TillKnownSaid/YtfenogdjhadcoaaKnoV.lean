/- TillKnown: what is to be shown, reduced. No conditions. -/
import Derived.Test.YtfenogdjhadcoaaKnoL
import Derived.Test.YtfenogdjhadcoaaKnoE
import Derived.KernelRfl
set_option linter.all false
set_option maxRecDepth 100000
set_option maxHeartbeats 2000000
namespace Go.P8
open Go.Lom Go.Proofs Go
theorem v11K (K : dens [.b] -> Prop) : xfn1 Try.prog { un := 1064, fz := true, f := [(12, fk12), (17, fk17), (19, fk19), (22, fk22), (31, fk31), (32, fk32), (34, fk34), (37, fk37), (39, fk39)] } 60 11 fk19 () K = K (true, ()) := by kernel_rfl
end Go.P8
