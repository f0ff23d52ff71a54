/- TillPays: the code keeps its contract. No conditions. -/
import Derived.Test.YtfenogdjhadcoaaRefQ8
set_option linter.all false
set_option maxRecDepth 100000
set_option maxHeartbeats 4000000
namespace Go.P8
open Go.Lom Go.Proofs Go
theorem okWorks' : FnOk Try.prog 19 fcWorks := okWorks
end Go.P8
