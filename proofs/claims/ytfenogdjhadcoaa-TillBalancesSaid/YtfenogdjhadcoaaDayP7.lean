/- Days: the reference: balances, what a posting may really have been: the code keeps its contracts. No conditions. -/
import Derived.Test.YtfenogdjhadcoaaDayP6
import Derived.Test.YtfenogdjhadcoaaDayS4
import Derived.Test.YtfenogdjhadcoaaPaysP
set_option linter.all false
set_option maxRecDepth 100000
set_option maxHeartbeats 4000000
namespace Go.P8
open Go.Lom Go.Proofs Go
theorem okFrom' : FnOk Try.prog 26 fcFrom' := fun x K hx => ok26 x K (hx _ rfl)
end Go.P8
