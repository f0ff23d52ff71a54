/- TillCut: whatever is cut into pieces, or done by a linked person, a window that reached the sum reaches it. No conditions. -/
import Derived.Test.YtfenogdjhadcoaaCutL
import Derived.Test.YtfenogdjhadcoaaAlarmS
import Derived.Test.YtfenogdjhadcoaaAlarmP
set_option linter.constructorNameAsVariable false
set_option linter.unusedVariables false
set_option linter.unusedSimpArgs false
set_option maxRecDepth 100000
set_option maxHeartbeats 4000000
namespace Go.P8
open Go.Lom Go.Proofs Go

theorem fk {b : Bool} {P Q : Prop} (h1 : b = true → P) (h2 : b = false → Q) : fork b P Q := fork_iff.2 ⟨h1, h2⟩
theorem rq {b : Bool} {P : Prop} (h1 : b = true) (h2 : P) : req b P := req_iff.2 ⟨h1, h2⟩

end Go.P8
