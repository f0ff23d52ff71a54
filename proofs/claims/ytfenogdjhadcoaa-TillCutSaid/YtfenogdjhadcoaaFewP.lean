/- TillFewest: the code keeps its contract. No conditions. -/
import Derived.Test.YtfenogdjhadcoaaRefS8
import Derived.Test.YtfenogdjhadcoaaPaysP
set_option linter.constructorNameAsVariable false
set_option linter.unusedVariables false
set_option linter.unusedSimpArgs false
set_option maxRecDepth 100000
set_option maxHeartbeats 8000000
namespace Go.P8
open Go.Lom Go.Proofs Go

theorem wrap_i64 (n : Int) : inR .i64 (wrapA .i64 n) = true := by
  refine inR_i64.2 ?_
  simp only [wrapA, IntKind.wrap, IntKind.signed, IntKind.bits, Bool.true_and]
  simp
  omega
theorem ok26' : FnOk Try.prog 26 fcFrom' := fun x K hx => ok26 x K (hx _ rfl)
end Go.P8
