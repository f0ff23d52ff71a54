/- The chapter's examples: 'works' returns true. No conditions. -/
import Derived.Test.YtfenogdjhadcoaaGreatLibC
import Derived.KernelRfl
import Derived.Test.YtfenogdjhadcoaaGreatProg
set_option linter.unusedSimpArgs false
set_option linter.constructorNameAsVariable false
set_option linter.unusedVariables false
namespace Go.P8
open Go.Lom Go.Proofs Go
set_option maxRecDepth 100000 in
theorem okWorks : PCok Tryz.prog 11 [] [.b] fun _ K => K (true, ()) := pc_eval (lf := 1000) (n := 100) (b := true) (by kernel_rfl)
end Go.P8
