/- The chapter's examples: 'works' returns true. No conditions. -/
import Derived.Test.YtfenogdjhadcoaaLibE
import Derived.KernelRfl
import Derived.Test.YtfenogdjhadcoaaProg
set_option linter.all false
namespace Go.P8
open Go.Lom Go.Proofs Go
set_option maxRecDepth 100000 in
theorem okWorks : PCok Try.prog 19 [] [.b] fun _ K => K (true, ()) := pc_eval (lf := 1000) (n := 100) (b := true) (by kernel_rfl)
end Go.P8
