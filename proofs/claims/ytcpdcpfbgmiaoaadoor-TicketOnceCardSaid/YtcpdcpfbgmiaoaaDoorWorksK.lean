/- The chapter's examples: 'works' returns true. No conditions. -/
import Derived.Test.YtcpdcpfbgmiaoaaDoorTickWA
set_option linter.unusedSimpArgs false
set_option linter.constructorNameAsVariable false
set_option linter.unusedVariables false
namespace Go.P3
open Go.Lom Go.Proofs Go
set_option maxRecDepth 100000 in
theorem okWorks : PCok Tryd.prog 21 [] [.b] fun _ K => K (true, ()) := pc_evalT TickW.k12 (lf := 1000) (n := 100) (b := true) (by kernel_rfl)
end Go.P3
