/- Calls, evaluated (printed by memo.py). No conditions. -/
import Derived.Test.YtcpdcpfbgmiaoaaDoorTickWE
set_option linter.unusedSimpArgs false
set_option linter.constructorNameAsVariable false
set_option linter.unusedVariables false
namespace Go.TickW
open Go.Lom Go.Proofs Go
set_option maxRecDepth 100000 in
theorem q2 : eqOut (acallT Tryd.prog 1000 ⟨[], tb1, [(50, Go.P3.codA), (16, Go.P3.numA)]⟩ 100 (.f e2.k) e2.avs e2.H e2.nx) e2.out = true := by kernel_rfl
set_option maxRecDepth 100000 in
theorem q5 : eqOut (acallT Tryd.prog 1000 ⟨[], tb4, [(50, Go.P3.codA), (16, Go.P3.numA)]⟩ 100 (.f e5.k) e5.avs e5.H e5.nx) e5.out = true := by kernel_rfl
set_option maxRecDepth 100000 in
theorem q8 : eqOut (acallT Tryd.prog 1000 ⟨[], tb7, [(50, Go.P3.codA), (16, Go.P3.numA)]⟩ 100 (.f e8.k) e8.avs e8.H e8.nx) e8.out = true := by kernel_rfl
set_option maxRecDepth 100000 in
theorem q11 : eqOut (acallT Tryd.prog 1000 ⟨[], tb10, [(50, Go.P3.codA), (16, Go.P3.numA)]⟩ 100 (.f e11.k) e11.avs e11.H e11.nx) e11.out = true := by kernel_rfl
end Go.TickW
