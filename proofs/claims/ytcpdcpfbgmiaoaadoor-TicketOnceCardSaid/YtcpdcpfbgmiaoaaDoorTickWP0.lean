/- Calls, evaluated (printed by memo.py). No conditions. -/
import Derived.Test.YtcpdcpfbgmiaoaaDoorTickWE
set_option linter.unusedSimpArgs false
set_option linter.constructorNameAsVariable false
set_option linter.unusedVariables false
namespace Go.TickW
open Go.Lom Go.Proofs Go
set_option maxRecDepth 100000 in
theorem q3 : eqOut (acallT Tryd.prog 1000 ⟨[], tb2, [(50, Go.P3.codA), (16, Go.P3.numA)]⟩ 100 (.f e3.k) e3.avs e3.H e3.nx) e3.out = true := by kernel_rfl
set_option maxRecDepth 100000 in
theorem q6 : eqOut (acallT Tryd.prog 1000 ⟨[], tb5, [(50, Go.P3.codA), (16, Go.P3.numA)]⟩ 100 (.f e6.k) e6.avs e6.H e6.nx) e6.out = true := by kernel_rfl
set_option maxRecDepth 100000 in
theorem q9 : eqOut (acallT Tryd.prog 1000 ⟨[], tb8, [(50, Go.P3.codA), (16, Go.P3.numA)]⟩ 100 (.f e9.k) e9.avs e9.H e9.nx) e9.out = true := by kernel_rfl
set_option maxRecDepth 100000 in
theorem q12 : eqOut (acallT Tryd.prog 1000 ⟨[], tb11, [(50, Go.P3.codA), (16, Go.P3.numA)]⟩ 100 (.f e12.k) e12.avs e12.H e12.nx) e12.out = true := by kernel_rfl
end Go.TickW
