/- Calls, evaluated (printed by memo.py). No conditions. -/
import Derived.Test.YtcpdcpfbgmiaoaaDoorTickWE
set_option linter.unusedSimpArgs false
set_option linter.constructorNameAsVariable false
set_option linter.unusedVariables false
namespace Go.TickW
open Go.Lom Go.Proofs Go
set_option maxRecDepth 100000 in
theorem q1 : eqOut (acallT Tryd.prog 1000 ⟨[], tb0, [(50, Go.P3.codA), (16, Go.P3.numA)]⟩ 100 (.f e1.k) e1.avs e1.H e1.nx) e1.out = true := by kernel_rfl
set_option maxRecDepth 100000 in
theorem q4 : eqOut (acallT Tryd.prog 1000 ⟨[], tb3, [(50, Go.P3.codA), (16, Go.P3.numA)]⟩ 100 (.f e4.k) e4.avs e4.H e4.nx) e4.out = true := by kernel_rfl
set_option maxRecDepth 100000 in
theorem q7 : eqOut (acallT Tryd.prog 1000 ⟨[], tb6, [(50, Go.P3.codA), (16, Go.P3.numA)]⟩ 100 (.f e7.k) e7.avs e7.H e7.nx) e7.out = true := by kernel_rfl
set_option maxRecDepth 100000 in
theorem q10 : eqOut (acallT Tryd.prog 1000 ⟨[], tb9, [(50, Go.P3.codA), (16, Go.P3.numA)]⟩ 100 (.f e10.k) e10.avs e10.H e10.nx) e10.out = true := by kernel_rfl
end Go.TickW
