/- Calls, evaluated (printed by memo.py). No conditions. -/
import Derived.Test.YtcpdcpfbgmiaoaaDoorTickKE
set_option linter.unusedSimpArgs false
set_option linter.constructorNameAsVariable false
set_option linter.unusedVariables false
namespace Go.TickK
open Go.Lom Go.Proofs Go
set_option maxRecDepth 100000 in
theorem q4 : eqOut (acallT Tryd.prog 1000 ⟨[21], tb3, [(50, Go.P3.codA), (16, Go.P3.numA)]⟩ 100 (.f e4.k) e4.avs e4.H e4.nx) e4.out = true := by kernel_rfl
set_option maxRecDepth 100000 in
theorem q8 : eqOut (acallT Tryd.prog 1000 ⟨[21], tb7, [(50, Go.P3.codA), (16, Go.P3.numA)]⟩ 100 (.f e8.k) e8.avs e8.H e8.nx) e8.out = true := by kernel_rfl
set_option maxRecDepth 100000 in
theorem q12 : eqOut (acallT Tryd.prog 1000 ⟨[21], tb11, [(50, Go.P3.codA), (16, Go.P3.numA)]⟩ 100 (.f e12.k) e12.avs e12.H e12.nx) e12.out = true := by kernel_rfl
set_option maxRecDepth 100000 in
theorem q16 : eqOut (acallT Tryd.prog 1000 ⟨[21], tb15, [(50, Go.P3.codA), (16, Go.P3.numA)]⟩ 100 (.f e16.k) e16.avs e16.H e16.nx) e16.out = true := by kernel_rfl
set_option maxRecDepth 100000 in
theorem q20 : eqOut (acallT Tryd.prog 1000 ⟨[21], tb19, [(50, Go.P3.codA), (16, Go.P3.numA)]⟩ 100 (.f e20.k) e20.avs e20.H e20.nx) e20.out = true := by kernel_rfl
set_option maxRecDepth 100000 in
theorem q24 : eqOut (acallT Tryd.prog 1000 ⟨[21], tb23, [(50, Go.P3.codA), (16, Go.P3.numA)]⟩ 100 (.f e24.k) e24.avs e24.H e24.nx) e24.out = true := by kernel_rfl
set_option maxRecDepth 100000 in
theorem q28 : eqOut (acallT Tryd.prog 1000 ⟨[21], tb27, [(50, Go.P3.codA), (16, Go.P3.numA)]⟩ 100 (.f e28.k) e28.avs e28.H e28.nx) e28.out = true := by kernel_rfl
set_option maxRecDepth 100000 in
theorem q32 : eqOut (acallT Tryd.prog 1000 ⟨[21], tb31, [(50, Go.P3.codA), (16, Go.P3.numA)]⟩ 100 (.f e32.k) e32.avs e32.H e32.nx) e32.out = true := by kernel_rfl
set_option maxRecDepth 100000 in
theorem q36 : eqOut (acallT Tryd.prog 1000 ⟨[21], tb35, [(50, Go.P3.codA), (16, Go.P3.numA)]⟩ 100 (.f e36.k) e36.avs e36.H e36.nx) e36.out = true := by kernel_rfl
set_option maxRecDepth 100000 in
theorem q40 : eqOut (acallT Tryd.prog 1000 ⟨[21], tb39, [(50, Go.P3.codA), (16, Go.P3.numA)]⟩ 100 (.f e40.k) e40.avs e40.H e40.nx) e40.out = true := by kernel_rfl
set_option maxRecDepth 100000 in
theorem q44 : eqOut (acallT Tryd.prog 1000 ⟨[21], tb43, [(50, Go.P3.codA), (16, Go.P3.numA)]⟩ 100 (.f e44.k) e44.avs e44.H e44.nx) e44.out = true := by kernel_rfl
set_option maxRecDepth 100000 in
theorem q48 : eqOut (acallT Tryd.prog 1000 ⟨[21], tb47, [(50, Go.P3.codA), (16, Go.P3.numA)]⟩ 100 (.f e48.k) e48.avs e48.H e48.nx) e48.out = true := by kernel_rfl
end Go.TickK
