/- Calls, evaluated (printed by memo.py). No conditions. -/
import Derived.Test.YtcpdcpfbgmiaoaaDoorTickKE
set_option linter.unusedSimpArgs false
set_option linter.constructorNameAsVariable false
set_option linter.unusedVariables false
namespace Go.TickK
open Go.Lom Go.Proofs Go
set_option maxRecDepth 100000 in
theorem q3 : eqOut (acallT Tryd.prog 1000 ⟨[21], tb2, [(50, Go.P3.codA), (16, Go.P3.numA)]⟩ 100 (.f e3.k) e3.avs e3.H e3.nx) e3.out = true := by kernel_rfl
set_option maxRecDepth 100000 in
theorem q7 : eqOut (acallT Tryd.prog 1000 ⟨[21], tb6, [(50, Go.P3.codA), (16, Go.P3.numA)]⟩ 100 (.f e7.k) e7.avs e7.H e7.nx) e7.out = true := by kernel_rfl
set_option maxRecDepth 100000 in
theorem q11 : eqOut (acallT Tryd.prog 1000 ⟨[21], tb10, [(50, Go.P3.codA), (16, Go.P3.numA)]⟩ 100 (.f e11.k) e11.avs e11.H e11.nx) e11.out = true := by kernel_rfl
set_option maxRecDepth 100000 in
theorem q15 : eqOut (acallT Tryd.prog 1000 ⟨[21], tb14, [(50, Go.P3.codA), (16, Go.P3.numA)]⟩ 100 (.f e15.k) e15.avs e15.H e15.nx) e15.out = true := by kernel_rfl
set_option maxRecDepth 100000 in
theorem q19 : eqOut (acallT Tryd.prog 1000 ⟨[21], tb18, [(50, Go.P3.codA), (16, Go.P3.numA)]⟩ 100 (.f e19.k) e19.avs e19.H e19.nx) e19.out = true := by kernel_rfl
set_option maxRecDepth 100000 in
theorem q23 : eqOut (acallT Tryd.prog 1000 ⟨[21], tb22, [(50, Go.P3.codA), (16, Go.P3.numA)]⟩ 100 (.f e23.k) e23.avs e23.H e23.nx) e23.out = true := by kernel_rfl
set_option maxRecDepth 100000 in
theorem q27 : eqOut (acallT Tryd.prog 1000 ⟨[21], tb26, [(50, Go.P3.codA), (16, Go.P3.numA)]⟩ 100 (.f e27.k) e27.avs e27.H e27.nx) e27.out = true := by kernel_rfl
set_option maxRecDepth 100000 in
theorem q31 : eqOut (acallT Tryd.prog 1000 ⟨[21], tb30, [(50, Go.P3.codA), (16, Go.P3.numA)]⟩ 100 (.f e31.k) e31.avs e31.H e31.nx) e31.out = true := by kernel_rfl
set_option maxRecDepth 100000 in
theorem q35 : eqOut (acallT Tryd.prog 1000 ⟨[21], tb34, [(50, Go.P3.codA), (16, Go.P3.numA)]⟩ 100 (.f e35.k) e35.avs e35.H e35.nx) e35.out = true := by kernel_rfl
set_option maxRecDepth 100000 in
theorem q39 : eqOut (acallT Tryd.prog 1000 ⟨[21], tb38, [(50, Go.P3.codA), (16, Go.P3.numA)]⟩ 100 (.f e39.k) e39.avs e39.H e39.nx) e39.out = true := by kernel_rfl
set_option maxRecDepth 100000 in
theorem q43 : eqOut (acallT Tryd.prog 1000 ⟨[21], tb42, [(50, Go.P3.codA), (16, Go.P3.numA)]⟩ 100 (.f e43.k) e43.avs e43.H e43.nx) e43.out = true := by kernel_rfl
set_option maxRecDepth 100000 in
theorem q47 : eqOut (acallT Tryd.prog 1000 ⟨[21], tb46, [(50, Go.P3.codA), (16, Go.P3.numA)]⟩ 100 (.f e47.k) e47.avs e47.H e47.nx) e47.out = true := by kernel_rfl
end Go.TickK
