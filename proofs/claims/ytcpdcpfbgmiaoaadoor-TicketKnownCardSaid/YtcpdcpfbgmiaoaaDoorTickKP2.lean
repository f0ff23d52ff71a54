/- Calls, evaluated (printed by memo.py). No conditions. -/
import Derived.Test.YtcpdcpfbgmiaoaaDoorTickKE
set_option linter.unusedSimpArgs false
set_option linter.constructorNameAsVariable false
set_option linter.unusedVariables false
namespace Go.TickK
open Go.Lom Go.Proofs Go
set_option maxRecDepth 100000 in
theorem q2 : eqOut (acallT Tryd.prog 1000 ⟨[21], tb1, [(50, Go.P3.codA), (16, Go.P3.numA)]⟩ 100 (.f e2.k) e2.avs e2.H e2.nx) e2.out = true := by kernel_rfl
set_option maxRecDepth 100000 in
theorem q6 : eqOut (acallT Tryd.prog 1000 ⟨[21], tb5, [(50, Go.P3.codA), (16, Go.P3.numA)]⟩ 100 (.f e6.k) e6.avs e6.H e6.nx) e6.out = true := by kernel_rfl
set_option maxRecDepth 100000 in
theorem q10 : eqOut (acallT Tryd.prog 1000 ⟨[21], tb9, [(50, Go.P3.codA), (16, Go.P3.numA)]⟩ 100 (.f e10.k) e10.avs e10.H e10.nx) e10.out = true := by kernel_rfl
set_option maxRecDepth 100000 in
theorem q14 : eqOut (acallT Tryd.prog 1000 ⟨[21], tb13, [(50, Go.P3.codA), (16, Go.P3.numA)]⟩ 100 (.f e14.k) e14.avs e14.H e14.nx) e14.out = true := by kernel_rfl
set_option maxRecDepth 100000 in
theorem q18 : eqOut (acallT Tryd.prog 1000 ⟨[21], tb17, [(50, Go.P3.codA), (16, Go.P3.numA)]⟩ 100 (.f e18.k) e18.avs e18.H e18.nx) e18.out = true := by kernel_rfl
set_option maxRecDepth 100000 in
theorem q22 : eqOut (acallT Tryd.prog 1000 ⟨[21], tb21, [(50, Go.P3.codA), (16, Go.P3.numA)]⟩ 100 (.f e22.k) e22.avs e22.H e22.nx) e22.out = true := by kernel_rfl
set_option maxRecDepth 100000 in
theorem q26 : eqOut (acallT Tryd.prog 1000 ⟨[21], tb25, [(50, Go.P3.codA), (16, Go.P3.numA)]⟩ 100 (.f e26.k) e26.avs e26.H e26.nx) e26.out = true := by kernel_rfl
set_option maxRecDepth 100000 in
theorem q30 : eqOut (acallT Tryd.prog 1000 ⟨[21], tb29, [(50, Go.P3.codA), (16, Go.P3.numA)]⟩ 100 (.f e30.k) e30.avs e30.H e30.nx) e30.out = true := by kernel_rfl
set_option maxRecDepth 100000 in
theorem q34 : eqOut (acallT Tryd.prog 1000 ⟨[21], tb33, [(50, Go.P3.codA), (16, Go.P3.numA)]⟩ 100 (.f e34.k) e34.avs e34.H e34.nx) e34.out = true := by kernel_rfl
set_option maxRecDepth 100000 in
theorem q38 : eqOut (acallT Tryd.prog 1000 ⟨[21], tb37, [(50, Go.P3.codA), (16, Go.P3.numA)]⟩ 100 (.f e38.k) e38.avs e38.H e38.nx) e38.out = true := by kernel_rfl
set_option maxRecDepth 100000 in
theorem q42 : eqOut (acallT Tryd.prog 1000 ⟨[21], tb41, [(50, Go.P3.codA), (16, Go.P3.numA)]⟩ 100 (.f e42.k) e42.avs e42.H e42.nx) e42.out = true := by kernel_rfl
set_option maxRecDepth 100000 in
theorem q46 : eqOut (acallT Tryd.prog 1000 ⟨[21], tb45, [(50, Go.P3.codA), (16, Go.P3.numA)]⟩ 100 (.f e46.k) e46.avs e46.H e46.nx) e46.out = true := by kernel_rfl
end Go.TickK
