/- Calls, evaluated (printed by memo.py). No conditions. -/
import Derived.Test.YtcpdcpfbgmiaoaaDoorTickKE
set_option linter.unusedSimpArgs false
set_option linter.constructorNameAsVariable false
set_option linter.unusedVariables false
namespace Go.TickK
open Go.Lom Go.Proofs Go
set_option maxRecDepth 100000 in
theorem q1 : eqOut (acallT Tryd.prog 1000 ⟨[21], tb0, [(50, Go.P3.codA), (16, Go.P3.numA)]⟩ 100 (.f e1.k) e1.avs e1.H e1.nx) e1.out = true := by kernel_rfl
set_option maxRecDepth 100000 in
theorem q5 : eqOut (acallT Tryd.prog 1000 ⟨[21], tb4, [(50, Go.P3.codA), (16, Go.P3.numA)]⟩ 100 (.f e5.k) e5.avs e5.H e5.nx) e5.out = true := by kernel_rfl
set_option maxRecDepth 100000 in
theorem q9 : eqOut (acallT Tryd.prog 1000 ⟨[21], tb8, [(50, Go.P3.codA), (16, Go.P3.numA)]⟩ 100 (.f e9.k) e9.avs e9.H e9.nx) e9.out = true := by kernel_rfl
set_option maxRecDepth 100000 in
theorem q13 : eqOut (acallT Tryd.prog 1000 ⟨[21], tb12, [(50, Go.P3.codA), (16, Go.P3.numA)]⟩ 100 (.f e13.k) e13.avs e13.H e13.nx) e13.out = true := by kernel_rfl
set_option maxRecDepth 100000 in
theorem q17 : eqOut (acallT Tryd.prog 1000 ⟨[21], tb16, [(50, Go.P3.codA), (16, Go.P3.numA)]⟩ 100 (.f e17.k) e17.avs e17.H e17.nx) e17.out = true := by kernel_rfl
set_option maxRecDepth 100000 in
theorem q21 : eqOut (acallT Tryd.prog 1000 ⟨[21], tb20, [(50, Go.P3.codA), (16, Go.P3.numA)]⟩ 100 (.f e21.k) e21.avs e21.H e21.nx) e21.out = true := by kernel_rfl
set_option maxRecDepth 100000 in
theorem q25 : eqOut (acallT Tryd.prog 1000 ⟨[21], tb24, [(50, Go.P3.codA), (16, Go.P3.numA)]⟩ 100 (.f e25.k) e25.avs e25.H e25.nx) e25.out = true := by kernel_rfl
set_option maxRecDepth 100000 in
theorem q29 : eqOut (acallT Tryd.prog 1000 ⟨[21], tb28, [(50, Go.P3.codA), (16, Go.P3.numA)]⟩ 100 (.f e29.k) e29.avs e29.H e29.nx) e29.out = true := by kernel_rfl
set_option maxRecDepth 100000 in
theorem q33 : eqOut (acallT Tryd.prog 1000 ⟨[21], tb32, [(50, Go.P3.codA), (16, Go.P3.numA)]⟩ 100 (.f e33.k) e33.avs e33.H e33.nx) e33.out = true := by kernel_rfl
set_option maxRecDepth 100000 in
theorem q37 : eqOut (acallT Tryd.prog 1000 ⟨[21], tb36, [(50, Go.P3.codA), (16, Go.P3.numA)]⟩ 100 (.f e37.k) e37.avs e37.H e37.nx) e37.out = true := by kernel_rfl
set_option maxRecDepth 100000 in
theorem q41 : eqOut (acallT Tryd.prog 1000 ⟨[21], tb40, [(50, Go.P3.codA), (16, Go.P3.numA)]⟩ 100 (.f e41.k) e41.avs e41.H e41.nx) e41.out = true := by kernel_rfl
set_option maxRecDepth 100000 in
theorem q45 : eqOut (acallT Tryd.prog 1000 ⟨[21], tb44, [(50, Go.P3.codA), (16, Go.P3.numA)]⟩ 100 (.f e45.k) e45.avs e45.H e45.nx) e45.out = true := by kernel_rfl
set_option maxRecDepth 100000 in
theorem q49 : eqOut (acallT Tryd.prog 1000 ⟨[21], tb48, [(50, Go.P3.codA), (16, Go.P3.numA)]⟩ 100 (.f e49.k) e49.avs e49.H e49.nx) e49.out = true := by kernel_rfl
end Go.TickK
