/- Calls, evaluated (printed by memo.py). No conditions. -/
import Derived.Test.YtklleedcdjkpeaaFundKE
set_option linter.unusedSimpArgs false
set_option linter.constructorNameAsVariable false
set_option linter.unusedVariables false
namespace Go.FundK
open Go.Lom Go.Proofs Go
set_option maxRecDepth 100000 in
theorem q6 : eqOut (acallT Try.prog 1000 ⟨[19], tb5⟩ 100 (.f e6.k) e6.avs e6.H e6.nx) e6.out = true := by kernel_rfl
set_option maxRecDepth 100000 in
theorem q14 : eqOut (acallT Try.prog 1000 ⟨[19], tb13⟩ 100 (.f e14.k) e14.avs e14.H e14.nx) e14.out = true := by kernel_rfl
set_option maxRecDepth 100000 in
theorem q22 : eqOut (acallT Try.prog 1000 ⟨[19], tb21⟩ 100 (.f e22.k) e22.avs e22.H e22.nx) e22.out = true := by kernel_rfl
set_option maxRecDepth 100000 in
theorem q30 : eqOut (acallT Try.prog 1000 ⟨[19], tb29⟩ 100 (.f e30.k) e30.avs e30.H e30.nx) e30.out = true := by kernel_rfl
end Go.FundK
