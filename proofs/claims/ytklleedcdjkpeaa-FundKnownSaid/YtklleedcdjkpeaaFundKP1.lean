/- Calls, evaluated (printed by memo.py). No conditions. -/
import Derived.Test.YtklleedcdjkpeaaFundKE
set_option linter.unusedSimpArgs false
set_option linter.constructorNameAsVariable false
set_option linter.unusedVariables false
namespace Go.FundK
open Go.Lom Go.Proofs Go
set_option maxRecDepth 100000 in
theorem q1 : eqOut (acallT Try.prog 1000 ⟨[19], tb0⟩ 100 (.f e1.k) e1.avs e1.H e1.nx) e1.out = true := by kernel_rfl
set_option maxRecDepth 100000 in
theorem q9 : eqOut (acallT Try.prog 1000 ⟨[19], tb8⟩ 100 (.f e9.k) e9.avs e9.H e9.nx) e9.out = true := by kernel_rfl
set_option maxRecDepth 100000 in
theorem q17 : eqOut (acallT Try.prog 1000 ⟨[19], tb16⟩ 100 (.f e17.k) e17.avs e17.H e17.nx) e17.out = true := by kernel_rfl
set_option maxRecDepth 100000 in
theorem q25 : eqOut (acallT Try.prog 1000 ⟨[19], tb24⟩ 100 (.f e25.k) e25.avs e25.H e25.nx) e25.out = true := by kernel_rfl
end Go.FundK
