/- Calls, evaluated (printed by memo.py). No conditions. -/
import Derived.Test.YtklleedcdjkpeaaFundKE
set_option linter.unusedSimpArgs false
set_option linter.constructorNameAsVariable false
set_option linter.unusedVariables false
namespace Go.FundK
open Go.Lom Go.Proofs Go
set_option maxRecDepth 100000 in
theorem q5 : eqOut (acallT Try.prog 1000 ⟨[19], tb4⟩ 100 (.f e5.k) e5.avs e5.H e5.nx) e5.out = true := by kernel_rfl
set_option maxRecDepth 100000 in
theorem q13 : eqOut (acallT Try.prog 1000 ⟨[19], tb12⟩ 100 (.f e13.k) e13.avs e13.H e13.nx) e13.out = true := by kernel_rfl
set_option maxRecDepth 100000 in
theorem q21 : eqOut (acallT Try.prog 1000 ⟨[19], tb20⟩ 100 (.f e21.k) e21.avs e21.H e21.nx) e21.out = true := by kernel_rfl
set_option maxRecDepth 100000 in
theorem q29 : eqOut (acallT Try.prog 1000 ⟨[19], tb28⟩ 100 (.f e29.k) e29.avs e29.H e29.nx) e29.out = true := by kernel_rfl
end Go.FundK
