/- Calls, evaluated (printed by memo.py). No conditions. -/
import Derived.Test.YtklleedcdjkpeaaFundKE
set_option linter.unusedSimpArgs false
set_option linter.constructorNameAsVariable false
set_option linter.unusedVariables false
namespace Go.FundK
open Go.Lom Go.Proofs Go
set_option maxRecDepth 100000 in
theorem q8 : eqOut (acallT Try.prog 1000 ⟨[19], tb7⟩ 100 (.f e8.k) e8.avs e8.H e8.nx) e8.out = true := by kernel_rfl
set_option maxRecDepth 100000 in
theorem q16 : eqOut (acallT Try.prog 1000 ⟨[19], tb15⟩ 100 (.f e16.k) e16.avs e16.H e16.nx) e16.out = true := by kernel_rfl
set_option maxRecDepth 100000 in
theorem q24 : eqOut (acallT Try.prog 1000 ⟨[19], tb23⟩ 100 (.f e24.k) e24.avs e24.H e24.nx) e24.out = true := by kernel_rfl
end Go.FundK
