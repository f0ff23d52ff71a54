/- Calls, evaluated (printed by memo.py). No conditions. -/
import Derived.Test.YtklleedcdjkpeaaFundKE
set_option linter.unusedSimpArgs false
set_option linter.constructorNameAsVariable false
set_option linter.unusedVariables false
namespace Go.FundK
open Go.Lom Go.Proofs Go
set_option maxRecDepth 100000 in
theorem q7 : eqOut (acallT Try.prog 1000 ⟨[19], tb6⟩ 100 (.f e7.k) e7.avs e7.H e7.nx) e7.out = true := by kernel_rfl
set_option maxRecDepth 100000 in
theorem q15 : eqOut (acallT Try.prog 1000 ⟨[19], tb14⟩ 100 (.f e15.k) e15.avs e15.H e15.nx) e15.out = true := by kernel_rfl
set_option maxRecDepth 100000 in
theorem q23 : eqOut (acallT Try.prog 1000 ⟨[19], tb22⟩ 100 (.f e23.k) e23.avs e23.H e23.nx) e23.out = true := by kernel_rfl
set_option maxRecDepth 100000 in
theorem q31 : eqOut (acallT Try.prog 1000 ⟨[19], tb30⟩ 100 (.f e31.k) e31.avs e31.H e31.nx) e31.out = true := by kernel_rfl
end Go.FundK
