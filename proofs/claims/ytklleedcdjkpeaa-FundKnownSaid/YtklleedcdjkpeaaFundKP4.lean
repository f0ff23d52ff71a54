/- Calls, evaluated (printed by memo.py). No conditions. -/
import Derived.Test.YtklleedcdjkpeaaFundKE
set_option linter.unusedSimpArgs false
set_option linter.constructorNameAsVariable false
set_option linter.unusedVariables false
namespace Go.FundK
open Go.Lom Go.Proofs Go
set_option maxRecDepth 100000 in
theorem q4 : eqOut (acallT Try.prog 1000 ⟨[19], tb3⟩ 100 (.f e4.k) e4.avs e4.H e4.nx) e4.out = true := by kernel_rfl
set_option maxRecDepth 100000 in
theorem q12 : eqOut (acallT Try.prog 1000 ⟨[19], tb11⟩ 100 (.f e12.k) e12.avs e12.H e12.nx) e12.out = true := by kernel_rfl
set_option maxRecDepth 100000 in
theorem q20 : eqOut (acallT Try.prog 1000 ⟨[19], tb19⟩ 100 (.f e20.k) e20.avs e20.H e20.nx) e20.out = true := by kernel_rfl
set_option maxRecDepth 100000 in
theorem q28 : eqOut (acallT Try.prog 1000 ⟨[19], tb27⟩ 100 (.f e28.k) e28.avs e28.H e28.nx) e28.out = true := by kernel_rfl
end Go.FundK
