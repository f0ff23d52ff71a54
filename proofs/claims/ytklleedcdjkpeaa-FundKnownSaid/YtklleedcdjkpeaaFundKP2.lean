/- Calls, evaluated (printed by memo.py). No conditions. -/
import Derived.Test.YtklleedcdjkpeaaFundKE
set_option linter.unusedSimpArgs false
set_option linter.constructorNameAsVariable false
set_option linter.unusedVariables false
namespace Go.FundK
open Go.Lom Go.Proofs Go
set_option maxRecDepth 100000 in
theorem q2 : eqOut (acallT Try.prog 1000 ⟨[19], tb1⟩ 100 (.f e2.k) e2.avs e2.H e2.nx) e2.out = true := by kernel_rfl
set_option maxRecDepth 100000 in
theorem q10 : eqOut (acallT Try.prog 1000 ⟨[19], tb9⟩ 100 (.f e10.k) e10.avs e10.H e10.nx) e10.out = true := by kernel_rfl
set_option maxRecDepth 100000 in
theorem q18 : eqOut (acallT Try.prog 1000 ⟨[19], tb17⟩ 100 (.f e18.k) e18.avs e18.H e18.nx) e18.out = true := by kernel_rfl
set_option maxRecDepth 100000 in
theorem q26 : eqOut (acallT Try.prog 1000 ⟨[19], tb25⟩ 100 (.f e26.k) e26.avs e26.H e26.nx) e26.out = true := by kernel_rfl
end Go.FundK
