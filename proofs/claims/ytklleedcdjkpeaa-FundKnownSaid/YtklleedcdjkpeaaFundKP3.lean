/- Calls, evaluated (printed by memo.py). No conditions. -/
import Derived.Test.YtklleedcdjkpeaaFundKE
set_option linter.unusedSimpArgs false
set_option linter.constructorNameAsVariable false
set_option linter.unusedVariables false
namespace Go.FundK
open Go.Lom Go.Proofs Go
set_option maxRecDepth 100000 in
theorem q3 : eqOut (acallT Try.prog 1000 ⟨[19], tb2⟩ 100 (.f e3.k) e3.avs e3.H e3.nx) e3.out = true := by kernel_rfl
set_option maxRecDepth 100000 in
theorem q11 : eqOut (acallT Try.prog 1000 ⟨[19], tb10⟩ 100 (.f e11.k) e11.avs e11.H e11.nx) e11.out = true := by kernel_rfl
set_option maxRecDepth 100000 in
theorem q19 : eqOut (acallT Try.prog 1000 ⟨[19], tb18⟩ 100 (.f e19.k) e19.avs e19.H e19.nx) e19.out = true := by kernel_rfl
set_option maxRecDepth 100000 in
theorem q27 : eqOut (acallT Try.prog 1000 ⟨[19], tb26⟩ 100 (.f e27.k) e27.avs e27.H e27.nx) e27.out = true := by kernel_rfl
end Go.FundK
