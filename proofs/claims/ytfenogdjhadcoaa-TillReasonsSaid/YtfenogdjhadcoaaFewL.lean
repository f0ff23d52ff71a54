/- Payments: the payment is the best one. No conditions. -/
import Derived.Test.YtfenogdjhadcoaaFewS
import Derived.Test.YtfenogdjhadcoaaPaysP
set_option linter.unusedVariables false
set_option linter.unusedSimpArgs false
set_option linter.constructorNameAsVariable false
namespace Go.P8
open Go.Lom Go.Proofs Go


/-! lists -/
theorem goodAt_iff {cs l hv : List Int} {i : Nat} : goodAt cs l hv i = true ↔ i < cs.length ∧ i < hv.length ∧ (0 ≤ l.getD i 0 ∧ l.getD i 0 ≤ hv.getD i 0) ∧ (1 ≤ cs.getD i 0 ∧ cs.getD i 0 ≤ 50000) ∧ l.getD i 0 ≤ 100 := by
  unfold goodAt
  simp only [Bool.and_eq_true, decide_eq_true_eq, and_assoc]
end Go.P8
