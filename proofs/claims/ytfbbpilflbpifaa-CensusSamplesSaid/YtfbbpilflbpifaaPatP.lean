/- Patrols: the code keeps its contracts. No conditions. -/
import Derived.Test.YtfbbpilflbpifaaPatS
set_option linter.constructorNameAsVariable false
set_option linter.unusedVariables false
set_option linter.unusedSimpArgs false
set_option maxRecDepth 100000
set_option maxHeartbeats 4000000
namespace Go.P10
open Go.Lom Go.Proofs Go

/-! what a risk needs -/
/-! the least risk -/
/-! the risk of weights -/
theorem inW_iff {n : Int} : inW n = true ↔ 0 ≤ n ∧ n ≤ 64 := decide_eq_true_iff
end Go.P10
