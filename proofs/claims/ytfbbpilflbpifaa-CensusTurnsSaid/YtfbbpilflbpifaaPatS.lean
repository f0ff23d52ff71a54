/- Patrols: states and what is to be shown, reduced. No conditions. -/
import Derived.Test.YtfbbpilflbpifaaWorkP
set_option linter.unusedSimpArgs false
set_option linter.unusedVariables false
set_option linter.constructorNameAsVariable false
set_option maxRecDepth 100000
set_option maxHeartbeats 2000000
namespace Go.P10
open Go.Lom Go.Proofs Go
def okW (l : List Int) : Prop := (1 ≤ l.length ∧ l.length ≤ 6) ∧ ∀ n ∈ l, 1 ≤ n ∧ n ≤ 10000
instance (l : List Int) : Decidable (okW l) := by unfold okW; infer_instance
end Go.P10
