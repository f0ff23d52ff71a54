/- Funds: the laws of plans, capital, pay hold. No conditions. -/
import Derived.Test.YtklleedcdjkpeaaLeast2S
import Derived.Test.YtklleedcdjkpeaaFollowS
import Derived.Test.YtklleedcdjkpeaaNeedsS
import Derived.Test.YtklleedcdjkpeaaLawsL
import Derived.Test.YtklleedcdjkpeaaBearsL
set_option linter.constructorNameAsVariable false
set_option linter.unusedVariables false
set_option linter.unusedSimpArgs false
set_option maxRecDepth 100000
namespace Go.P9
open Go.Lom Go.Proofs Go


/-! the shop can pay -/
theorem mem_getD {α : Type} {l : List α} {i : Nat} (h : i < l.length) (d : α) : l.getD i d ∈ l := by simp [List.getD_eq_getElem?_getD, h]

/-! the capital -/
end Go.P9
