/- Drawers: Check, Pay and Change of the program: the code keeps its contracts. No conditions. -/
import Derived.Test.YtfenogdjhadcoaaPayP
set_option linter.constructorNameAsVariable false
set_option linter.unusedVariables false
set_option linter.unusedSimpArgs false
set_option maxRecDepth 100000
set_option maxHeartbeats 4000000
namespace Go.P8
open Go.Lom Go.Proofs Go

theorem range_step {i n : Nat} (h : i < n) : List.range' i (n - i) = i :: List.range' (i + 1) (n - (i + 1)) := by
  rw [show n - i = (n - (i + 1)) + 1 by omega, List.range'_succ]

/-! what a drawer that is checked is -/

/-! Change -/
theorem valueN_nil' : ∀ (l : List Int), valueN l [] = 0
  | [] => rfl
  | _ :: _ => rfl
end Go.P8
