/- TicketHalves: the code keeps its contract. No conditions. -/
import Derived.Test.YtcpdcpfbgmiaoaaDoorRollJ
import Derived.Test.YtcpdcpfbgmiaoaaDoorRollH
import Derived.Test.YtcpdcpfbgmiaoaaDoorRollM
set_option linter.constructorNameAsVariable false
set_option linter.unusedVariables false
set_option linter.unusedSimpArgs false
set_option maxRecDepth 100000
set_option maxHeartbeats 4000000
namespace Go.P3
open Go.Lom Go.Proofs Go

abbrev C0 : Cl := (0, 0, [], [], [], [], [])
theorem getC_mem {α : Type} {l : List α} {d : α} {i : Nat} (h : i < l.length) : l.getD i d ∈ l := by
  rw [List.getD_eq_getElem?_getD, List.getElem?_eq_getElem h]; exact List.getElem_mem _
theorem new_ok {wt : Int} (h : 0 ≤ wt ∧ wt ≤ 1000) : okR (wt, 0, [], []) := ⟨h, ⟨Int.le_refl 0, (by decide : (0 : Int) ≤ 36500)⟩, (by decide : 0 ≤ 256), fun i t ht => by simp at ht⟩
end Go.P3
