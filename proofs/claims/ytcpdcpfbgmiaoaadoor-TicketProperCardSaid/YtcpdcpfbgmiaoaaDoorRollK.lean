/- TicketHalves: the code keeps its contract. No conditions. -/
import Derived.Test.YtcpdcpfbgmiaoaaDoorRollJ
import Derived.Test.YtcpdcpfbgmiaoaaDoorRollG
import Derived.Test.YtcpdcpfbgmiaoaaDoorRollQ
import Derived.Test.YtcpdcpfbgmiaoaaDoorRollM
set_option linter.all false
set_option maxRecDepth 100000
set_option maxHeartbeats 4000000
namespace Go.P3
open Go.Lom Go.Proofs Go
theorem fits_E {t : Tk} {h : List Int} (he : inB 0 t.2.2.2.1 = true) : fitsE t h = (fitE t.2.2.2.1 h).2 := by
 unfold fitsE fitE
 rw [he, Bool.true_and]
 cases h1 : inB (-1) h with
 | false => rw [if_pos rfl, if_neg (by decide)]
 | true =>
  rw [if_neg (by decide), if_pos rfl]
  cases h2 : (fitI t.2.2.2.1 h).2 with
  | false => rw [if_pos rfl, if_neg (by decide)]
  | true => rw [if_neg (by decide), if_pos rfl]
theorem getC_mem {α : Type} {l : List α} {d : α} {i : Nat} (h : i < l.length) : l.getD i d ∈ l := by
 rw [List.getD_eq_getElem?_getD, List.getElem?_eq_getElem h]; exact List.getElem_mem _
end Go.P3
