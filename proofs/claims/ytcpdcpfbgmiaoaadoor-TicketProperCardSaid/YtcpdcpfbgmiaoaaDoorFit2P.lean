/- Tickets: the best half of both, and the laws of halves. No conditions. -/
import Derived.Test.YtcpdcpfbgmiaoaaDoorFit2S
import Derived.Test.YtcpdcpfbgmiaoaaDoorFitP
set_option linter.all false
set_option maxRecDepth 100000
namespace Go.P3
open Go.Lom Go.Proofs Go
def Inv (F : Int -> Int) (i : Int) (x : Tri) : Prop :=
 (x = (0, 0, 0) /\ ∀ k, 0 <= k -> k < i -> F k = -1) \/
 (4 <= x.1 /\ 0 <= x.2.1 /\ x.2.1 < i /\ F x.2.1 = x.1 /\ 1 <= x.2.2 /\ (∀ k, 0 <= k -> k < i -> F k <= x.1) /\ (x.2.2 = 1 -> ∀ k, 0 <= k -> k < i -> k ≠ x.2.1 -> F k < x.1) /\ (x.2.2 ≠ 1 -> ∃ k, 0 <= k /\ k < i /\ k ≠ x.2.1 /\ F k = x.1))
end Go.P3
