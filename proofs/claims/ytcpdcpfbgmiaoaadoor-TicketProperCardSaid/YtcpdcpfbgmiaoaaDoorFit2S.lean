/- Tickets: the best half by the reference, and the laws of halves: states and what is to be shown, reduced. No conditions. -/
import Derived.Test.YtcpdcpfbgmiaoaaDoorFitS
set_option linter.all false
set_option maxRecDepth 100000
set_option maxHeartbeats 2000000
namespace Go.P3
open Go.Lom Go.Proofs Go
abbrev fcWorks : FC := ⟨[], [.b], fun _ K => K (true, ())⟩
def stepC (e : List Int) (x : Int × Int) (h : List Int) : Int × Int :=
 if (fitE e h).2 = 0 then (if (fitE e h).1 > x.1 then ((fitE e h).1, 1) else if (fitE e h).1 = x.1 then (x.1, x.2 + 1) else x) else x
def runC (e : List Int) (hs : List (List Int)) : Nat -> Int -> Int × Int -> Int × Int
 | 0, _, x => x
 | k + 1, i, x => runC e hs k (i + 1) (stepC e x (hs.getD i.toNat []))
end Go.P3
