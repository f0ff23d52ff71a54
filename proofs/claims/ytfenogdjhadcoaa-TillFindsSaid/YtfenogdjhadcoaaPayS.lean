/- Payments: states and what is to be shown, reduced. No conditions. -/
import Derived.Test.YtfenogdjhadcoaaPayL
import Derived.Test.YtfenogdjhadcoaaLibD
import Derived.KernelRfl
import Derived.Test.YtfenogdjhadcoaaProg
set_option linter.all false
set_option maxRecDepth 100000
set_option maxHeartbeats 2000000
namespace Go.P8
open Go.Lom Go.Proofs Go
@[reducible] def S : List (Nat × SV) -> SV
 | [] => .nil
 | p :: l => .cons (.slot p.1 p.2) (S l)
@[reducible] def A : List SV -> SV
 | [] => .nil
 | p :: l => .cons p (A l)
abbrev I : Ty := .i .i64
abbrev E : Ty := .i .i64
abbrev L : Ty := .sl I
abbrev big : Nat := 9223372036854775807
def mL {α : Type} (l : List α) (i : Int) : Nat := (l.length - i).toNat
abbrev Dr : Type := List Int × List Int
abbrev fcFrom : FC := ⟨[.v I, .v I, .v I], [.b], fun x K => K (decide (x.1 <= x.2.1 /\ x.2.1 <= x.2.2.1), ())⟩
theorem v26F (a n b : Int) (K : dens [.b] -> Prop) : (xfn1 Try.prog {} 5 26 fcFrom (a, n, b, ()) K) =
 (fork (decide (a <= n)) (K (decide (n <= b), ())) (K (false, ()))) := by kernel_rfl
end Go.P8
