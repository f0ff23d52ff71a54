/- TillKnown: what the examples come to: plain. No conditions. -/
import Derived.Test.YtfenogdjhadcoaaScaS
import Derived.Test.YtfenogdjhadcoaaPayS
import Derived.Test.YtfenogdjhadcoaaDayS3
set_option linter.all false
set_option maxRecDepth 100000
set_option maxHeartbeats 2000000
namespace Go.P8
open Go.Lom Go.Proofs Go
def whenB (b : Bool) (P : Prop) : Prop := match b with
 | true => P
 | false => False
theorem whenB_iff {b : Bool} {P : Prop} : whenB b P ↔ b = true /\ P := by cases b <;> simp [whenB]
def fewB {α : Type} (l : List α) : Bool := Nat.ble l.length 100
abbrev fk12 : FC := ⟨[.v TDr, .v I], [L, E], fun x K => whenB (fewB x.1.1 && fewB x.1.2) (K ((payE x.1 x.2.1).1, (payE x.1 x.2.1).2, ()))⟩
abbrev fk17 : FC := ⟨[.v TDr, .v L, .v I], [L, E], fun x K => whenB (fewB x.1.1 && (fewB x.1.2 && fewB x.2.1)) (K ((changeE x.1 x.2.1 x.2.2.1).1, (changeE x.1 x.2.1 x.2.2.1).2, ()))⟩
abbrev fk37 : FC := ⟨[.v I], [LL, E], fun x K => K ((if 3 <= x.1 /\ x.1 <= 12 then (weighT x.1, (0 : Int)) else ([], 7)).1, (if 3 <= x.1 /\ x.1 <= 12 then (weighT x.1, (0 : Int)) else ([], 7)).2, ())⟩
abbrev fk22 : FC := ⟨[.v TDy], [LM, E], fun x K => whenB (fewB x.1.1 && (fewB x.1.2.1 && fewB x.1.2.2)) (K ((explE x.1).1, (explE x.1).2, ()))⟩
abbrev fk19 : FC := ⟨[], [.b], fun _ K => K (true, ())⟩
end Go.P8
