import Derived.Test.YtcpdcpfbgmiaoaaDoorCodeS
import Derived.Test.YtcpdcpfbgmiaoaaDoorRefA
set_option linter.all false
/- Tickets: the law of digits: states and what is to be shown, reduced. No conditions. -/
set_option maxRecDepth 100000
set_option maxHeartbeats 2000000
namespace Go.P3
open Go.Lom Go.Proofs Go
def ringI (n m : Int) : Int := (n.tmod m + m).tmod m
abbrev fcRing : FC := ⟨[.v I, .v I], [I], fun x K => (0 < x.2.1 /\ x.2.1 <= 99999999) /\ K (ringI x.1 x.2.1, ())⟩
theorem v26F (n m : Int) (K : dens [I] -> Prop) : (xfn1 Tryd.prog {} 5 26 fcRing (n, m, ()) K) =
 (fork (decide (m <= (0 : Int))) (K ((0 : Int), ())) (req (decide (m ≠ (0 : Int))) (req (inR IntKind.i64 (Int.tmod n m + m)) (req (decide (m ≠ (0 : Int))) (K (Int.tmod (Int.tmod n m + m) m, ())))))) := by kernel_rfl
abbrev fcRingN : FC := ⟨[.v I, .v I], [I], fun x K => (0 < x.2.1 /\ x.2.1 <= 99999999) /\ ∀ r : Int, 0 <= r -> r < x.2.1 -> K (r, ())⟩
abbrev fcCodeN : FC := ⟨[.v I], [.s, I], fun x K => (1 <= x.1 /\ x.1 <= 99999999) /\ ∀ s : List UInt8, s = codeS x.1 -> K (s, 0, ())⟩
end Go.P3

/- TicketOnce: states and what is to be shown, reduced. No conditions. -/
set_option maxRecDepth 100000
set_option maxHeartbeats 2000000
namespace Go.P3
open Go.Lom Go.Proofs Go
abbrev Pc : Type := Tx × Int
def pcs (ts : List Tk) : List Pc := ts.map fun t => (t.2.1, t.2.2.2.2.2)
def nameAt' (l : List Pc) (n : Int) : Tx := (l.getD (n - 1).toNat ([], 0)).1
def divB (l : List Pc) (p : Tx) : Bool := l.any fun t => decide (0 < t.2) && decide (t.2 <= l.length) && decide (nameAt' l t.2 = p) && !decide (t.1 = p)
def manyI (ts : List Tk) (p : Tx) : Nat := ts.countP fun t => named p t && liveB t
def wantI (ts : List Tk) (over : List Tx) (p : Tx) : Nat := if (divB (pcs ts) p || over.any (eqT p)) = true then 0 else 1
def sortedE (es : List Ev) : Prop := ∀ i : Nat, i + 1 < es.length -> (es.getD i E0).2.1 <= (es.getD (i + 1) E0).2.1
structure InvO (s : RS) (over : List Tx) : Prop where
 cnt : ∀ p, s.2.2.1.any (named p) = true -> manyI s.2.2.1 p = wantI s.2.2.1 over p
 ov : ∀ p ∈ over, s.2.2.1.any (named p) = true
 days : sortedE s.2.2.2 /\ ∀ e ∈ s.2.2.2, e.2.1 <= s.2.1
end Go.P3
