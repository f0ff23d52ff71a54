import Derived.Test.YtfbpaonmegmcgaaGreatTaNeedsS
import Derived.Test.YtfbpaonmegmcgaaGreatLibE
import Derived.KernelRfl
import Derived.Test.YtfbpaonmegmcgaaGreatProg
set_option linter.all false
/- Funds: an example of the worst run: states and what is to be shown, reduced. No conditions. -/
set_option maxRecDepth 100000
set_option maxHeartbeats 2000000
namespace Go.P9
open Go.Lom Go.Proofs Go
def byRow (row : List Int) (day t : Int) : Int := ((row.take (day + 1).toNat).drop t.toNat).sum
def byI (out : List (List Int)) (day i : Int) : Int := ((out.drop i.toNat).map fun row => byRow row day 0).sum
end Go.P9

/- Shares: what the functions answer, the states of their loops, and what is to be shown of them, reduced. No conditions. -/
set_option maxRecDepth 100000
namespace Go.P7
open Go.Lom Go.Proofs Go
abbrev I : Ty := .i .i64
abbrev L : Ty := .sl I
abbrev E : Ty := .i .i64
def one (s : Shape) : AX -> Option Shape := fun _ => some s
def fitS : Int -> List Int -> Prop
 | n, [] => inR .i64 n = true
 | n, x :: l => inR .i64 n = true /\ fitS (n + x) l
abbrev shSum : Shape := [(0, .v L), (3, .v I), (4, .v I)]
abbrev LQ := AX -> St -> Prop
def sSumL (l : List Int) (n i : Int) (Q : LQ) : Prop := (0 <= i /\ i <= l.length /\ l.length <= 9223372036854775807 /\ fitS n (l.drop i.toNat)) /\ Q (.exit 0) (shSt shSum (l, n + (l.drop i.toNat).sum, l.length, ()))
abbrev lcSum : LC := ⟨shSum, fun x Q => sSumL x.1 x.2.1 x.2.2.1 Q⟩
def sSum (l : List Int) (K : Int -> Prop) : Prop := (l.length <= 9223372036854775807 /\ fitS 0 l) /\ K l.sum
abbrev fcSum : FC := ⟨[.v L], [I], fun x K => sSum x.1 fun r => K (r, ())⟩
theorem vSumL (l : List Int) (n i : Int) (Q : AX -> St -> Prop) : (xloop Tryz.prog [] [] 5 9 0 lcSum (one shSum) (fun x => (x.1.length - x.2.2.1).toNat) (l, n, i, ()) Q) =
 (fork (decide (i < (↑(l.length) : Int))) (req (decide ((0 : Int) <= i /\ i < (↑(l.length) : Int))) (req (inR IntKind.i64 (n + List.getD l (Int.toNat i) (0 : Int))) (req (inR IntKind.i64 (i + 1)) (Int.toNat ((↑(l.length) :
 Sh.den (Sh.v I)) - (i + 1)) < Int.toNat ((↑(l.length) : Sh.den (Sh.v I)) - i) /\ ((0 : Int) <= i + 1 /\ i + 1 <= (↑(l.length) : Int) /\ l.length <= 9223372036854775807 /\ fitS (n + List.getD l (Int.toNat i) (0 : Int)) (List.drop
 (Int.toNat (i + 1)) l)) /\ Q (AX.exit 0) (shSt shSum (l, n + List.getD l (Int.toNat i) (0 : Int) + List.sum (List.drop (Int.toNat (i + 1)) l), (↑(l.length) : Sh.den (Sh.v I)), ())))))) (Q (AX.exit 0) (shSt shSum (l, n, i,
 ())))) := by kernel_rfl
theorem vSumF (l : List Int) (K : dens [I] -> Prop) : (xfn Tryz.prog [] [(9, 0, lcSum)] 5 9 fcSum (l, ()) K) =
 (((0 : Int) <= (0 : Int) /\ (0 : Int) <= (↑(l.length) : Int) /\ l.length <= 9223372036854775807 /\ fitS (0 : Int) (List.drop 0 l)) /\ K ((0 : Int) + List.sum (List.drop 0 l), ())) := by kernel_rfl
abbrev shSum2 : Shape := [(3, .v I), (6, .v L), (7, .v I), (8, .v I)]
def sSum2L (n : Int) (l : List Int) (m i : Int) (Q : LQ) : Prop := (0 <= i /\ i <= l.length /\ m = l.length /\ l.length <= 9223372036854775807 /\ fitS n (l.drop i.toNat)) /\ Q (.exit 0) (shSt shSum2 (n + (l.drop i.toNat).sum, l, l.length, l.length, ()))
abbrev lcSum2 : LC := ⟨shSum2, fun x Q => sSum2L x.1 x.2.1 x.2.2.1 x.2.2.2.1 Q⟩
theorem vSum2L (l : List Int) (n m i : Int) (Q : AX -> St -> Prop) : (xloop Tryz.prog [] [] 5 25 0 lcSum2 (one shSum2) (fun x => (x.2.1.length - x.2.2.2.1).toNat) (n, l, m, i, ()) Q) =
 (fork (decide (i < m)) (req (decide ((0 : Int) <= i /\ i < (↑(l.length) : Int))) (req (inR IntKind.i64 (n + List.getD l (Int.toNat i) (0 : Int))) (req (inR IntKind.i64 (i + 1)) (Int.toNat ((↑(l.length) : Sh.den (Sh.v I)) -
 (i + 1)) < Int.toNat ((↑(l.length) : Sh.den (Sh.v I)) - i) /\ ((0 : Int) <= i + 1 /\ i + 1 <= (↑(l.length) : Int) /\ m = (↑(l.length) : Int) /\ l.length <= 9223372036854775807 /\ fitS (n + List.getD l (Int.toNat i) (0 : Int))
 (List.drop (Int.toNat (i + 1)) l)) /\ Q (AX.exit 0) (shSt shSum2 (n + List.getD l (Int.toNat i) (0 : Int) + List.sum (List.drop (Int.toNat (i + 1)) l), l, (↑(l.length) : Sh.den (Sh.v I)), (↑(l.length) : Sh.den (Sh.v I)),
 ())))))) (Q (AX.exit 0) (shSt shSum2 (n, l, m, i, ())))) := by kernel_rfl
theorem vSum2F (l : List Int) (K : dens [I] -> Prop) : (xfn Tryz.prog [] [(25, 0, lcSum2)] 5 25 fcSum (l, ()) K) =
 (((0 : Int) <= (0 : Int) /\ (0 : Int) <= (↑(l.length) : Int) /\ (↑(l.length) : Int) = (↑(l.length) : Int) /\ l.length <= 9223372036854775807 /\ fitS (0 : Int) (List.drop 0 l)) /\ K ((0 : Int) + List.sum (List.drop 0 l), ())) := by kernel_rfl
end Go.P7
