/- Shares: what the functions answer, the states of their loops, and what is to be shown of them, reduced. No conditions. -/
import Derived.Test.YtnjaebjhfilljaaLibC
import Derived.KernelRfl
import Derived.Test.YtnjaebjhfilljaaProg
set_option linter.unusedSimpArgs false
set_option linter.constructorNameAsVariable false
set_option maxRecDepth 100000
set_option linter.unusedVariables false
namespace Go.P7
open Go.Lom Go.Proofs Go

abbrev I : Ty := .i .i64
abbrev L : Ty := .sl I
abbrev E : Ty := .i .i64
def one (s : Shape) : AX → Option Shape := fun _ => some s

/-! sums -/
def fitS : Int → List Int → Prop
  | n, [] => inR .i64 n = true
  | n, x :: l => inR .i64 n = true ∧ fitS (n + x) l
abbrev shSum : Shape := [(0, .v L), (3, .v I), (4, .v I)]
abbrev LQ := AX → St → Prop
def sSumL (l : List Int) (n i : Int) (Q : LQ) : Prop := (0 ≤ i ∧ i ≤ l.length ∧ l.length ≤ 9223372036854775807 ∧ fitS n (l.drop i.toNat)) ∧ Q (.exit 0) (shSt shSum (l, n + (l.drop i.toNat).sum, l.length, ()))
abbrev lcSum : LC := ⟨shSum, fun x Q => sSumL x.1 x.2.1 x.2.2.1 Q⟩
def sSum (l : List Int) (K : Int → Prop) : Prop := (l.length ≤ 9223372036854775807 ∧ fitS 0 l) ∧ K l.sum
abbrev fcSum : FC := ⟨[.v L], [I], fun x K => sSum x.1 fun r => K (r, ())⟩
theorem vSumL (l : List Int) (n i : Int) (Q : AX → St → Prop) : (xloop Try.prog [] [] 5 23 0 lcSum (one shSum) (fun x => (x.1.length - x.2.2.1).toNat) (l, n, i, ()) Q) =
  (fork (decide (i < (↑(l.length) : Int))) (req (decide ((0 : Int) ≤ i ∧ i < (↑(l.length) : Int))) (req (inR IntKind.i64 (n + List.getD l (Int.toNat i) (0 : Int))) (req (inR IntKind.i64 (i + 1)) (Int.toNat ((↑(l.length) :
 Sh.den (Sh.v Go.P7.I)) - (i + 1)) < Int.toNat ((↑(l.length) : Sh.den (Sh.v Go.P7.I)) - i) ∧ ((0 : Int) ≤ i + 1 ∧ i + 1 ≤ (↑(l.length) : Int) ∧ l.length ≤ 9223372036854775807 ∧ Go.P7.fitS (n + List.getD l (Int.toNat i) (0
 : Int)) (List.drop (Int.toNat (i + 1)) l)) ∧ Q (AX.exit 0) (shSt Go.P7.shSum (l, n + List.getD l (Int.toNat i) (0 : Int) + List.sum (List.drop (Int.toNat (i + 1)) l), (↑(l.length) : Sh.den (Sh.v Go.P7.I)), ())))))) (Q
 (AX.exit 0) (shSt Go.P7.shSum (l, n, i, ())))) := by kernel_rfl
theorem vSumF (l : List Int) (K : dens [I] → Prop) : (xfn Try.prog [] [(23, 0, lcSum)] 5 23 fcSum (l, ()) K) =
  (((0 : Int) ≤ (0 : Int) ∧ (0 : Int) ≤ (↑(l.length) : Int) ∧ l.length ≤ 9223372036854775807 ∧ Go.P7.fitS (0 : Int) (List.drop 0 l)) ∧ K ((0 : Int) + List.sum (List.drop 0 l), ())) := by kernel_rfl
abbrev shSum2 : Shape := [(3, .v I), (6, .v L), (7, .v I), (8, .v I)]
def sSum2L (n : Int) (l : List Int) (m i : Int) (Q : LQ) : Prop := (0 ≤ i ∧ i ≤ l.length ∧ m = l.length ∧ l.length ≤ 9223372036854775807 ∧ fitS n (l.drop i.toNat)) ∧ Q (.exit 0) (shSt shSum2 (n + (l.drop i.toNat).sum, l, l.length, l.length, ()))
abbrev lcSum2 : LC := ⟨shSum2, fun x Q => sSum2L x.1 x.2.1 x.2.2.1 x.2.2.2.1 Q⟩
theorem vSum2L (l : List Int) (n m i : Int) (Q : AX → St → Prop) : (xloop Try.prog [] [] 5 80 0 lcSum2 (one shSum2) (fun x => (x.2.1.length - x.2.2.2.1).toNat) (n, l, m, i, ()) Q) =
  (fork (decide (i < m)) (req (decide ((0 : Int) ≤ i ∧ i < (↑(l.length) : Int))) (req (inR IntKind.i64 (n + List.getD l (Int.toNat i) (0 : Int))) (req (inR IntKind.i64 (i + 1)) (Int.toNat ((↑(l.length) : Sh.den (Sh.v
 Go.P7.I)) - (i + 1)) < Int.toNat ((↑(l.length) : Sh.den (Sh.v Go.P7.I)) - i) ∧ ((0 : Int) ≤ i + 1 ∧ i + 1 ≤ (↑(l.length) : Int) ∧ m = (↑(l.length) : Int) ∧ l.length ≤ 9223372036854775807 ∧ Go.P7.fitS (n + List.getD l
 (Int.toNat i) (0 : Int)) (List.drop (Int.toNat (i + 1)) l)) ∧ Q (AX.exit 0) (shSt Go.P7.shSum2 (n + List.getD l (Int.toNat i) (0 : Int) + List.sum (List.drop (Int.toNat (i + 1)) l), l, (↑(l.length) : Sh.den (Sh.v
 Go.P7.I)), (↑(l.length) : Sh.den (Sh.v Go.P7.I)), ())))))) (Q (AX.exit 0) (shSt Go.P7.shSum2 (n, l, m, i, ())))) := by kernel_rfl
theorem vSum2F (l : List Int) (K : dens [I] → Prop) : (xfn Try.prog [] [(80, 0, lcSum2)] 5 80 fcSum (l, ()) K) =
  (((0 : Int) ≤ (0 : Int) ∧ (0 : Int) ≤ (↑(l.length) : Int) ∧ (↑(l.length) : Int) = (↑(l.length) : Int) ∧ l.length ≤ 9223372036854775807 ∧ Go.P7.fitS (0 : Int) (List.drop 0 l)) ∧ K ((0 : Int) + List.sum (List.drop 0 l),
 ())) := by kernel_rfl

/-! two lists the same -/
abbrev shSame : Shape := [(0, .v L), (1, .v L), (5, .v .b), (6, .v I)]
abbrev shSameE : Shape := [(5, .v .b)]
def sSameL (a b : List Int) (ok : Bool) (i : Int) (Q : LQ) : Prop := (0 ≤ i ∧ a.length ≤ 9223372036854775807 ∧ (ok = true → a.length = b.length ∧ i ≤ a.length)) ∧ Q (.exit 0) (shSt shSameE (ok && decide (a.drop i.toNat = b.drop i.toNat), ()))
abbrev lcSame : LC := ⟨shSame, fun x Q => sSameL x.1 x.2.1 x.2.2.1 x.2.2.2.1 Q⟩
def sSame (a b : List Int) (K : Bool → Prop) : Prop := (a.length ≤ 9223372036854775807) ∧ K (decide (a = b))
abbrev fcSame : FC := ⟨[.v L, .v L], [.b], fun x K => sSame x.1 x.2.1 fun r => K (r, ())⟩
theorem vSameL (a b : List Int) (ok : Bool) (i : Int) (Q : AX → St → Prop) : (xloop Try.prog [] [] 5 16 0 lcSame (one shSameE) (fun x => (x.1.length + 1 - x.2.2.2.1).toNat) (a, b, ok, i, ()) Q) =
  (fork ok (fork (decide (i < (↑(a.length) : Int))) (req (decide ((0 : Int) ≤ i ∧ i < (↑(a.length) : Int))) (req (decide ((0 : Int) ≤ i ∧ i < (↑(b.length) : Int))) (req (inR IntKind.i64 (i + 1)) (Int.toNat ((↑(a.length) :
 Sh.den (Sh.v Go.P7.I)) + (1 : Sh.den (Sh.v Go.P7.I)) - (i + 1)) < Int.toNat ((↑(a.length) : Sh.den (Sh.v Go.P7.I)) + (1 : Sh.den (Sh.v Go.P7.I)) - i) ∧ ((0 : Int) ≤ i + 1 ∧ a.length ≤ 9223372036854775807 ∧ ((List.getD a
 (Int.toNat i) (0 : Int) == List.getD b (Int.toNat i) (0 : Int)) = true → a.length = b.length ∧ i + 1 ≤ (↑(a.length) : Int))) ∧ Q (AX.exit 0) (shSt Go.P7.shSameE (List.getD a (Int.toNat i) (0 : Int) == List.getD b
 (Int.toNat i) (0 : Int) && decide (List.drop (Int.toNat (i + 1)) a = List.drop (Int.toNat (i + 1)) b), ())))))) (Q (AX.exit 0) (shSt Go.P7.shSameE (ok, ())))) (Q (AX.exit 0) (shSt Go.P7.shSameE (ok, ())))) := by kernel_rfl
theorem vSameF (a b : List Int) (K : dens [.b] → Prop) : (xfn Try.prog [] [(16, 0, lcSame)] 5 16 fcSame (a, b, ()) K) =
  (((0 : Int) ≤ (0 : Int) ∧ a.length ≤ 9223372036854775807 ∧ (((↑(a.length) : Int) == (↑(b.length) : Int)) = true → a.length = b.length ∧ (0 : Int) ≤ (↑(a.length) : Int))) ∧ K ((↑(a.length) : Int) == (↑(b.length) : Int) &&
 decide (List.drop 0 a = List.drop 0 b), ())) := by kernel_rfl
end Go.P7
