/- Funds: small functions: states and what is to be shown, reduced. No conditions. -/
import Derived.Test.YtfbpaonmegmcgaaGreatLibD
import Derived.KernelRfl
import Derived.Test.YtfbpaonmegmcgaaGreatProg
set_option linter.all false
set_option maxRecDepth 100000
set_option maxHeartbeats 2000000
namespace Go.P9
open Go.Lom Go.Proofs Go
abbrev I : Ty := .i .i64
abbrev L : Ty := .sl I
abbrev E : Ty := .i .i64
abbrev big : Nat := 9223372036854775807
abbrev LQ := AX -> St -> Prop
abbrev Sp : Ty := .pr I I
abbrev LSp : Ty := .sl Sp
abbrev G3 : Ty := .pr I (.pr I I)
abbrev LG : Ty := .sl G3
abbrev TF : Ty := .pr I (.pr LSp (.pr L (.pr L (.pr LSp (.pr LG (.pr LG (.pr I I)))))))
abbrev Fd : Type := Int × List (Int × Int) × List Int × List Int × List (Int × Int) × List (Int × Int × Int) × List (Int × Int × Int) × Int × Int
abbrev TR : Ty := .pr L (.sl L)
abbrev Rn : Type := List Int × List (List Int)
@[reducible] def S : List (Nat × SV) -> SV
 | [] => .nil
 | p :: l => .cons (.slot p.1 p.2) (S l)
def ex1 (s : SV) : Ex2 := fun _ => some (s, 0)
def mL {α : Type} (l : List α) (i : Int) : Nat := (l.length - i).toNat
def sFrom (a n b : Int) (K : Bool -> Prop) : Prop := K (decide (a <= n /\ n <= b))
abbrev fcWith : FC := ⟨[.v I, .v I, .v I], [.b], fun x K => sFrom x.2.1 x.1 x.2.2.1 fun r => K (r, ())⟩
theorem v71F (n a b : Int) (K : dens [.b] -> Prop) : (xfn1 Tryz.prog {} 5 31 fcWith (n, a, b, ()) K) =
 (fork (decide (n >= a)) (K (decide (n <= b), ())) (K (false, ()))) := by kernel_rfl
def spanB (s : Int × Int) (h : Int) : Bool := decide (0 <= s.1 /\ s.1 <= s.2 /\ s.2 <= h)
abbrev fcSpan : FC := ⟨[.v Sp, .v I], [.b], fun x K => K (spanB x.1 x.2.1, ())⟩
theorem v78F (s : Int × Int) (h : Int) (K : dens [.b] -> Prop) : (xfn1 Tryz.prog {} 5 35 fcSpan (s, h, ()) K) =
 (fork (decide (s.1 >= (0 : Int))) (fork (decide (s.1 <= s.2)) (K (decide (s.2 <= h), ())) (K (false, ()))) (K (false, ()))) := by kernel_rfl
abbrev fcClone : FC := ⟨[.v L], [L], fun x K => x.1.length <= 1000000 /\ K (x.1, ())⟩
theorem v67F (l : List Int) (K : dens [L] -> Prop) : (xfn1 Tryz.prog {} 5 77 fcClone (l, ()) K) =
 (∀ (b : Bool), (b = true -> l.length = 0) -> fork b (K ([], ())) (req (fitsN (0 + l.length) 8) (req (decide (0 + (0 + l.length) <= List.length (seg 0 0 [] ++ l))) (K (seg 0 (0 + l.length) (seg 0 0 [] ++ l), ()))))) := by kernel_rfl
def fitS : Int -> List Int -> Prop
 | n, [] => inR .i64 n = true
 | n, x :: l => inR .i64 n = true /\ fitS (n + x) l
abbrev shSum : SV := S [(0, .v L), (3, .v I), (4, .v I)]
def sSumL (l : List Int) (n i : Int) (Q : LQ) : Prop := (0 <= i /\ i <= l.length /\ l.length <= 9223372036854775807 /\ fitS n (l.drop i.toNat)) /\ Q (.exit 0) (stS 0 (S [(3, .v I)]) (n + (l.drop i.toNat).sum, ()))
abbrev lcSum : LC2 := ⟨0, shSum, 0, fun x Q => sSumL x.1 x.2.1 x.2.2.1 Q⟩
def sSum (l : List Int) (K : Int -> Prop) : Prop := (l.length <= 9223372036854775807 /\ fitS 0 l) /\ K l.sum
abbrev fcSum : FC := ⟨[.v L], [I], fun x K => sSum x.1 fun r => K (r, ())⟩
theorem v27L (l : List Int) (n i : Int) (Q : AX -> St -> Prop) : (xloop2 Tryz.prog {} 5 9 0 lcSum (ex1 (S [(3, .v I)])) (fun x => mL x.1 x.2.2.1) (l, n, i, ()) Q) =
 (fork (decide (i < (↑(l.length) : Int))) (req (decide ((0 : Int) <= i /\ i < (↑(l.length) : Int))) (req (inR IntKind.i64 (n + List.getD l (Int.toNat i) (0 : Int))) (req (inR IntKind.i64 (i + 1)) (mL l (i + 1) < mL l i /\
 LC2.spec lcSum (l, n + List.getD l (Int.toNat i) (0 : Int), i + 1, ()) Q)))) (Q (AX.exit 0) (stS 0 (S [(3, SV.v I)]) (n, ())))) := by kernel_rfl
theorem v27F (l : List Int) (K : dens [I] -> Prop) : (xfn1 Tryz.prog { l2 := [(9, 0, lcSum)] } 5 9 fcSum (l, ()) K) =
 (((0 : Int) <= (0 : Int) /\ (0 : Int) <= (↑(l.length) : Int) /\ l.length <= 9223372036854775807 /\ fitS (0 : Int) (List.drop 0 l)) /\ K ((0 : Int) + List.sum (List.drop 0 l), ())) := by kernel_rfl
abbrev shTot : SV := S [(3, .v I), (6, .v L), (7, .v I), (8, .v I)]
def sTotL (n : Int) (l : List Int) (m i : Int) (Q : LQ) : Prop := (0 <= i /\ i <= l.length /\ m = l.length /\ l.length <= 9223372036854775807 /\ fitS n (l.drop i.toNat)) /\ Q (.exit 0) (stS 0 (S [(3, .v I)]) (n + (l.drop i.toNat).sum, ()))
abbrev lcTot : LC2 := ⟨0, shTot, 0, fun x Q => sTotL x.1 x.2.1 x.2.2.1 x.2.2.2.1 Q⟩
theorem v74L (n : Int) (l : List Int) (m i : Int) (Q : AX -> St -> Prop) : (xloop2 Tryz.prog {} 5 32 0 lcTot (ex1 (S [(3, .v I)])) (fun x => mL x.2.1 x.2.2.2.1) (n, l, m, i, ()) Q) =
 (fork (decide (i < m)) (req (decide ((0 : Int) <= i /\ i < (↑(l.length) : Int))) (req (inR IntKind.i64 (n + List.getD l (Int.toNat i) (0 : Int))) (req (inR IntKind.i64 (i + 1)) (mL l (i + 1) < mL l i /\ LC2.spec lcTot (n +
 List.getD l (Int.toNat i) (0 : Int), l, m, i + 1, ()) Q)))) (Q (AX.exit 0) (stS 0 (S [(3, SV.v I)]) (n, ())))) := by kernel_rfl
theorem v74F (l : List Int) (K : dens [I] -> Prop) : (xfn1 Tryz.prog { l2 := [(32, 0, lcTot)] } 5 32 fcSum (l, ()) K) =
 (((0 : Int) <= (0 : Int) /\ (0 : Int) <= (↑(l.length) : Int) /\ (↑(l.length) : Int) = (↑(l.length) : Int) /\ l.length <= 9223372036854775807 /\ fitS (0 : Int) (List.drop 0 l)) /\ K ((0 : Int) + List.sum (List.drop 0 l), ())) := by kernel_rfl
end Go.P9
