/- Funds: what is valid: states and what is to be shown, reduced. No conditions. -/
import Derived.Test.YtfbpaonmegmcgaaGreatTaBaseS
set_option linter.all false
set_option maxRecDepth 100000
set_option maxHeartbeats 2000000
namespace Go.P9
open Go.Lom Go.Proofs Go
abbrev fCash (f : Fd) : Int := f.1
abbrev fIn (f : Fd) : List (Int × Int) := f.2.1
abbrev fBonds (f : Fd) : List Int := f.2.2.1
abbrev fSell (f : Fd) : List Int := f.2.2.2.1
abbrev fPrices (f : Fd) : List (Int × Int) := f.2.2.2.2.1
abbrev fGroups (f : Fd) : List (Int × Int × Int) := f.2.2.2.2.2.1
abbrev fWays (f : Fd) : List (Int × Int × Int) := f.2.2.2.2.2.2.1
abbrev fBegin (f : Fd) : Int := f.2.2.2.2.2.2.2.1
abbrev fBars (f : Fd) : Int := f.2.2.2.2.2.2.2.2
def dayOk (f : Fd) (j : Nat) : Bool := spanB ((fIn f).getD j (0, 0)) 1073741824 && (decide (0 <= (fBonds f).getD j 0 /\ (fBonds f).getD j 0 <= 1073741824) && (decide (0 <= (fSell f).getD j 0 /\ (fSell f).getD j 0 <= 64) && spanB ((fPrices f).getD j (0, 0)) 1048576))
def grpOk (g : Int × Int × Int) : Bool := decide (0 <= g.1 /\ g.1 <= 1073741824) && (decide (0 <= g.2.1 /\ g.2.1 <= 1073741824) && decide (0 <= g.2.2 /\ g.2.2 <= 12))
def wayOk (n : Nat) (w : Int × Int × Int) : Bool := decide (0 <= w.1 /\ w.1 <= (n : Int) - 1) && (decide (0 <= w.2.1 /\ w.2.1 <= (n : Int) - 1) && (decide (w.1 ≠ w.2.1) && decide (0 <= w.2.2 /\ w.2.2 <= 12)))
def okA (f : Fd) : Bool := decide (1 <= (fIn f).length /\ (fIn f).length <= 12 /\ (fBonds f).length = (fIn f).length /\ (fSell f).length = (fIn f).length /\ (fPrices f).length = (fIn f).length /\ 0 <= fCash f /\ fCash f <= 1099511627776)
def okB (f : Fd) : Bool := decide ((fGroups f).length <= 8 /\ (fWays f).length <= 24 /\ 0 <= fBegin f /\ fBegin f <= (fGroups f).length /\ 0 <= fBars f /\ fBars f <= 64)
def daysOk (f : Fd) (i : Int) : Bool := ((List.range (fIn f).length).drop i.toNat).all (dayOk f)
def okF (f : Fd) : Bool := okA f && (daysOk f 0 && (okB f && ((fGroups f).all grpOk && (fWays f).all (wayOk (fGroups f).length))))
def bigF (f : Fd) : Prop := (fIn f).length <= 9223372036854775807 /\ (fBonds f).length <= 9223372036854775807 /\ (fSell f).length <= 9223372036854775807 /\ (fPrices f).length <= 9223372036854775807 /\ (fGroups f).length <= 9223372036854775807 /\ (fWays f).length <= 9223372036854775807
abbrev bF : SV := .box 0 (.v TF)
abbrev shR2 : SV := S [(2, .v .b)]
abbrev sh64a : SV := S [(1, bF), (45, .v I), (46, .v I)]
def ex64a : Ex2
 | .ret => some (shR2, 0)
 | _ => some (S [(1, bF)], 1)
def s64a (f : Fd) (n i : Int) (Q : LQ) : Prop := (0 <= i /\ i <= n /\ n = (fIn f).length /\ okA f = true) /\ (daysOk f i = true -> Q (.exit 0) (stS 1 (S [(1, bF)]) (f, ()))) /\ (daysOk f i = false -> Q .ret (stS 0 shR2 (false, ())))
abbrev lc64a : LC2 := ⟨0, sh64a, 1, fun x Q => s64a x.1 x.2.1 x.2.2.1 Q⟩
theorem v64a (f : Fd) (n i : Int) (Q : AX -> St -> Prop) : (xloop2 Tryz.prog { f := [(31, fcWith), (35, fcSpan)] } 5 21 0 lc64a ex64a (fun x => (x.2.1 - x.2.2.1).toNat) (f, n, i, ()) Q) =
 (fork (decide (i < n)) (req (decide ((0 : Int) <= i /\ i < (↑(List.length (f.2.1)) : Int))) (fork (!spanB (List.getD (f.2.1) (Int.toNat i) ((0 : Int), (0 : Int))) (1073741824 : Int)) (Q AX.ret (stS 0 shR2 (false, ()))) (req
 (decide ((0 : Int) <= i /\ i < (↑(List.length (f.2.2.1)) : Int))) (fork (!decide ((0 : Int) <= List.getD (f.2.2.1) (Int.toNat i) (0 : Int) /\ List.getD (f.2.2.1) (Int.toNat i) (0 : Int) <= (1073741824 : Int))) (Q AX.ret (stS 0
 shR2 (false, ()))) (req (decide ((0 : Int) <= i /\ i < (↑(List.length (f.2.2.2.1)) : Int))) (fork (!decide ((0 : Int) <= List.getD (f.2.2.2.1) (Int.toNat i) (0 : Int) /\ List.getD (f.2.2.2.1) (Int.toNat i) (0 : Int) <= (64 :
 Int))) (Q AX.ret (stS 0 shR2 (false, ()))) (req (decide ((0 : Int) <= i /\ i < (↑(List.length (f.2.2.2.2.1)) : Int))) (fork (!spanB (List.getD (f.2.2.2.2.1) (Int.toNat i) ((0 : Int), (0 : Int))) (1048576 : Int)) (Q AX.ret
 (stS 0 shR2 (false, ()))) (req (inR IntKind.i64 (i + 1)) (Int.toNat (n - (i + 1)) < Int.toNat (n - i) /\ LC2.spec lc64a (f, n, i + 1, ()) Q)))))))))) (Q (AX.exit 0) (stS 1 (S [(1, bF)]) (f, ())))) := by kernel_rfl
abbrev sh64b : SV := S [(1, bF), (120, .v LG), (121, .v I), (122, .v I)]
def ex64b : Ex2
 | .ret => some (shR2, 0)
 | _ => some (S [(1, bF)], 1)
def s64b (f : Fd) (l : List (Int × Int × Int)) (n i : Int) (Q : LQ) : Prop := (0 <= i /\ i <= n /\ n = l.length /\ l.length <= 8) /\ ((l.drop i.toNat).all grpOk = true -> Q (.exit 2) (stS 1 (S [(1, bF)]) (f, ()))) /\ ((l.drop i.toNat).all grpOk = false -> Q .ret (stS 0 shR2 (false, ())))
abbrev lc64b : LC2 := ⟨0, sh64b, 1, fun x Q => s64b x.1 x.2.1 x.2.2.1 x.2.2.2.1 Q⟩
theorem v64b (f : Fd) (l : List (Int × Int × Int)) (n i : Int) (Q : AX -> St -> Prop) : (xloop2 Tryz.prog { f := [(31, fcWith)] } 5 21 1 lc64b ex64b (fun x => mL x.2.1 x.2.2.2.1) (f, l, n, i, ()) Q) =
 (fork (decide (i < n)) (req (decide ((0 : Int) <= i /\ i < (↑(l.length) : Int))) (fork (!decide ((0 : Int) <= (List.getD l (Int.toNat i) ((0 : Int), (0 : Int), (0 : Int))).1 /\ (List.getD l (Int.toNat i) ((0 : Int), (0 :
 Int), (0 : Int))).1 <= (1073741824 : Int))) (Q AX.ret (stS 0 shR2 (false, ()))) (fork (!decide ((0 : Int) <= (List.getD l (Int.toNat i) ((0 : Int), (0 : Int), (0 : Int))).2.1 /\ (List.getD l (Int.toNat i) ((0 : Int), (0 :
 Int), (0 : Int))).2.1 <= (1073741824 : Int))) (Q AX.ret (stS 0 shR2 (false, ()))) (fork (!decide ((0 : Int) <= (List.getD l (Int.toNat i) ((0 : Int), (0 : Int), (0 : Int))).2.2 /\ (List.getD l (Int.toNat i) ((0 : Int), (0 :
 Int), (0 : Int))).2.2 <= (12 : Int))) (Q AX.ret (stS 0 shR2 (false, ()))) (req (inR IntKind.i64 (i + 1)) (mL l (i + 1) < mL l i /\ LC2.spec lc64b (f, l, n, i + 1, ()) Q)))))) (Q (AX.exit 2) (stS 1 (S [(1, bF)]) (f, ())))) := by kernel_rfl
abbrev fc80 : FC := ⟨[.v G3, .ref TF], [.b], fun x K => bigF x.2.1 /\ K (!wayOk (fGroups x.2.1).length x.1, ())⟩
theorem v80F (w : Int × Int × Int) (f : Fd) (K : dens [.b] -> Prop) : (xfn1 Tryz.prog { f := [(31, fcWith)] } 5 37 fc80 (w, f, ()) K) =
 (req (inR IntKind.i64 ((↑(List.length (f.2.2.2.2.2.1)) : Int) - 1)) (fork (!decide ((0 : Int) <= w.1 /\ w.1 <= (↑(List.length (f.2.2.2.2.2.1)) : Int) - 1)) (K (true, ())) (req (inR IntKind.i64 ((↑(List.length
 (f.2.2.2.2.2.1)) : Int) - 1)) (fork (!decide ((0 : Int) <= w.2.1 /\ w.2.1 <= (↑(List.length (f.2.2.2.2.2.1)) : Int) - 1)) (K (true, ())) (fork (w.1 == w.2.1) (K (true, ())) (K (!decide ((0 : Int) <= w.2.2 /\ w.2.2 <= (12 :
 Int)), ()))))))) := by kernel_rfl
def firstIx {α : Type} (p : α -> Bool) : List α -> Int -> Int
 | [], _ => -1
 | x :: l, i => if p x = true then i else firstIx p l (i + 1)
abbrev aC80 : AT := .clo 37 [] [(true, TF)]
abbrev sh85 : SV := S [(0, .v LG), (1, .a aC80), (7, .v I), (8, .v I)]
def ex85 : Ex2
 | .ret => some (S [(4, .v I)], 0)
 | _ => some (.nil, 0)
def badW (f : Fd) (w : Int × Int × Int) : Bool := !wayOk (fGroups f).length w
def s85 (l : List (Int × Int × Int)) (f : Fd) (m i : Int) (Q : LQ) : Prop := (0 <= i /\ i <= l.length /\ m = l.length /\ l.length <= 9223372036854775807 /\ bigF f) /\ ((l.drop i.toNat).any (badW f) = false -> Q (.exit 0) (stS 0 .nil ())) /\ ((l.drop i.toNat).any (badW f) = true -> Q .ret (stS 0 (S [(4, .v I)]) (firstIx (badW f) (l.drop i.toNat) i, ())))
abbrev lc85 : LC2 := ⟨0, sh85, 0, fun x Q => s85 x.1 x.2.1.2.1 x.2.2.1 x.2.2.2.1 Q⟩
theorem v85L (l : List (Int × Int × Int)) (f : Fd) (m i : Int) (Q : AX -> St -> Prop) : (xloop2 Tryz.prog { f := [(37, fc80)] } 5 52 0 lc85 ex85 (fun x => mL x.1 x.2.2.2.1) (l, ((), f, ()), m, i, ()) Q) =
 (fork (decide (i < m)) (req (decide ((0 : Int) <= i /\ i < (↑(l.length) : Int))) (bigF f /\ fork (!wayOk (List.length (fGroups f)) (List.getD l (Int.toNat i) ((0 : Int), (0 : Int), (0 : Int)))) (Q AX.ret (stS 0 (S [(4, SV.v
 I)]) (i, ()))) (req (inR IntKind.i64 (i + 1)) (mL l (i + 1) < mL l i /\ LC2.spec lc85 (l, ((), f, ()), m, i + 1, ()) Q)))) (Q (AX.exit 0) (stS 0 SV.nil ()))) := by kernel_rfl
abbrev fc85 : FC := ⟨[.v LG, aC80], [I], fun x K => (x.1.length <= 9223372036854775807 /\ bigF x.2.1.2.1) /\ K (firstIx (badW x.2.1.2.1) x.1 0, ())⟩
theorem v85F (l : List (Int × Int × Int)) (f : Fd) (K : dens [I] -> Prop) : (xfn1 Tryz.prog { l2 := [(52, 0, lc85)] } 5 52 fc85 (l, ((), f, ()), ()) K) =
 (((0 : Int) <= (0 : Int) /\ (0 : Int) <= (↑(l.length) : Int) /\ (↑(l.length) : Int) = (↑(l.length) : Int) /\ l.length <= 9223372036854775807 /\ bigF f) /\ (List.any (List.drop 0 l) (badW f) = false -> K ((-1 : Int), ())) /\
 (List.any (List.drop 0 l) (badW f) = true -> K (firstIx (badW f) (List.drop 0 l) (0 : Int), ()))) := by kernel_rfl
abbrev fcFits : FC := ⟨[.v TF], [.b], fun x K => bigF x.1 /\ K (okF x.1, ())⟩
theorem v64F (f : Fd) (K : dens [.b] -> Prop) : (xfn1 Tryz.prog { f := [(31, fcWith), (52, fc85)], l2 := [(21, 0, lc64a), (21, 1, lc64b)] } 5 21 fcFits (f, ()) K) =
 (fork (!decide ((1 : Int) <= (↑(List.length (f.2.1)) : Int) /\ (↑(List.length (f.2.1)) : Int) <= (12 : Int))) (K (false, ())) (fork ((↑(List.length (f.2.2.1)) : Int) != (↑(List.length (f.2.1)) : Int)) (K (false, ())) (fork
 ((↑(List.length (f.2.2.2.1)) : Int) != (↑(List.length (f.2.1)) : Int)) (K (false, ())) (fork ((↑(List.length (f.2.2.2.2.1)) : Int) != (↑(List.length (f.2.1)) : Int)) (K (false, ())) (fork (!decide ((0 : Int) <= f.1 /\ f.1 <=
 (1099511627776 : Int))) (K (false, ())) (((0 : Int) <= (0 : Int) /\ (0 : Int) <= (↑(List.length (f.2.1)) : Int) /\ (↑(List.length (f.2.1)) : Int) = (↑(List.length (fIn f)) : Int) /\ okA f = true) /\ (daysOk f (0 : Int) = true ->
 fork (decide ((↑(List.length (f.2.2.2.2.2.1)) : Int) > (8 : Int))) (K (false, ())) (fork (decide ((↑(List.length (f.2.2.2.2.2.2.1)) : Int) > (24 : Int))) (K (false, ())) (fork (!decide ((0 : Int) <= f.2.2.2.2.2.2.2.1 /\
 f.2.2.2.2.2.2.2.1 <= (↑(List.length (f.2.2.2.2.2.1)) : Int))) (K (false, ())) (fork (!decide ((0 : Int) <= f.2.2.2.2.2.2.2.2 /\ f.2.2.2.2.2.2.2.2 <= (64 : Int))) (K (false, ())) (((0 : Int) <= (0 : Int) /\ (0 : Int) <=
 (↑(List.length (f.2.2.2.2.2.1)) : Int) /\ (↑(List.length (f.2.2.2.2.2.1)) : Int) = (↑(List.length (f.2.2.2.2.2.1)) : Int) /\ List.length (f.2.2.2.2.2.1) <= 8) /\ (List.all (List.drop 0 (f.2.2.2.2.2.1)) grpOk = true ->
 (List.length (f.2.2.2.2.2.2.1) <= 9223372036854775807 /\ bigF f) /\ K (!decide (firstIx (badW f) (f.2.2.2.2.2.2.1) (0 : Int) >= (0 : Int)), ())) /\ (List.all (List.drop 0 (f.2.2.2.2.2.1)) grpOk = false -> K (false, ()))))))) /\
 (daysOk f (0 : Int) = false -> K (false, ())))))))) := by kernel_rfl
def chkE (f : Fd) : Int := if okF f = true then 0 else 90
abbrev fcCheck : FC := ⟨[.v TF], [E], fun x K => bigF x.1 /\ K (chkE x.1, ())⟩
theorem v29F (f : Fd) (K : dens [E] -> Prop) : (xfn1 Tryz.prog { f := [(21, fcFits)] } 5 10 fcCheck (f, ()) K) =
 (bigF f /\ fork (!okF f) (K ((90 : Int), ())) (K ((0 : Int), ()))) := by kernel_rfl
end Go.P9
