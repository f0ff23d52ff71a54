/- Funds: what is valid: states and what is to be shown, reduced. No conditions. -/
import Derived.Test.YtklleedcdjkpeaaBaseS
set_option linter.unusedSimpArgs false
set_option linter.unusedVariables false
set_option linter.constructorNameAsVariable false
set_option maxRecDepth 100000
set_option maxHeartbeats 2000000
namespace Go.P9
open Go.Lom Go.Proofs Go

abbrev fCash (f : Fd) : Int := f.1
abbrev fIn (f : Fd) : List (Int × Int) := f.2.1
abbrev fBonds (f : Fd) : List Int := f.2.2.1
abbrev fSell (f : Fd) : List Int := f.2.2.2.1
abbrev fPrices (f : Fd) : List (Int × Int) := f.2.2.2.2.1
abbrev fGroups (f : Fd) : List (Int × Int × Int) := f.2.2.2.2.2.1
abbrev fWays (f : Fd) : List (Int × Int × Int) := f.2.2.2.2.2.2.1
abbrev fBegin (f : Fd) : Int := f.2.2.2.2.2.2.2.1
abbrev fBars (f : Fd) : Int := f.2.2.2.2.2.2.2.2
def dayOk (f : Fd) (j : Nat) : Bool := spanB ((fIn f).getD j (0, 0)) 1073741824 && (decide (0 ≤ (fBonds f).getD j 0 ∧ (fBonds f).getD j 0 ≤ 1073741824) && (decide (0 ≤ (fSell f).getD j 0 ∧ (fSell f).getD j 0 ≤ 64) && spanB ((fPrices f).getD j (0, 0)) 1048576))
def grpOk (g : Int × Int × Int) : Bool := decide (0 ≤ g.1 ∧ g.1 ≤ 1073741824) && (decide (0 ≤ g.2.1 ∧ g.2.1 ≤ 1073741824) && decide (0 ≤ g.2.2 ∧ g.2.2 ≤ 12))
def wayOk (n : Nat) (w : Int × Int × Int) : Bool := decide (0 ≤ w.1 ∧ w.1 ≤ (n : Int) - 1) && (decide (0 ≤ w.2.1 ∧ w.2.1 ≤ (n : Int) - 1) && (decide (w.1 ≠ w.2.1) && decide (0 ≤ w.2.2 ∧ w.2.2 ≤ 12)))
def okA (f : Fd) : Bool := decide (1 ≤ (fIn f).length ∧ (fIn f).length ≤ 12 ∧ (fBonds f).length = (fIn f).length ∧ (fSell f).length = (fIn f).length ∧ (fPrices f).length = (fIn f).length ∧ 0 ≤ fCash f ∧ fCash f ≤ 1099511627776)
def okB (f : Fd) : Bool := decide ((fGroups f).length ≤ 8 ∧ (fWays f).length ≤ 24 ∧ 0 ≤ fBegin f ∧ fBegin f ≤ (fGroups f).length ∧ 0 ≤ fBars f ∧ fBars f ≤ 64)
def daysOk (f : Fd) (i : Int) : Bool := ((List.range (fIn f).length).drop i.toNat).all (dayOk f)
def okF (f : Fd) : Bool := okA f && (daysOk f 0 && (okB f && ((fGroups f).all grpOk && (fWays f).all (wayOk (fGroups f).length))))
def bigF (f : Fd) : Prop := (fIn f).length ≤ 9223372036854775807 ∧ (fBonds f).length ≤ 9223372036854775807 ∧ (fSell f).length ≤ 9223372036854775807 ∧ (fPrices f).length ≤ 9223372036854775807 ∧ (fGroups f).length ≤ 9223372036854775807 ∧ (fWays f).length ≤ 9223372036854775807

abbrev bF : SV := .box 0 (.v TF)
abbrev shR2 : SV := S [(2, .v .b)]
/-! the program's -/
abbrev sh64a : SV := S [(1, bF), (45, .v I), (46, .v I)]
def ex64a : Ex2
  | .ret => some (shR2, 0)
  | _ => some (S [(1, bF)], 1)
def s64a (f : Fd) (n i : Int) (Q : LQ) : Prop := (0 ≤ i ∧ i ≤ n ∧ n = (fIn f).length ∧ okA f = true) ∧ (daysOk f i = true → Q (.exit 0) (stS 1 (S [(1, bF)]) (f, ()))) ∧ (daysOk f i = false → Q .ret (stS 0 shR2 (false, ())))
abbrev lc64a : LC2 := ⟨0, sh64a, 1, fun x Q => s64a x.1 x.2.1 x.2.2.1 Q⟩
theorem v64a (f : Fd) (n i : Int) (Q : AX → St → Prop) : (xloop2 Try.prog { f := [(71, fcWith), (78, fcSpan)] } 5 64 0 lc64a ex64a (fun x => (x.2.1 - x.2.2.1).toNat) (f, n, i, ()) Q) =
(fork (decide (i < n)) (req (decide ((0 : Int) ≤ i ∧ i < (↑(List.length (Prod.fst (Prod.snd f))) : Int))) (fork (!Go.P9.spanB (List.getD (Prod.fst (Prod.snd f)) (Int.toNat i) ((0 : Int), (0 : Int))) (1073741824 : Int))
 (Q AX.ret (stS (0 : Nat) Go.P9.shR2 (Bool.false, ()))) (req (decide ((0 : Int) ≤ i ∧ i < (↑(List.length (Prod.fst (Prod.snd (Prod.snd f)))) : Int))) (fork (!decide ((0 : Int) ≤ List.getD (Prod.fst (Prod.snd (Prod.snd
 f))) (Int.toNat i) (0 : Int) ∧ List.getD (Prod.fst (Prod.snd (Prod.snd f))) (Int.toNat i) (0 : Int) ≤ (1073741824 : Int))) (Q AX.ret (stS (0 : Nat) Go.P9.shR2 (Bool.false, ()))) (req (decide ((0 : Int) ≤ i ∧ i <
 (↑(List.length (Prod.fst (Prod.snd (Prod.snd (Prod.snd f))))) : Int))) (fork (!decide ((0 : Int) ≤ List.getD (Prod.fst (Prod.snd (Prod.snd (Prod.snd f)))) (Int.toNat i) (0 : Int) ∧ List.getD (Prod.fst (Prod.snd (Prod.snd
 (Prod.snd f)))) (Int.toNat i) (0 : Int) ≤ (64 : Int))) (Q AX.ret (stS (0 : Nat) Go.P9.shR2 (Bool.false, ()))) (req (decide ((0 : Int) ≤ i ∧ i < (↑(List.length (Prod.fst (Prod.snd (Prod.snd (Prod.snd (Prod.snd f)))))) :
 Int))) (fork (!Go.P9.spanB (List.getD (Prod.fst (Prod.snd (Prod.snd (Prod.snd (Prod.snd f))))) (Int.toNat i) ((0 : Int), (0 : Int))) (1048576 : Int)) (Q AX.ret (stS (0 : Nat) Go.P9.shR2 (Bool.false, ()))) (req (inR
 Go.IntKind.i64 (i + (1 : Int))) (Int.toNat (n - (i + (1 : Int))) < Int.toNat (n - i) ∧ LC2.spec Go.P9.lc64a (f, n, i + (1 : Int), ()) Q)))))))))) (Q (AX.exit (0 : Nat)) (stS (1 : Nat) (Go.P9.S [((1 : Nat), Go.P9.bF)])
 (f, ())))) := by kernel_rfl
abbrev sh64b : SV := S [(1, bF), (120, .v LG), (121, .v I), (122, .v I)]
def ex64b : Ex2
  | .ret => some (shR2, 0)
  | _ => some (S [(1, bF)], 1)
def s64b (f : Fd) (l : List (Int × Int × Int)) (n i : Int) (Q : LQ) : Prop := (0 ≤ i ∧ i ≤ n ∧ n = l.length ∧ l.length ≤ 8) ∧ ((l.drop i.toNat).all grpOk = true → Q (.exit 2) (stS 1 (S [(1, bF)]) (f, ()))) ∧ ((l.drop i.toNat).all grpOk = false → Q .ret (stS 0 shR2 (false, ())))
abbrev lc64b : LC2 := ⟨0, sh64b, 1, fun x Q => s64b x.1 x.2.1 x.2.2.1 x.2.2.2.1 Q⟩
theorem v64b (f : Fd) (l : List (Int × Int × Int)) (n i : Int) (Q : AX → St → Prop) : (xloop2 Try.prog { f := [(71, fcWith)] } 5 64 1 lc64b ex64b (fun x => mL x.2.1 x.2.2.2.1) (f, l, n, i, ()) Q) =
(fork (decide (i < n)) (req (decide ((0 : Int) ≤ i ∧ i < (↑(List.length l) : Int))) (fork (!decide ((0 : Int) ≤ Prod.fst (List.getD l (Int.toNat i) ((0 : Int), (0 : Int), (0 : Int))) ∧ Prod.fst (List.getD l (Int.toNat i)
 ((0 : Int), (0 : Int), (0 : Int))) ≤ (1073741824 : Int))) (Q AX.ret (stS (0 : Nat) Go.P9.shR2 (Bool.false, ()))) (fork (!decide ((0 : Int) ≤ Prod.fst (Prod.snd (List.getD l (Int.toNat i) ((0 : Int), (0 : Int), (0 :
 Int)))) ∧ Prod.fst (Prod.snd (List.getD l (Int.toNat i) ((0 : Int), (0 : Int), (0 : Int)))) ≤ (1073741824 : Int))) (Q AX.ret (stS (0 : Nat) Go.P9.shR2 (Bool.false, ()))) (fork (!decide ((0 : Int) ≤ Prod.snd (Prod.snd
 (List.getD l (Int.toNat i) ((0 : Int), (0 : Int), (0 : Int)))) ∧ Prod.snd (Prod.snd (List.getD l (Int.toNat i) ((0 : Int), (0 : Int), (0 : Int)))) ≤ (12 : Int))) (Q AX.ret (stS (0 : Nat) Go.P9.shR2 (Bool.false, ())))
 (req (inR Go.IntKind.i64 (i + (1 : Int))) (Go.P9.mL l (i + (1 : Int)) < Go.P9.mL l i ∧ LC2.spec Go.P9.lc64b (f, l, n, i + (1 : Int), ()) Q)))))) (Q (AX.exit (2 : Nat)) (stS (1 : Nat) (Go.P9.S [((1 : Nat), Go.P9.bF)]) (f,
 ())))) := by kernel_rfl
abbrev fc80 : FC := ⟨[.v G3, .ref TF], [.b], fun x K => bigF x.2.1 ∧ K (!wayOk (fGroups x.2.1).length x.1, ())⟩
theorem v80F (w : Int × Int × Int) (f : Fd) (K : dens [.b] → Prop) : (xfn1 Try.prog { f := [(71, fcWith)] } 5 80 fc80 (w, f, ()) K) =
(req (inR Go.IntKind.i64 ((↑(List.length (Prod.fst (Prod.snd (Prod.snd (Prod.snd (Prod.snd (Prod.snd f))))))) : Int) - (1 : Int))) (fork (!decide ((0 : Int) ≤ Prod.fst w ∧ Prod.fst w ≤ (↑(List.length (Prod.fst (Prod.snd
 (Prod.snd (Prod.snd (Prod.snd (Prod.snd f))))))) : Int) - (1 : Int))) (K (Bool.true, ())) (req (inR Go.IntKind.i64 ((↑(List.length (Prod.fst (Prod.snd (Prod.snd (Prod.snd (Prod.snd (Prod.snd f))))))) : Int) - (1 : Int)))
 (fork (!decide ((0 : Int) ≤ Prod.fst (Prod.snd w) ∧ Prod.fst (Prod.snd w) ≤ (↑(List.length (Prod.fst (Prod.snd (Prod.snd (Prod.snd (Prod.snd (Prod.snd f))))))) : Int) - (1 : Int))) (K (Bool.true, ())) (fork (Prod.fst w
 == Prod.fst (Prod.snd w)) (K (Bool.true, ())) (K (!decide ((0 : Int) ≤ Prod.snd (Prod.snd w) ∧ Prod.snd (Prod.snd w) ≤ (12 : Int)), ()))))))) := by kernel_rfl
def firstIx {α : Type} (p : α → Bool) : List α → Int → Int
  | [], _ => -1
  | x :: l, i => if p x = true then i else firstIx p l (i + 1)
abbrev aC80 : AT := .clo 80 [] [(true, TF)]
abbrev sh85 : SV := S [(0, .v LG), (1, .a aC80), (7, .v I), (8, .v I)]
def ex85 : Ex2
  | .ret => some (S [(4, .v I)], 0)
  | _ => some (.nil, 0)
def badW (f : Fd) (w : Int × Int × Int) : Bool := !wayOk (fGroups f).length w
def s85 (l : List (Int × Int × Int)) (f : Fd) (m i : Int) (Q : LQ) : Prop := (0 ≤ i ∧ i ≤ l.length ∧ m = l.length ∧ l.length ≤ 9223372036854775807 ∧ bigF f) ∧ ((l.drop i.toNat).any (badW f) = false → Q (.exit 0) (stS 0 .nil ())) ∧ ((l.drop i.toNat).any (badW f) = true → Q .ret (stS 0 (S [(4, .v I)]) (firstIx (badW f) (l.drop i.toNat) i, ())))
abbrev lc85 : LC2 := ⟨0, sh85, 0, fun x Q => s85 x.1 x.2.1.2.1 x.2.2.1 x.2.2.2.1 Q⟩
theorem v85L (l : List (Int × Int × Int)) (f : Fd) (m i : Int) (Q : AX → St → Prop) : (xloop2 Try.prog { f := [(80, fc80)] } 5 85 0 lc85 ex85 (fun x => mL x.1 x.2.2.2.1) (l, ((), f, ()), m, i, ()) Q) =
(fork (decide (i < m)) (req (decide ((0 : Int) ≤ i ∧ i < (↑(List.length l) : Int))) (Go.P9.bigF f ∧ fork (!Go.P9.wayOk (List.length (Go.P9.fGroups f)) (List.getD l (Int.toNat i) ((0 : Int), (0 : Int), (0 : Int)))) (Q
 AX.ret (stS (0 : Nat) (Go.P9.S [((4 : Nat), SV.v Go.P9.I)]) (i, ()))) (req (inR Go.IntKind.i64 (i + (1 : Int))) (Go.P9.mL l (i + (1 : Int)) < Go.P9.mL l i ∧ LC2.spec Go.P9.lc85 (l, ((), f, ()), m, i + (1 : Int), ())
 Q)))) (Q (AX.exit (0 : Nat)) (stS (0 : Nat) SV.nil ()))) := by kernel_rfl
abbrev fc85 : FC := ⟨[.v LG, aC80], [I], fun x K => (x.1.length ≤ 9223372036854775807 ∧ bigF x.2.1.2.1) ∧ K (firstIx (badW x.2.1.2.1) x.1 0, ())⟩
theorem v85F (l : List (Int × Int × Int)) (f : Fd) (K : dens [I] → Prop) : (xfn1 Try.prog { l2 := [(85, 0, lc85)] } 5 85 fc85 (l, ((), f, ()), ()) K) =
(((0 : Int) ≤ (0 : Int) ∧ (0 : Int) ≤ (↑(List.length l) : Int) ∧ (↑(List.length l) : Int) = (↑(List.length l) : Int) ∧ List.length l ≤ (9223372036854775807 : Nat) ∧ Go.P9.bigF f) ∧ (List.any (List.drop (0 : Nat) l)
 (Go.P9.badW f) = Bool.false → K ((-1 : Int), ())) ∧ (List.any (List.drop (0 : Nat) l) (Go.P9.badW f) = Bool.true → K (Go.P9.firstIx (Go.P9.badW f) (List.drop (0 : Nat) l) (0 : Int), ()))) := by kernel_rfl
abbrev fcFits : FC := ⟨[.v TF], [.b], fun x K => bigF x.1 ∧ K (okF x.1, ())⟩
theorem v64F (f : Fd) (K : dens [.b] → Prop) : (xfn1 Try.prog { f := [(71, fcWith), (85, fc85)], l2 := [(64, 0, lc64a), (64, 1, lc64b)] } 5 64 fcFits (f, ()) K) =
(fork (!decide ((1 : Int) ≤ (↑(List.length (Prod.fst (Prod.snd f))) : Int) ∧ (↑(List.length (Prod.fst (Prod.snd f))) : Int) ≤ (12 : Int))) (K (Bool.false, ())) (fork ((↑(List.length (Prod.fst (Prod.snd (Prod.snd f)))) :
 Int) != (↑(List.length (Prod.fst (Prod.snd f))) : Int)) (K (Bool.false, ())) (fork ((↑(List.length (Prod.fst (Prod.snd (Prod.snd (Prod.snd f))))) : Int) != (↑(List.length (Prod.fst (Prod.snd f))) : Int)) (K (Bool.false,
 ())) (fork ((↑(List.length (Prod.fst (Prod.snd (Prod.snd (Prod.snd (Prod.snd f)))))) : Int) != (↑(List.length (Prod.fst (Prod.snd f))) : Int)) (K (Bool.false, ())) (fork (!decide ((0 : Int) ≤ Prod.fst f ∧ Prod.fst f ≤
 (1099511627776 : Int))) (K (Bool.false, ())) (((0 : Int) ≤ (0 : Int) ∧ (0 : Int) ≤ (↑(List.length (Prod.fst (Prod.snd f))) : Int) ∧ (↑(List.length (Prod.fst (Prod.snd f))) : Int) = (↑(List.length (Go.P9.fIn f)) : Int) ∧
 Go.P9.okA f = Bool.true) ∧ (Go.P9.daysOk f (0 : Int) = Bool.true → fork (decide ((↑(List.length (Prod.fst (Prod.snd (Prod.snd (Prod.snd (Prod.snd (Prod.snd f))))))) : Int) > (8 : Int))) (K (Bool.false, ())) (fork (decide
 ((↑(List.length (Prod.fst (Prod.snd (Prod.snd (Prod.snd (Prod.snd (Prod.snd (Prod.snd f)))))))) : Int) > (24 : Int))) (K (Bool.false, ())) (fork (!decide ((0 : Int) ≤ Prod.fst (Prod.snd (Prod.snd (Prod.snd (Prod.snd
 (Prod.snd (Prod.snd (Prod.snd f))))))) ∧ Prod.fst (Prod.snd (Prod.snd (Prod.snd (Prod.snd (Prod.snd (Prod.snd (Prod.snd f))))))) ≤ (↑(List.length (Prod.fst (Prod.snd (Prod.snd (Prod.snd (Prod.snd (Prod.snd f))))))) :
 Int))) (K (Bool.false, ())) (fork (!decide ((0 : Int) ≤ Prod.snd (Prod.snd (Prod.snd (Prod.snd (Prod.snd (Prod.snd (Prod.snd (Prod.snd f))))))) ∧ Prod.snd (Prod.snd (Prod.snd (Prod.snd (Prod.snd (Prod.snd (Prod.snd
 (Prod.snd f))))))) ≤ (64 : Int))) (K (Bool.false, ())) (((0 : Int) ≤ (0 : Int) ∧ (0 : Int) ≤ (↑(List.length (Prod.fst (Prod.snd (Prod.snd (Prod.snd (Prod.snd (Prod.snd f))))))) : Int) ∧ (↑(List.length (Prod.fst (Prod.snd
 (Prod.snd (Prod.snd (Prod.snd (Prod.snd f))))))) : Int) = (↑(List.length (Prod.fst (Prod.snd (Prod.snd (Prod.snd (Prod.snd (Prod.snd f))))))) : Int) ∧ List.length (Prod.fst (Prod.snd (Prod.snd (Prod.snd (Prod.snd
 (Prod.snd f)))))) ≤ (8 : Nat)) ∧ (List.all (List.drop (0 : Nat) (Prod.fst (Prod.snd (Prod.snd (Prod.snd (Prod.snd (Prod.snd f))))))) Go.P9.grpOk = Bool.true → (List.length (Prod.fst (Prod.snd (Prod.snd (Prod.snd
 (Prod.snd (Prod.snd (Prod.snd f))))))) ≤ (9223372036854775807 : Nat) ∧ Go.P9.bigF f) ∧ K (!decide (Go.P9.firstIx (Go.P9.badW f) (Prod.fst (Prod.snd (Prod.snd (Prod.snd (Prod.snd (Prod.snd (Prod.snd f))))))) (0 : Int) ≥
 (0 : Int)), ())) ∧ (List.all (List.drop (0 : Nat) (Prod.fst (Prod.snd (Prod.snd (Prod.snd (Prod.snd (Prod.snd f))))))) Go.P9.grpOk = Bool.false → K (Bool.false, ()))))))) ∧ (Go.P9.daysOk f (0 : Int) = Bool.false → K
 (Bool.false, ())))))))) := by kernel_rfl
def chkE (f : Fd) : Int := if okF f = true then 0 else 90
abbrev fcCheck : FC := ⟨[.v TF], [E], fun x K => bigF x.1 ∧ K (chkE x.1, ())⟩
theorem v29F (f : Fd) (K : dens [E] → Prop) : (xfn1 Try.prog { f := [(64, fcFits)] } 5 29 fcCheck (f, ()) K) =
(Go.P9.bigF f ∧ fork (!Go.P9.okF f) (K ((90 : Int), ())) (K ((0 : Int), ()))) := by kernel_rfl
/-! the reference's -/
end Go.P9
