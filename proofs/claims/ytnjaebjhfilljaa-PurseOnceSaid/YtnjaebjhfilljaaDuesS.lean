/- Dues: what is to be shown, reduced. No conditions. -/
import Derived.Test.YtnjaebjhfilljaaFairS
set_option linter.unusedSimpArgs false
set_option linter.unusedVariables false
set_option linter.constructorNameAsVariable false
set_option maxRecDepth 100000
namespace Go.P7
open Go.Lom Go.Proofs Go

abbrev D : Ty := .pr I I
abbrev LD : Ty := .sl D
def okD (d : Int × Int) : Bool := decide ((0 ≤ d.1 ∧ d.1 ≤ 9) ∧ 0 ≤ d.2 ∧ d.2 ≤ 67108864)
def validD (l : List (Int × Int)) : Bool := decide (l.length ≤ 24) && l.all okD
def firstNo (p : Int × Int → Bool) : List (Int × Int) → Int → Int
  | [], _ => -1
  | x :: l, i => if p x = true then firstNo p l (i + 1) else i
def mLenD (l : List (Int × Int)) (i : Int) : Nat := (l.length - i).toNat
abbrev sh95 : Shape := [(0, .v LD), (1, .a (.clo 84 [] [])), (7, .v I), (8, .v I)]
def ex95 : AX → Option Shape
  | .ret => some shR4
  | _ => some []
def s95L (l : List (Int × Int)) (m i : Int) (Q : LQ) : Prop := (0 ≤ i ∧ i ≤ l.length ∧ m = l.length ∧ l.length ≤ big) ∧ ((l.drop i.toNat).all okD = true → Q (.exit 0) (shSt [] ())) ∧ ((l.drop i.toNat).all okD = false → Q .ret (shSt shR4 (firstNo okD (l.drop i.toNat) i, ())))
abbrev lc95 : LC := ⟨sh95, fun x Q => s95L x.1 x.2.2.1 x.2.2.2.1 Q⟩
def s95 (l : List (Int × Int)) (K : Int → Prop) : Prop := l.length ≤ big ∧ K (firstNo okD l 0)
abbrev fc95 : FC := ⟨[.v LD, .clo 84 [] []], [I], fun x K => s95 x.1 fun r => K (r, ())⟩
theorem v95L (l : List (Int × Int)) (m i : Int) (Q : AX → St → Prop) : (xloop Try.prog [] [] 5 95 0 lc95 ex95 (fun x => mLenD x.1 x.2.2.2.1) (l, ((), ()), m, i, ()) Q) =
  (fork (decide (i < m)) (req (decide ((0 : Int) ≤ i ∧ i < (↑(l.length) : Int))) (fork (decide ((List.getD l (Int.toNat i) ((0 : Int), (0 : Int))).1 ≥ (0 : Int))) (fork (!decide ((List.getD l (Int.toNat i) ((0 : Int), (0 :
 Int))).1 ≤ (9 : Int))) (Q AX.ret (shSt Go.P7.shR4 (i, ()))) (fork (decide ((List.getD l (Int.toNat i) ((0 : Int), (0 : Int))).2 ≥ (0 : Int))) (fork (!decide ((List.getD l (Int.toNat i) ((0 : Int), (0 : Int))).2 ≤
 (67108864 : Int))) (Q AX.ret (shSt Go.P7.shR4 (i, ()))) (req (inR IntKind.i64 (i + 1)) (Go.P7.mLenD l (i + 1) < Go.P7.mLenD l i ∧ LC.spec Go.P7.lc95 (l, ((), ()), m, i + 1, ()) Q))) (Q AX.ret (shSt Go.P7.shR4 (i, ())))))
 (Q AX.ret (shSt Go.P7.shR4 (i, ()))))) (Q (AX.exit 0) (shSt [] ()))) := by kernel_rfl
theorem v95F (l : List (Int × Int)) (K : dens [I] → Prop) : (xfn Try.prog [] [(95, 0, lc95)] 5 95 fc95 (l, ((), ()), ()) K) =
  (((0 : Int) ≤ (0 : Int) ∧ (0 : Int) ≤ (↑(l.length) : Int) ∧ (↑(l.length) : Int) = (↑(l.length) : Int) ∧ l.length ≤ 9223372036854775807) ∧ (List.all (List.drop 0 l) Go.P7.okD = true → K ((-1 : Int), ())) ∧ (List.all
 (List.drop 0 l) Go.P7.okD = false → K (Go.P7.firstNo Go.P7.okD (List.drop 0 l) (0 : Int), ()))) := by kernel_rfl
def sDues (l : List (Int × Int)) (K : Bool → Prop) : Prop := l.length ≤ big ∧ K (validD l)
abbrev fcDues : FC := ⟨[.v LD], [.b], fun x K => sDues x.1 fun r => K (r, ())⟩
theorem v52F (l : List (Int × Int)) (K : dens [.b] → Prop) : (xfn Try.prog [(95, fc95)] [] 5 52 fcDues (l, ()) K) =
  (fork (decide ((↑(l.length) : Int) ≤ (24 : Int))) (l.length ≤ 9223372036854775807 ∧ K (!decide (Go.P7.firstNo Go.P7.okD l (0 : Int) ≥ (0 : Int)), ())) (K (false, ()))) := by kernel_rfl
abbrev sh54 : Shape := [(0, .v LD), (3, .v I)]
abbrev sh54E : Shape := [(0, .v LD)]
def ex54 : AX → Option Shape
  | .ret => some sh50R
  | _ => some sh54E
def s54L (l : List (Int × Int)) (i : Int) (Q : LQ) : Prop := (0 ≤ i ∧ i ≤ l.length ∧ l.length ≤ big) ∧ ((l.drop i.toNat).all okD = true → Q (.exit 0) (shSt sh54E (l, ()))) ∧ ((l.drop i.toNat).all okD = false → Q .ret (shSt sh50R (false, ())))
abbrev lc54 : LC := ⟨sh54, fun x Q => s54L x.1 x.2.1 Q⟩
theorem v54L (l : List (Int × Int)) (i : Int) (Q : AX → St → Prop) : (xloop Try.prog [(24, fcFrom)] [] 5 54 0 lc54 ex54 (fun x => mLenD x.1 x.2.1) (l, i, ()) Q) =
  (fork (decide (i < (↑(l.length) : Int))) (req (decide ((0 : Int) ≤ i ∧ i < (↑(l.length) : Int))) (fork (!decide ((0 : Int) ≤ (List.getD l (Int.toNat i) ((0 : Int), (0 : Int))).1 ∧ (List.getD l (Int.toNat i) ((0 : Int), (0
 : Int))).1 ≤ (9 : Int))) (Q AX.ret (shSt Go.P7.sh50R (false, ()))) (req (decide ((0 : Int) ≤ i ∧ i < (↑(l.length) : Int))) (fork (!decide ((0 : Int) ≤ (List.getD l (Int.toNat i) ((0 : Int), (0 : Int))).2 ∧ (List.getD l
 (Int.toNat i) ((0 : Int), (0 : Int))).2 ≤ (67108864 : Int))) (Q AX.ret (shSt Go.P7.sh50R (false, ()))) (req (inR IntKind.i64 (i + 1)) (Go.P7.mLenD l (i + 1) < Go.P7.mLenD l i ∧ LC.spec Go.P7.lc54 (l, i + 1, ()) Q)))))) (Q
 (AX.exit 0) (shSt Go.P7.sh54E (l, ())))) := by kernel_rfl
theorem v54F (l : List (Int × Int)) (K : dens [.b] → Prop) : (xfn Try.prog [] [(54, 0, lc54)] 5 54 fcDues (l, ()) K) =
  (((0 : Int) ≤ (0 : Int) ∧ (0 : Int) ≤ (↑(l.length) : Int) ∧ l.length ≤ 9223372036854775807) ∧ (List.all (List.drop 0 l) Go.P7.okD = true → K (decide ((↑(l.length) : Int) ≤ (24 : Int)), ())) ∧ (List.all (List.drop 0 l)
 Go.P7.okD = false → K (false, ()))) := by kernel_rfl
end Go.P7
