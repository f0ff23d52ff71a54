/- Lots: states and what is to be shown, reduced. No conditions. -/
import Derived.Test.YtnjaebjhfilljaaRanksS
set_option linter.unusedSimpArgs false
set_option linter.constructorNameAsVariable false
set_option maxRecDepth 100000
set_option maxHeartbeats 2000000
set_option linter.unusedVariables false
namespace Go.P7
open Go.Lom Go.Proofs Go

abbrev Tx : Type := List UInt8
abbrev Pa : Type := Tx × Int × List (Int × Int)
abbrev Po : Type := Int × List Int × Int
abbrev TPa : Ty := .pr .s (.pr I LD)
abbrev LPa : Ty := .sl TPa
abbrev TPo : Ty := .pr I (.pr L I)
abbrev LPo : Ty := .sl TPo
def mL {α : Type} (l : List α) (i : Int) : Nat := (l.length - i).toNat
def letterB (c : UInt8) : Bool := decide (97 ≤ (c.toNat : Int) ∧ (c.toNat : Int) ≤ 122)
def charB (c : UInt8) : Bool := letterB c || decide (48 ≤ (c.toNat : Int) ∧ (c.toNat : Int) ≤ 57) || decide ((c.toNat : Int) = 45)
def wordB (s : Tx) : Bool := decide (1 ≤ s.length ∧ s.length ≤ 16) && letterB (s.getD 0 0) && s.all charB
def sWord (s : Tx) (K : Bool → Prop) : Prop := s.length ≤ big ∧ K (wordB s)
abbrev fcWord : FC := ⟨[.v .s], [.b], fun x K => sWord x.1 fun r => K (r, ())⟩

abbrev sh56 : Shape := [(0, .v .s), (24, .v I), (25, .v I)]
abbrev shR2 : Shape := [(2, .v .b)]
def ex56 : AX → Option Shape
  | .ret => some shR2
  | _ => some []
def s56L (s : Tx) (m i : Int) (Q : LQ) : Prop := (0 ≤ i ∧ i ≤ s.length ∧ m = s.length ∧ s.length ≤ 16) ∧ ((s.drop i.toNat).all charB = true → Q (.exit 0) (shSt [] ())) ∧ ((s.drop i.toNat).all charB = false → Q .ret (shSt shR2 (false, ())))
abbrev lc56 : LC := ⟨sh56, fun x Q => s56L x.1 x.2.1 x.2.2.1 Q⟩
theorem v56L (s : Tx) (m i : Int) (Q : AX → St → Prop) : (xloop Try.prog [] [] 5 56 0 lc56 ex56 (fun x => mL x.1 x.2.2.1) (s, m, i, ()) Q) =
  (fork (decide (i < m)) (req (decide ((0 : Int) ≤ i ∧ i < (↑(s.length) : Int))) (fork (decide ((↑(UInt8.toNat (List.getD s (Int.toNat i) (0 : UInt8))) : Int) < (97 : Int))) (fork (decide ((↑(UInt8.toNat (List.getD s
 (Int.toNat i) (0 : UInt8))) : Int) < (48 : Int))) (fork ((↑(UInt8.toNat (List.getD s (Int.toNat i) (0 : UInt8))) : Int) != (45 : Int)) (Q AX.ret (shSt Go.P7.shR2 (false, ()))) (req (inR IntKind.i64 (i + 1)) (Go.P7.mL s (i
 + 1) < Go.P7.mL s i ∧ LC.spec Go.P7.lc56 (s, m, i + 1, ()) Q))) (fork (decide ((↑(UInt8.toNat (List.getD s (Int.toNat i) (0 : UInt8))) : Int) > (57 : Int))) (fork ((↑(UInt8.toNat (List.getD s (Int.toNat i) (0 : UInt8))) :
 Int) != (45 : Int)) (Q AX.ret (shSt Go.P7.shR2 (false, ()))) (req (inR IntKind.i64 (i + 1)) (Go.P7.mL s (i + 1) < Go.P7.mL s i ∧ LC.spec Go.P7.lc56 (s, m, i + 1, ()) Q))) (req (inR IntKind.i64 (i + 1)) (Go.P7.mL s (i + 1)
 < Go.P7.mL s i ∧ LC.spec Go.P7.lc56 (s, m, i + 1, ()) Q)))) (fork (decide ((↑(UInt8.toNat (List.getD s (Int.toNat i) (0 : UInt8))) : Int) > (122 : Int))) (fork (decide ((↑(UInt8.toNat (List.getD s (Int.toNat i) (0 :
 UInt8))) : Int) < (48 : Int))) (fork ((↑(UInt8.toNat (List.getD s (Int.toNat i) (0 : UInt8))) : Int) != (45 : Int)) (Q AX.ret (shSt Go.P7.shR2 (false, ()))) (req (inR IntKind.i64 (i + 1)) (Go.P7.mL s (i + 1) < Go.P7.mL s
 i ∧ LC.spec Go.P7.lc56 (s, m, i + 1, ()) Q))) (fork (decide ((↑(UInt8.toNat (List.getD s (Int.toNat i) (0 : UInt8))) : Int) > (57 : Int))) (fork ((↑(UInt8.toNat (List.getD s (Int.toNat i) (0 : UInt8))) : Int) != (45 :
 Int)) (Q AX.ret (shSt Go.P7.shR2 (false, ()))) (req (inR IntKind.i64 (i + 1)) (Go.P7.mL s (i + 1) < Go.P7.mL s i ∧ LC.spec Go.P7.lc56 (s, m, i + 1, ()) Q))) (req (inR IntKind.i64 (i + 1)) (Go.P7.mL s (i + 1) < Go.P7.mL s
 i ∧ LC.spec Go.P7.lc56 (s, m, i + 1, ()) Q)))) (req (inR IntKind.i64 (i + 1)) (Go.P7.mL s (i + 1) < Go.P7.mL s i ∧ LC.spec Go.P7.lc56 (s, m, i + 1, ()) Q))))) (Q (AX.exit 0) (shSt [] ()))) := by kernel_rfl
theorem v56F (s : Tx) (K : dens [.b] → Prop) : (xfn Try.prog [] [(56, 0, lc56)] 5 56 fcWord (s, ()) K) =
  (fork ((↑(s.length) : Int) == (0 : Int)) (K (false, ())) (fork (decide ((↑(s.length) : Int) > (16 : Int))) (K (false, ())) (req (decide ((0 : Int) ≤ (0 : Int) ∧ (0 : Int) < (↑(s.length) : Int))) (fork (decide
 ((↑(UInt8.toNat (List.getD s 0 (0 : UInt8))) : Int) < (97 : Int))) (K (false, ())) (req (decide ((0 : Int) ≤ (0 : Int) ∧ (0 : Int) < (↑(s.length) : Int))) (fork (decide ((↑(UInt8.toNat (List.getD s 0 (0 : UInt8))) : Int)
 > (122 : Int))) (K (false, ())) (((0 : Int) ≤ (0 : Int) ∧ (0 : Int) ≤ (↑(s.length) : Int) ∧ (↑(s.length) : Int) = (↑(s.length) : Int) ∧ s.length ≤ 16) ∧ (List.all (List.drop 0 s) Go.P7.charB = true → K (true, ())) ∧
 (List.all (List.drop 0 s) Go.P7.charB = false → K (false, ()))))))))) := by kernel_rfl
abbrev sh60 : Shape := [(0, .v .s), (3, .v I)]
abbrev sh60E : Shape := [(0, .v .s)]
def ex60 : AX → Option Shape
  | .ret => some shR2
  | _ => some sh60E
def goodFrom (s : Tx) (i : Int) : Bool := (s.drop i.toNat).all charB && (decide (0 < i ∨ s.length = 0) || letterB (s.getD 0 0))
def s60L (s : Tx) (i : Int) (Q : LQ) : Prop := (0 ≤ i ∧ i ≤ s.length ∧ s.length ≤ big) ∧ (goodFrom s i = true → Q (.exit 0) (shSt sh60E (s, ()))) ∧ (goodFrom s i = false → Q .ret (shSt shR2 (false, ())))
abbrev lc60 : LC := ⟨sh60, fun x Q => s60L x.1 x.2.1 Q⟩
theorem v60L (s : Tx) (i : Int) (Q : AX → St → Prop) : (xloop Try.prog [] [] 5 60 0 lc60 ex60 (fun x => mL x.1 x.2.1) (s, i, ()) Q) =
  (fork (decide (i < (↑(s.length) : Int))) (req (decide ((0 : Int) ≤ i ∧ i < (↑(s.length) : Int))) (fork (decide ((97 : Int) ≤ (↑(UInt8.toNat (List.getD s (Int.toNat i) (0 : UInt8))) : Int))) (fork (!decide ((↑(UInt8.toNat
 (List.getD s (Int.toNat i) (0 : UInt8))) : Int) ≤ (122 : Int))) (fork (i == (0 : Int)) (Q AX.ret (shSt Go.P7.shR2 (false, ()))) (fork ((↑(UInt8.toNat (List.getD s (Int.toNat i) (0 : UInt8))) : Int) != (45 : Int)) (fork
 (decide ((48 : Int) ≤ (↑(UInt8.toNat (List.getD s (Int.toNat i) (0 : UInt8))) : Int))) (fork (!decide ((↑(UInt8.toNat (List.getD s (Int.toNat i) (0 : UInt8))) : Int) ≤ (57 : Int))) (Q AX.ret (shSt Go.P7.shR2 (false, ())))
 (req (inR IntKind.i64 (i + 1)) (Go.P7.mL s (i + 1) < Go.P7.mL s i ∧ LC.spec Go.P7.lc60 (s, i + 1, ()) Q))) (Q AX.ret (shSt Go.P7.shR2 (false, ())))) (req (inR IntKind.i64 (i + 1)) (Go.P7.mL s (i + 1) < Go.P7.mL s i ∧
 LC.spec Go.P7.lc60 (s, i + 1, ()) Q)))) (req (inR IntKind.i64 (i + 1)) (Go.P7.mL s (i + 1) < Go.P7.mL s i ∧ LC.spec Go.P7.lc60 (s, i + 1, ()) Q))) (fork (i == (0 : Int)) (Q AX.ret (shSt Go.P7.shR2 (false, ()))) (fork
 ((↑(UInt8.toNat (List.getD s (Int.toNat i) (0 : UInt8))) : Int) != (45 : Int)) (fork (decide ((48 : Int) ≤ (↑(UInt8.toNat (List.getD s (Int.toNat i) (0 : UInt8))) : Int))) (fork (!decide ((↑(UInt8.toNat (List.getD s
 (Int.toNat i) (0 : UInt8))) : Int) ≤ (57 : Int))) (Q AX.ret (shSt Go.P7.shR2 (false, ()))) (req (inR IntKind.i64 (i + 1)) (Go.P7.mL s (i + 1) < Go.P7.mL s i ∧ LC.spec Go.P7.lc60 (s, i + 1, ()) Q))) (Q AX.ret (shSt
 Go.P7.shR2 (false, ())))) (req (inR IntKind.i64 (i + 1)) (Go.P7.mL s (i + 1) < Go.P7.mL s i ∧ LC.spec Go.P7.lc60 (s, i + 1, ()) Q)))))) (Q (AX.exit 0) (shSt Go.P7.sh60E (s, ())))) := by kernel_rfl
theorem v60F (s : Tx) (K : dens [.b] → Prop) : (xfn Try.prog [(24, fcFrom)] [(60, 0, lc60)] 5 60 fcWord (s, ()) K) =
  (((0 : Int) ≤ (0 : Int) ∧ (0 : Int) ≤ (↑(s.length) : Int) ∧ s.length ≤ 9223372036854775807) ∧ (Go.P7.goodFrom s (0 : Int) = true → K (decide ((1 : Int) ≤ (↑(s.length) : Int) ∧ (↑(s.length) : Int) ≤ (16 : Int)), ())) ∧
 (Go.P7.goodFrom s (0 : Int) = false → K (false, ()))) := by kernel_rfl

def firstIx {α : Type} (p : α → Bool) : List α → Int → Int
  | [], _ => -1
  | x :: l, i => if p x = true then i else firstIx p l (i + 1)
abbrev sh87a : Shape := [(0, .v LPa), (1, .a (.clo 58 [] [(true, TPa)])), (7, .v I), (8, .v I)]
abbrev shR4i : Shape := [(4, .v I)]
def ex87 : AX → Option Shape
  | .ret => some shR4i
  | _ => some []
def sameN (q : Pa) (p : Pa) : Bool := decide (p.1 = q.1)
def s87L (f : Pa → Bool) (l : List Pa) (m i : Int) (Q : LQ) : Prop := (0 ≤ i ∧ i ≤ l.length ∧ m = l.length ∧ l.length ≤ 8) ∧ ((l.drop i.toNat).any f = false → Q (.exit 0) (shSt [] ())) ∧ ((l.drop i.toNat).any f = true → Q .ret (shSt shR4i (firstIx f (l.drop i.toNat) i, ())))
abbrev lc87a : LC := ⟨sh87a, fun x Q => s87L (sameN x.2.1.2.1) x.1 x.2.2.1 x.2.2.2.1 Q⟩
theorem v87La (l : List Pa) (q : Pa) (m i : Int) (Q : AX → St → Prop) : (xloop Try.prog [] [] 5 87 0 lc87a ex87 (fun x => mL x.1 x.2.2.2.1) (l, ((), (q, ())), m, i, ()) Q) =
  (fork (decide (i < m)) (req (decide ((0 : Int) ≤ i ∧ i < (↑(l.length) : Int))) (fork ((List.getD l (Int.toNat i) ([], (0 : Int), [])).1 == q.1) (Q AX.ret (shSt Go.P7.shR4i (i, ()))) (req (inR IntKind.i64 (i + 1))
 (Go.P7.mL l (i + 1) < Go.P7.mL l i ∧ LC.spec Go.P7.lc87a (l, ((), (q.1, q.2.1, q.2.2), ()), m, i + 1, ()) Q)))) (Q (AX.exit 0) (shSt [] ()))) := by kernel_rfl
def s87 (f : Pa → Bool) (l : List Pa) (K : Int → Prop) : Prop := l.length ≤ 8 ∧ K (firstIx f l 0)
abbrev fc87a : FC := ⟨[.v LPa, .clo 58 [] [(true, TPa)]], [I], fun x K => s87 (sameN x.2.1.2.1) x.1 fun r => K (r, ())⟩
theorem v87Fa (l : List Pa) (q : Pa) (K : dens [I] → Prop) : (xfn Try.prog [] [(87, 0, lc87a)] 5 87 fc87a (l, ((), (q, ())), ()) K) =
  (((0 : Int) ≤ (0 : Int) ∧ (0 : Int) ≤ (↑(l.length) : Int) ∧ (↑(l.length) : Int) = (↑(l.length) : Int) ∧ l.length ≤ 8) ∧ (List.any (List.drop 0 l) (Go.P7.sameN (q.1, q.2.1, q.2.2)) = false → K ((-1 : Int), ())) ∧ (List.any
 (List.drop 0 l) (Go.P7.sameN (q.1, q.2.1, q.2.2)) = true → K (Go.P7.firstIx (Go.P7.sameN (q.1, q.2.1, q.2.2)) (List.drop 0 l) (0 : Int), ()))) := by kernel_rfl
abbrev sh87b : Shape := [(0, .v LPa), (1, .a (.clo 59 [] [])), (7, .v I), (8, .v I)]
def badDues (p : Pa) : Bool := !validD p.2.2
abbrev lc87b : LC := ⟨sh87b, fun x Q => (∀ p ∈ x.1, p.2.2.length ≤ big) ∧ s87L badDues x.1 x.2.2.1 x.2.2.2.1 Q⟩
theorem v87Lb (l : List Pa) (m i : Int) (Q : AX → St → Prop) : (xloop Try.prog [(52, fcDues)] [] 5 87 0 lc87b ex87 (fun x => mL x.1 x.2.2.2.1) (l, ((), ()), m, i, ()) Q) =
  (fork (decide (i < m)) (req (decide ((0 : Int) ≤ i ∧ i < (↑(l.length) : Int))) (List.length ((List.getD l (Int.toNat i) ([], (0 : Int), [])).2.2) ≤ 9223372036854775807 ∧ fork (!Go.P7.validD ((List.getD l (Int.toNat i)
 ([], (0 : Int), [])).2.2)) (Q AX.ret (shSt Go.P7.shR4i (i, ()))) (req (inR IntKind.i64 (i + 1)) (Go.P7.mL l (i + 1) < Go.P7.mL l i ∧ LC.spec Go.P7.lc87b (l, ((), ()), m, i + 1, ()) Q)))) (Q (AX.exit 0) (shSt [] ()))) := by kernel_rfl
abbrev fc87b : FC := ⟨[.v LPa, .clo 59 [] []], [I], fun x K => (∀ p ∈ x.1, p.2.2.length ≤ big) ∧ s87 badDues x.1 fun r => K (r, ())⟩
theorem v87Fb (l : List Pa) (K : dens [I] → Prop) : (xfn Try.prog [] [(87, 0, lc87b)] 5 87 fc87b (l, ((), ()), ()) K) =
  ((∀ (p : Ty.den Go.P7.TPa), p ∈ l → List.length (p.2.2) ≤ 9223372036854775807) ∧ ((0 : Int) ≤ (0 : Int) ∧ (0 : Int) ≤ (↑(l.length) : Int) ∧ (↑(l.length) : Int) = (↑(l.length) : Int) ∧ l.length ≤ 8) ∧ (List.any (List.drop
 0 l) Go.P7.badDues = false → K ((-1 : Int), ())) ∧ (List.any (List.drop 0 l) Go.P7.badDues = true → K (Go.P7.firstIx Go.P7.badDues (List.drop 0 l) (0 : Int), ()))) := by kernel_rfl

/-! the answer -/
def scanOk : List Pa → List Pa → Bool
  | _, [] => true
  | pre, p :: l => (wordB p.1 && !pre.any (sameN p)) && scanOk (pre ++ [p]) l
def vals7 (l : List Pa) : List Int := l.map (·.2.1)
def portion (p : Pa) (n : Int) : Po := (n, (spreadL p.2.2 n).1, (spreadL p.2.2 n).2)
def portR (price : Int) (l : List Pa) : List Po × Int :=
  if 0 ≤ price ∧ price ≤ 67108864 then (if 1 ≤ l.length ∧ l.length ≤ 8 ∧ scanOk [] l = true ∧ validW (vals7 l) = true then (if l.all (fun p => validD p.2.2) = true then (List.zipWith portion l (shareL (vals7 l) price), 0) else ([], 71)) else ([], 72)) else ([], 7)
def sPort (price : Int) (l : List Pa) (K : List Po → Int → Prop) : Prop := (l.length ≤ big ∧ (∀ p ∈ l, p.1.length ≤ big ∧ p.2.2.length ≤ big)) ∧ ∀ r e, portR price l = (r, e) → K r e
abbrev fcPort : FC := ⟨[.v I, .v LPa], [LPo, E], fun x K => sPort x.1 x.2.1 fun r e => K (r, e, ())⟩

/-! the program's -/
abbrev sh20a : Shape := [(0, .v I), (1, .v LPa), (6, .own I), (21, .v LPa), (22, .v I), (23, .v I)]
abbrev sh20aE : Shape := [(0, .v I), (1, .v LPa), (6, .own I)]
abbrev shR45 : Shape := [(4, .v LPo), (5, .v I)]
def ex20a : AX → Option Shape
  | .ret => some shR45
  | _ => some sh20aE
def s20a (price : Int) (l : List Pa) (own : List Int) (l2 : List Pa) (m i : Int) (Q : LQ) : Prop :=
  (l.length ≤ 8 ∧ l2 = l ∧ m = l.length ∧ 0 ≤ i ∧ i ≤ l.length ∧ own.length ≤ i ∧ (∀ p ∈ l, p.1.length ≤ big)) ∧
  (scanOk (l.take i.toNat) (l.drop i.toNat) = true → ∀ o, o = own ++ vals7 (l.drop i.toNat) → Q (.exit 0) (shSt sh20aE (price, l, o, ()))) ∧
  (scanOk (l.take i.toNat) (l.drop i.toNat) = false → Q .ret (shSt shR45 ([], 72, ())))
abbrev lc20a : LC := ⟨sh20a, fun x Q => s20a x.1 x.2.1 x.2.2.1 x.2.2.2.1 x.2.2.2.2.1 x.2.2.2.2.2.1 Q⟩
theorem v20a (price : Int) (l : List Pa) (own : List Int) (l2 : List Pa) (m i : Int) (Q : AX → St → Prop) : (xloop Try.prog [(56, fcWord), (87, fc87a)] [] 5 20 0 lc20a ex20a (fun x => mL x.2.1 x.2.2.2.2.2.1) (price, l, own, l2, m, i, ()) Q) =
  (fork (decide (i < m)) (req (decide ((0 : Int) ≤ i ∧ i < (↑(l2.length) : Int))) (req (decide (0 + own.length ≤ own.length)) (req (fitsN (own.length + List.length (seg 0 1 [(List.getD l2 (Int.toNat i) ([], (0 : Int),
 [])).2.1])) 8) (List.length ((List.getD l2 (Int.toNat i) ([], (0 : Int), [])).1) ≤ 9223372036854775807 ∧ fork (!Go.P7.wordB ((List.getD l2 (Int.toNat i) ([], (0 : Int), [])).1)) (Q AX.ret (shSt Go.P7.shR45 ([], (72 :
 Int), ()))) (req (decide ((0 : Int) ≤ (0 : Int) ∧ (0 : Int) ≤ i ∧ i ≤ (↑(l.length) : Int))) (List.length (List.drop 0 (List.take (Int.toNat i) l)) ≤ 8 ∧ fork (decide (Go.P7.firstIx (Go.P7.sameN ((List.getD l2 (Int.toNat
 i) ([], (0 : Int), [])).1, (List.getD l2 (Int.toNat i) ([], (0 : Int), [])).2.1, (List.getD l2 (Int.toNat i) ([], (0 : Int), [])).2.2)) (List.drop 0 (List.take (Int.toNat i) l)) (0 : Int) ≥ (0 : Int))) (Q AX.ret (shSt
 Go.P7.shR45 ([], (72 : Int), ()))) (req (inR IntKind.i64 (i + 1)) (req (decide (0 + (own.length + List.length (seg 0 1 [(List.getD l2 (Int.toNat i) ([], (0 : Int), [])).2.1])) ≤ List.length (seg 0 (own.length) own ++ seg
 0 1 [(List.getD l2 (Int.toNat i) ([], (0 : Int), [])).2.1]))) (Go.P7.mL l (i + 1) < Go.P7.mL l i ∧ LC.spec Go.P7.lc20a (price, l, seg 0 (own.length + List.length (seg 0 1 [(List.getD l2 (Int.toNat i) ([], (0 : Int),
 [])).2.1])) (seg 0 (own.length) own ++ seg 0 1 [(List.getD l2 (Int.toNat i) ([], (0 : Int), [])).2.1]), l2, m, i + 1, ()) Q))))))))) (req (decide (0 + own.length ≤ own.length)) (Q (AX.exit 0) (shSt Go.P7.sh20aE (price, l,
 seg 0 (own.length) own, ()))))) := by kernel_rfl
abbrev sh20b : Shape := [(1, .v LPa), (9, .own TPo), (52, .v L), (53, .v I), (54, .v I)]
abbrev sh20bE : Shape := [(9, .own TPo)]
def s20b (l : List Pa) (out : List Po) (n : List Int) (m i : Int) (Q : LQ) : Prop :=
  (l.length ≤ 8 ∧ n.length = l.length ∧ m = l.length ∧ 0 ≤ i ∧ i ≤ l.length ∧ out.length ≤ i ∧ (∀ p ∈ l, validD p.2.2 = true) ∧ (∀ x ∈ n, 0 ≤ x ∧ x ≤ 34359738368)) ∧
  ∀ o, o = out ++ List.zipWith portion (l.drop i.toNat) (n.drop i.toNat) → Q (.exit 2) (shSt sh20bE (o, ()))
abbrev lc20b : LC := ⟨sh20b, fun x Q => s20b x.1 x.2.1 x.2.2.1 x.2.2.2.1 x.2.2.2.2.1 Q⟩
theorem v20b (l : List Pa) (out : List Po) (n : List Int) (m i : Int) (Q : AX → St → Prop) : (xloop Try.prog [(53, fcSpread)] [] 5 20 1 lc20b (one sh20bE) (fun x => mL x.1 x.2.2.2.2.1) (l, out, n, m, i, ()) Q) =
  (fork (decide (i < m)) (req (decide ((0 : Int) ≤ i ∧ i < (↑(n.length) : Int))) (req (decide ((0 : Int) ≤ i ∧ i < (↑(l.length) : Int))) ((Go.P7.validD ((List.getD l (Int.toNat i) ([], (0 : Int), [])).2.2) = true ∧ (0 :
 Int) ≤ List.getD n (Int.toNat i) (0 : Int) ∧ List.getD n (Int.toNat i) (0 : Int) ≤ (34359738368 : Int)) ∧ ∀ (o : List Int) (s' : Int), Go.P7.spreadN ((List.getD l (Int.toNat i) ([], (0 : Int), [])).2.2) 10 (0 : Int)
 (List.map (fun x => (0 : Int)) ((List.getD l (Int.toNat i) ([], (0 : Int), [])).2.2)) (List.getD n (Int.toNat i) (0 : Int)) = (o, s') → req (decide (0 + out.length ≤ out.length)) (req (fitsN (out.length + List.length (seg
 0 1 [(List.getD n (Int.toNat i) (0 : Int), o, s')])) 40) (req (inR IntKind.i64 (i + 1)) (req (decide (0 + (out.length + List.length (seg 0 1 [(List.getD n (Int.toNat i) (0 : Int), o, s')])) ≤ List.length (seg 0
 (out.length) out ++ seg 0 1 [(List.getD n (Int.toNat i) (0 : Int), o, s')]))) (Go.P7.mL l (i + 1) < Go.P7.mL l i ∧ LC.spec Go.P7.lc20b (l, seg 0 (out.length + List.length (seg 0 1 [(List.getD n (Int.toNat i) (0 : Int), o,
 s')])) (seg 0 (out.length) out ++ seg 0 1 [(List.getD n (Int.toNat i) (0 : Int), o, s')]), n, m, i + 1, ()) Q))))))) (req (decide (0 + out.length ≤ out.length)) (Q (AX.exit 2) (shSt Go.P7.sh20bE (seg 0 (out.length) out,
 ()))))) := by kernel_rfl
theorem v20F (price : Int) (l : List Pa) (K : dens [LPo, E] → Prop) : (xfn Try.prog [(47, fc47), (87, fc87b), (49, fcShare)] [(20, 0, lc20a), (20, 1, lc20b)] 5 20 fcPort (price, l, ()) K) =
  (fork (decide (price ≥ (0 : Int))) (fork (!decide (price ≤ (67108864 : Int))) (K ([], (7 : Int), ())) (fork (decide ((↑(l.length) : Int) ≥ (1 : Int))) (fork (!decide ((↑(l.length) : Int) ≤ (8 : Int))) (K ([], (72 : Int),
 ())) ((l.length ≤ 8 ∧ l = l ∧ (↑(l.length) : Int) = (↑(l.length) : Int) ∧ (0 : Int) ≤ (0 : Int) ∧ (0 : Int) ≤ (↑(l.length) : Int) ∧ (0 : Int) ≤ (0 : Int) ∧ ∀ (p : Go.P7.Pa), p ∈ l → List.length (p.1) ≤
 9223372036854775807) ∧ (Go.P7.scanOk (List.take 0 l) (List.drop 0 l) = true → ∀ (o : List Int), o = [] ++ Go.P7.vals7 (List.drop 0 l) → req (decide (0 + o.length ≤ o.length)) (List.length (seg 0 (o.length) o) ≤
 9223372036854775807 ∧ fork (!Go.P7.validW (seg 0 (o.length) o)) (K ([], (72 : Int), ())) ((∀ (p : Ty.den Go.P7.TPa), p ∈ l → List.length (p.2.2) ≤ 9223372036854775807) ∧ l.length ≤ 8 ∧ fork (decide (Go.P7.firstIx
 Go.P7.badDues l (0 : Int) ≥ (0 : Int))) (K ([], (71 : Int), ())) (req (decide (0 + o.length ≤ o.length)) ((Go.P7.preW (seg 0 (o.length) o) ∧ (0 : Int) ≤ price ∧ price ≤ (34359738368 : Int)) ∧ ∀ (r : List Int), r =
 Go.P7.shareL (seg 0 (o.length) o) price → (l.length ≤ 8 ∧ r.length = l.length ∧ (↑(r.length) : Int) = (↑(l.length) : Int) ∧ (0 : Int) ≤ (0 : Int) ∧ (0 : Int) ≤ (↑(l.length) : Int) ∧ (0 : Int) ≤ (0 : Int) ∧ (∀ (p :
 Go.P7.Pa), p ∈ l → Go.P7.validD (p.2.2) = true) ∧ ∀ (x : Int), x ∈ r → (0 : Int) ≤ x ∧ x ≤ (34359738368 : Int)) ∧ ∀ (o : List Go.P7.Po), o = [] ++ List.zipWith Go.P7.portion (List.drop 0 l) (List.drop 0 r) → req (decide
 (0 + o.length ≤ o.length)) (K (seg 0 (o.length) o, (0 : Int), ()))))))) ∧ (Go.P7.scanOk (List.take 0 l) (List.drop 0 l) = false → K ([], (72 : Sh.den (Sh.v Go.P7.I)), ())))) (K ([], (72 : Int), ())))) (K ([], (7 : Int),
 ()))) := by kernel_rfl

/-! the specification's -/
abbrev sh61 : Shape := [(0, .v (.sl .s)), (1, .v .s), (5, .v I)]
def ex61 : AX → Option Shape
  | .ret => some shR4i
  | _ => some []
def eqT (s t : Tx) : Bool := decide (t = s)
def s61L (l : List Tx) (s : Tx) (i : Int) (Q : LQ) : Prop := (0 ≤ i ∧ i ≤ l.length ∧ l.length ≤ big) ∧ ((l.drop i.toNat).any (eqT s) = false → Q (.exit 0) (shSt [] ())) ∧ ((l.drop i.toNat).any (eqT s) = true → Q .ret (shSt shR4i (firstIx (eqT s) (l.drop i.toNat) i, ())))
abbrev lc61 : LC := ⟨sh61, fun x Q => s61L x.1 x.2.1 x.2.2.1 Q⟩
theorem v61L (l : List Tx) (s : Tx) (i : Int) (Q : AX → St → Prop) : (xloop Try.prog [] [] 5 61 0 lc61 ex61 (fun x => mL x.1 x.2.2.1) (l, s, i, ()) Q) =
  (fork (decide (i < (↑(l.length) : Int))) (req (decide ((0 : Int) ≤ i ∧ i < (↑(l.length) : Int))) (fork (List.getD l (Int.toNat i) [] == s) (Q AX.ret (shSt Go.P7.shR4i (i, ()))) (req (inR IntKind.i64 (i + 1)) (Go.P7.mL l
 (i + 1) < Go.P7.mL l i ∧ LC.spec Go.P7.lc61 (l, s, i + 1, ()) Q)))) (Q (AX.exit 0) (shSt [] ()))) := by kernel_rfl
def sSeek (l : List Tx) (s : Tx) (K : Int → Prop) : Prop := l.length ≤ big ∧ K (firstIx (eqT s) l 0)
abbrev fcSeekT : FC := ⟨[.v (.sl .s), .v .s], [I], fun x K => sSeek x.1 x.2.1 fun r => K (r, ())⟩
theorem v61F (l : List Tx) (s : Tx) (K : dens [I] → Prop) : (xfn Try.prog [] [(61, 0, lc61)] 5 61 fcSeekT (l, s, ()) K) =
  (((0 : Int) ≤ (0 : Int) ∧ (0 : Int) ≤ (↑(l.length) : Int) ∧ l.length ≤ 9223372036854775807) ∧ (List.any (List.drop 0 l) (Go.P7.eqT s) = false → K ((-1 : Int), ())) ∧ (List.any (List.drop 0 l) (Go.P7.eqT s) = true → K
 (Go.P7.firstIx (Go.P7.eqT s) (List.drop 0 l) (0 : Int), ()))) := by kernel_rfl
abbrev sh21a : Shape := [(0, .v I), (1, .v LPa), (6, .own .s), (7, .own I), (8, .v .b), (9, .v I)]
abbrev sh21aE : Shape := [(0, .v I), (1, .v LPa), (7, .own I), (8, .v .b)]
def s21a (price : Int) (l : List Pa) (names : List Tx) (own : List Int) (ok : Bool) (i : Int) (Q : LQ) : Prop :=
  (l.length ≤ big ∧ 0 ≤ i ∧ (ok = true → l.length ≤ 8 ∧ i ≤ l.length ∧ names = (l.take i.toNat).map (·.1)) ∧ own.length ≤ 8 ∧ (own.length : Int) ≤ i ∧ (∀ p ∈ l, p.1.length ≤ big)) ∧
  ∀ o r, r = (ok && scanOk (l.take i.toNat) (l.drop i.toNat)) → o.length ≤ 8 → (r = true → o = own ++ vals7 (l.drop i.toNat)) → Q (.exit 0) (shSt sh21aE (price, l, o, r, ()))
abbrev lc21a : LC := ⟨sh21a, fun x Q => s21a x.1 x.2.1 x.2.2.1 x.2.2.2.1 x.2.2.2.2.1 x.2.2.2.2.2.1 Q⟩
theorem v21a (price : Int) (l : List Pa) (names : List Tx) (own : List Int) (ok : Bool) (i : Int) (Q : AX → St → Prop) : (xloop Try.prog [(60, fcWord), (61, fcSeekT)] [] 5 21 0 lc21a (one sh21aE) (fun x => (x.2.1.length + 1 - x.2.2.2.2.2.1).toNat) (price, l, names, own, ok, i, ()) Q) =
  (fork ok (fork (decide (i < (↑(l.length) : Int))) (req (decide ((0 : Int) ≤ i ∧ i < (↑(l.length) : Int))) (List.length ((List.getD l (Int.toNat i) ([], (0 : Int), [])).1) ≤ 9223372036854775807 ∧ fork (Go.P7.wordB
 ((List.getD l (Int.toNat i) ([], (0 : Int), [])).1)) (req (decide ((0 : Int) ≤ i ∧ i < (↑(l.length) : Int))) (req (decide (0 + names.length ≤ names.length)) (List.length (seg 0 (names.length) names) ≤ 9223372036854775807
 ∧ req (decide ((0 : Int) ≤ i ∧ i < (↑(l.length) : Int))) (req (decide ((0 : Int) ≤ i ∧ i < (↑(l.length) : Int))) (req (decide (0 + names.length ≤ names.length)) (req (fitsN (names.length + List.length [(List.getD l
 (Int.toNat i) ([], (0 : Int), [])).1]) 16) (AV.int IntKind.i64 ((List.getD l (Int.toNat i) ([], (0 : Int), [])).2.1) = AV.int IntKind.i64 ((List.getD l (Int.toNat i) ([], (0 : Int), [])).2.1) ∧ req (decide (0 + own.length
 ≤ own.length)) (req (fitsN (own.length + List.length [(List.getD l (Int.toNat i) ([], (0 : Int), [])).2.1]) 8) (req (inR IntKind.i64 (i + 1)) (req (decide (0 + (names.length + List.length [(List.getD l (Int.toNat i) ([],
 (0 : Int), [])).1]) ≤ List.length (seg 0 (names.length) names ++ [(List.getD l (Int.toNat i) ([], (0 : Int), [])).1]))) (req (decide (0 + (own.length + List.length [(List.getD l (Int.toNat i) ([], (0 : Int), [])).2.1]) ≤
 List.length (seg 0 (own.length) own ++ [(List.getD l (Int.toNat i) ([], (0 : Int), [])).2.1]))) (Int.toNat ((↑(l.length) : Sh.den (Sh.v Go.P7.I)) + (1 : Sh.den (Sh.v Go.P7.I)) - (i + 1)) < Int.toNat ((↑(l.length) : Sh.den
 (Sh.v Go.P7.I)) + (1 : Sh.den (Sh.v Go.P7.I)) - i) ∧ LC.spec Go.P7.lc21a (price, l, seg 0 (names.length + List.length [(List.getD l (Int.toNat i) ([], (0 : Int), [])).1]) (seg 0 (names.length) names ++ [(List.getD l
 (Int.toNat i) ([], (0 : Int), [])).1]), seg 0 (own.length + List.length [(List.getD l (Int.toNat i) ([], (0 : Int), [])).2.1]) (seg 0 (own.length) own ++ [(List.getD l (Int.toNat i) ([], (0 : Int), [])).2.1]), decide
 (Go.P7.firstIx (Go.P7.eqT ((List.getD l (Int.toNat i) ([], (0 : Int), [])).1)) (seg 0 (names.length) names) (0 : Int) < (0 : Int)), i + 1, ()) Q)))))))))))) (req (decide ((0 : Int) ≤ i ∧ i < (↑(l.length) : Int))) (req
 (decide ((0 : Int) ≤ i ∧ i < (↑(l.length) : Int))) (req (decide (0 + names.length ≤ names.length)) (req (fitsN (names.length + List.length [(List.getD l (Int.toNat i) ([], (0 : Int), [])).1]) 16) (AV.int IntKind.i64
 ((List.getD l (Int.toNat i) ([], (0 : Int), [])).2.1) = AV.int IntKind.i64 ((List.getD l (Int.toNat i) ([], (0 : Int), [])).2.1) ∧ req (decide (0 + own.length ≤ own.length)) (req (fitsN (own.length + List.length
 [(List.getD l (Int.toNat i) ([], (0 : Int), [])).2.1]) 8) (req (inR IntKind.i64 (i + 1)) (req (decide (0 + (names.length + List.length [(List.getD l (Int.toNat i) ([], (0 : Int), [])).1]) ≤ List.length (seg 0
 (names.length) names ++ [(List.getD l (Int.toNat i) ([], (0 : Int), [])).1]))) (req (decide (0 + (own.length + List.length [(List.getD l (Int.toNat i) ([], (0 : Int), [])).2.1]) ≤ List.length (seg 0 (own.length) own ++
 [(List.getD l (Int.toNat i) ([], (0 : Int), [])).2.1]))) (Int.toNat ((↑(l.length) : Sh.den (Sh.v Go.P7.I)) + (1 : Sh.den (Sh.v Go.P7.I)) - (i + 1)) < Int.toNat ((↑(l.length) : Sh.den (Sh.v Go.P7.I)) + (1 : Sh.den (Sh.v
 Go.P7.I)) - i) ∧ LC.spec Go.P7.lc21a (price, l, seg 0 (names.length + List.length [(List.getD l (Int.toNat i) ([], (0 : Int), [])).1]) (seg 0 (names.length) names ++ [(List.getD l (Int.toNat i) ([], (0 : Int), [])).1]),
 seg 0 (own.length + List.length [(List.getD l (Int.toNat i) ([], (0 : Int), [])).2.1]) (seg 0 (own.length) own ++ [(List.getD l (Int.toNat i) ([], (0 : Int), [])).2.1]), false, i + 1, ()) Q)))))))))))) (req (decide (0 +
 own.length ≤ own.length)) (Q (AX.exit 0) (shSt Go.P7.sh21aE (price, l, seg 0 (own.length) own, ok, ()))))) (req (decide (0 + own.length ≤ own.length)) (Q (AX.exit 0) (shSt Go.P7.sh21aE (price, l, seg 0 (own.length) own,
 ok, ()))))) := by kernel_rfl
abbrev sh21b : Shape := [(0, .v I), (1, .v LPa), (7, .v L), (10, .v I)]
abbrev sh21bE : Shape := [(0, .v I), (1, .v LPa), (7, .v L)]
def ex21b : AX → Option Shape
  | .ret => some shR45
  | _ => some sh21bE
def s21b (price : Int) (l : List Pa) (w : List Int) (i : Int) (Q : LQ) : Prop :=
  (l.length ≤ 8 ∧ 0 ≤ i ∧ i ≤ l.length ∧ (∀ p ∈ l, p.2.2.length ≤ big)) ∧ ((l.drop i.toNat).all (fun p => validD p.2.2) = true → Q (.exit 2) (shSt sh21bE (price, l, w, ()))) ∧ ((l.drop i.toNat).all (fun p => validD p.2.2) = false → Q .ret (shSt shR45 ([], 71, ())))
abbrev lc21b : LC := ⟨sh21b, fun x Q => s21b x.1 x.2.1 x.2.2.1 x.2.2.2.1 Q⟩
theorem v21b (price : Int) (l : List Pa) (w : List Int) (i : Int) (Q : AX → St → Prop) : (xloop Try.prog [(54, fcDues)] [] 5 21 1 lc21b ex21b (fun x => mL x.2.1 x.2.2.2.1) (price, l, w, i, ()) Q) =
  (fork (decide (i < (↑(l.length) : Int))) (req (decide ((0 : Int) ≤ i ∧ i < (↑(l.length) : Int))) (List.length ((List.getD l (Int.toNat i) ([], (0 : Int), [])).2.2) ≤ 9223372036854775807 ∧ fork (!Go.P7.validD ((List.getD l
 (Int.toNat i) ([], (0 : Int), [])).2.2)) (Q AX.ret (shSt Go.P7.shR45 ([], (71 : Int), ()))) (req (inR IntKind.i64 (i + 1)) (Go.P7.mL l (i + 1) < Go.P7.mL l i ∧ LC.spec Go.P7.lc21b (price, l, w, i + 1, ()) Q)))) (Q
 (AX.exit 2) (shSt Go.P7.sh21bE (price, l, w, ())))) := by kernel_rfl
abbrev sh21c : Shape := [(1, .v LPa), (11, .v L), (12, .own TPo), (13, .v I)]
abbrev sh21cE : Shape := [(12, .own TPo)]
def s21c (l : List Pa) (n : List Int) (out : List Po) (i : Int) (Q : LQ) : Prop :=
  (l.length ≤ 8 ∧ n.length = l.length ∧ 0 ≤ i ∧ i ≤ l.length ∧ out.length ≤ i ∧ (∀ p ∈ l, validD p.2.2 = true) ∧ (∀ x ∈ n, 0 ≤ x ∧ x ≤ 34359738368)) ∧
  ∀ o, o = out ++ List.zipWith portion (l.drop i.toNat) (n.drop i.toNat) → Q (.exit 4) (shSt sh21cE (o, ()))
abbrev lc21c : LC := ⟨sh21c, fun x Q => s21c x.1 x.2.1 x.2.2.1 x.2.2.2.1 Q⟩
theorem v21c (l : List Pa) (n : List Int) (out : List Po) (i : Int) (Q : AX → St → Prop) : (xloop Try.prog [(55, fcSpread)] [] 5 21 2 lc21c (one sh21cE) (fun x => mL x.1 x.2.2.2.1) (l, n, out, i, ()) Q) =
  (fork (decide (i < (↑(l.length) : Int))) (req (decide ((0 : Int) ≤ i ∧ i < (↑(l.length) : Int))) (req (decide ((0 : Int) ≤ i ∧ i < (↑(n.length) : Int))) ((Go.P7.validD ((List.getD l (Int.toNat i) ([], (0 : Int), [])).2.2)
 = true ∧ (0 : Int) ≤ List.getD n (Int.toNat i) (0 : Int) ∧ List.getD n (Int.toNat i) (0 : Int) ≤ (34359738368 : Int)) ∧ ∀ (o : List Int) (s' : Int), Go.P7.spreadN ((List.getD l (Int.toNat i) ([], (0 : Int), [])).2.2) 10
 (0 : Int) (List.map (fun x => (0 : Int)) ((List.getD l (Int.toNat i) ([], (0 : Int), [])).2.2)) (List.getD n (Int.toNat i) (0 : Int)) = (o, s') → req (decide ((0 : Int) ≤ i ∧ i < (↑(n.length) : Int))) (req (decide (0 +
 out.length ≤ out.length)) (req (fitsN (out.length + List.length (seg 0 1 [(List.getD n (Int.toNat i) (0 : Int), o, s')])) 40) (req (inR IntKind.i64 (i + 1)) (req (decide (0 + (out.length + List.length (seg 0 1 [(List.getD
 n (Int.toNat i) (0 : Int), o, s')])) ≤ List.length (seg 0 (out.length) out ++ seg 0 1 [(List.getD n (Int.toNat i) (0 : Int), o, s')]))) (Go.P7.mL l (i + 1) < Go.P7.mL l i ∧ LC.spec Go.P7.lc21c (l, n, seg 0 (out.length +
 List.length (seg 0 1 [(List.getD n (Int.toNat i) (0 : Int), o, s')])) (seg 0 (out.length) out ++ seg 0 1 [(List.getD n (Int.toNat i) (0 : Int), o, s')]), i + 1, ()) Q)))))))) (req (decide (0 + out.length ≤ out.length)) (Q
 (AX.exit 4) (shSt Go.P7.sh21cE (seg 0 (out.length) out, ()))))) := by kernel_rfl
theorem v21F (price : Int) (l : List Pa) (K : dens [LPo, E] → Prop) : (xfn Try.prog [(24, fcFrom), (50, fc47), (51, fcShare)] [(21, 0, lc21a), (21, 1, lc21b), (21, 2, lc21c)] 5 21 fcPort (price, l, ()) K) =
  (fork (!decide ((0 : Int) ≤ price ∧ price ≤ (67108864 : Int))) (K ([], (7 : Int), ())) ((l.length ≤ 9223372036854775807 ∧ (0 : Int) ≤ (0 : Int) ∧ (decide ((1 : Int) ≤ (↑(l.length) : Int) ∧ (↑(l.length) : Int) ≤ (8 : Int))
 = true → l.length ≤ 8 ∧ (0 : Int) ≤ (↑(l.length) : Int) ∧ [] = List.map (fun x => x.1) (List.take 0 l)) ∧ 0 ≤ 8 ∧ (0 : Int) ≤ (0 : Int) ∧ ∀ (p : Go.P7.Pa), p ∈ l → List.length (p.1) ≤ 9223372036854775807) ∧ ∀ (o : List
 Int) (r : Bool), r = (decide ((1 : Int) ≤ (↑(l.length) : Int) ∧ (↑(l.length) : Int) ≤ (8 : Int)) && Go.P7.scanOk (List.take 0 l) (List.drop 0 l)) → o.length ≤ 8 → (r = true → o = [] ++ Go.P7.vals7 (List.drop 0 l)) → fork
 (!r) (K ([], (72 : Int), ())) (req (decide (0 + o.length ≤ o.length)) (List.length (seg 0 (o.length) o) ≤ 9223372036854775807 ∧ fork (!Go.P7.validW (seg 0 (o.length) o)) (K ([], (72 : Int), ())) (req (decide (0 + o.length
 ≤ o.length)) ((l.length ≤ 8 ∧ (0 : Int) ≤ (0 : Int) ∧ (0 : Int) ≤ (↑(l.length) : Int) ∧ ∀ (p : Go.P7.Pa), p ∈ l → List.length (p.2.2) ≤ 9223372036854775807) ∧ ((List.all (List.drop 0 l) fun p => Go.P7.validD (p.2.2)) =
 true → (Go.P7.preW (seg 0 (o.length) o) ∧ (0 : Int) ≤ price ∧ price ≤ (34359738368 : Int)) ∧ ∀ (r : List Int), r = Go.P7.shareL (seg 0 (o.length) o) price → (l.length ≤ 8 ∧ r.length = l.length ∧ (0 : Int) ≤ (0 : Int) ∧ (0
 : Int) ≤ (↑(l.length) : Int) ∧ (0 : Int) ≤ (0 : Int) ∧ (∀ (p : Go.P7.Pa), p ∈ l → Go.P7.validD (p.2.2) = true) ∧ ∀ (x : Int), x ∈ r → (0 : Int) ≤ x ∧ x ≤ (34359738368 : Int)) ∧ ∀ (o : List Go.P7.Po), o = [] ++
 List.zipWith Go.P7.portion (List.drop 0 l) (List.drop 0 r) → req (decide (0 + o.length ≤ o.length)) (K (seg 0 (o.length) o, (0 : Int), ()))) ∧ ((List.all (List.drop 0 l) fun p => Go.P7.validD (p.2.2)) = false → K ([], (71
 : Sh.den (Sh.v Go.P7.I)), ())))))))) := by kernel_rfl

/-! comparison; the laws -/
abbrev sh22 : Shape := [(0, .v LPo), (1, .v LPo), (5, .v I)]
def ex22 : AX → Option Shape
  | .ret => some shR4b
  | _ => some []
where shR4b : Shape := [(4, .v .b)]
def s22L (a b : List Po) (i : Int) (Q : LQ) : Prop := (a.length ≤ big ∧ a.length = b.length ∧ 0 ≤ i ∧ i ≤ a.length ∧ ∀ x ∈ a, x.2.1.length ≤ big) ∧ (a.drop i.toNat = b.drop i.toNat → Q (.exit 0) (shSt [] ())) ∧ (a.drop i.toNat ≠ b.drop i.toNat → Q .ret (shSt ex22.shR4b (false, ())))
abbrev lc22 : LC := ⟨sh22, fun x Q => s22L x.1 x.2.1 x.2.2.1 Q⟩
theorem v22L (a b : List Po) (i : Int) (Q : AX → St → Prop) : (xloop Try.prog [(16, fcSame)] [] 5 22 0 lc22 ex22 (fun x => mL x.1 x.2.2.1) (a, b, i, ()) Q) =
  (fork (decide (i < (↑(a.length) : Int))) (req (decide ((0 : Int) ≤ i ∧ i < (↑(a.length) : Int))) (req (decide ((0 : Int) ≤ i ∧ i < (↑(b.length) : Int))) (fork ((List.getD a (Int.toNat i) ((0 : Int), [], (0 : Int))).1 !=
 (List.getD b (Int.toNat i) ((0 : Int), [], (0 : Int))).1) (Q AX.ret (shSt Go.P7.ex22.shR4b (false, ()))) (req (decide ((0 : Int) ≤ i ∧ i < (↑(a.length) : Int))) (req (decide ((0 : Int) ≤ i ∧ i < (↑(b.length) : Int)))
 (fork ((List.getD a (Int.toNat i) ((0 : Int), [], (0 : Int))).2.2 != (List.getD b (Int.toNat i) ((0 : Int), [], (0 : Int))).2.2) (Q AX.ret (shSt Go.P7.ex22.shR4b (false, ()))) (req (decide ((0 : Int) ≤ i ∧ i <
 (↑(a.length) : Int))) (req (decide ((0 : Int) ≤ i ∧ i < (↑(b.length) : Int))) (List.length ((List.getD a (Int.toNat i) ((0 : Int), [], (0 : Int))).2.1) ≤ 9223372036854775807 ∧ fork (!decide ((List.getD a (Int.toNat i) ((0
 : Int), [], (0 : Int))).2.1 = (List.getD b (Int.toNat i) ((0 : Int), [], (0 : Int))).2.1)) (Q AX.ret (shSt Go.P7.ex22.shR4b (false, ()))) (req (inR IntKind.i64 (i + 1)) (Go.P7.mL a (i + 1) < Go.P7.mL a i ∧ LC.spec
 Go.P7.lc22 (a, b, i + 1, ()) Q))))))))))) (Q (AX.exit 0) (shSt [] ()))) := by kernel_rfl
def sSameP (a b : List Po) (K : Bool → Prop) : Prop := (a.length ≤ big ∧ ∀ x ∈ a, x.2.1.length ≤ big) ∧ K (decide (a = b))
abbrev fcSameP : FC := ⟨[.v LPo, .v LPo], [.b], fun x K => sSameP x.1 x.2.1 fun r => K (r, ())⟩
theorem v22F (a b : List Po) (K : dens [.b] → Prop) : (xfn Try.prog [] [(22, 0, lc22)] 5 22 fcSameP (a, b, ()) K) =
  (fork ((↑(a.length) : Int) != (↑(b.length) : Int)) (K (false, ())) ((a.length ≤ 9223372036854775807 ∧ a.length = b.length ∧ (0 : Int) ≤ (0 : Int) ∧ (0 : Int) ≤ (↑(a.length) : Int) ∧ ∀ (x : Go.P7.Po), x ∈ a → List.length
 (x.2.1) ≤ 9223372036854775807) ∧ (List.drop 0 a = List.drop 0 b → K (true, ())) ∧ (List.drop 0 a ≠ List.drop 0 b → K (false, ())))) := by kernel_rfl
end Go.P7
