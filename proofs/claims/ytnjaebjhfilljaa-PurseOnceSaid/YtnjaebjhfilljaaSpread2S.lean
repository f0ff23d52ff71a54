/- Spreading, the specification's side: states and what is to be shown, reduced. No conditions. -/
import Derived.Test.YtnjaebjhfilljaaSpreadS
set_option linter.unusedSimpArgs false
set_option linter.unusedVariables false
set_option linter.constructorNameAsVariable false
set_option maxRecDepth 100000
namespace Go.P7
open Go.Lom Go.Proofs Go

def amt (r : Int) (d : Int × Int) : Int := if d.1 = r then d.2 else 0
def ownR (l : List (Int × Int)) (r : Int) : List Int := l.map (amt r)
def partR (l : List (Int × Int)) (r left : Int) : List Int := if (ownR l r).sum > left then shareL (ownR l r) left else ownR l r
def addL (a b : List Int) : List Int := List.zipWith (· + ·) a b
def spreadN (l : List (Int × Int)) : Nat → Int → List Int → Int → List Int × Int
  | 0, _, out, left => (out, left)
  | n + 1, r, out, left => spreadN l n (r + 1) (addL out (partR l r left)) (left - (partR l r left).sum)
abbrev sh55b : Shape := [(0, .v LD), (1, .v I), (6, .own I), (7, .v I), (8, .own I), (9, .v I)]
abbrev sh55bE : Shape := [(0, .v LD), (1, .v I), (6, .own I), (7, .v I), (8, .own I)]
def s55b (l : List (Int × Int)) (s : Int) (out : List Int) (r : Int) (own : List Int) (i : Int) (Q : LQ) : Prop :=
  (0 ≤ i ∧ i ≤ l.length ∧ l.length ≤ 24 ∧ own.length = l.length) ∧ ∀ o, o = own.take i.toNat ++ List.zipWith (fun d x => if d.1 = r then d.2 else x) (l.drop i.toNat) (own.drop i.toNat) → Q (.exit 2) (shSt sh55bE (l, s, out, r, o, ()))
abbrev lc55b : LC := ⟨sh55b, fun x Q => s55b x.1 x.2.1 x.2.2.1 x.2.2.2.1 x.2.2.2.2.1 x.2.2.2.2.2.1 Q⟩
theorem v55b (l : List (Int × Int)) (s : Int) (out : List Int) (r : Int) (own : List Int) (i : Int) (Q : AX → St → Prop) : (xloop Try.prog [] [] 5 55 1 lc55b (one sh55bE) (fun x => mLenD x.1 x.2.2.2.2.2.1) (l, s, out, r, own, i, ()) Q) =
  (fork (decide (i < (↑(l.length) : Int))) (req (decide ((0 : Int) ≤ i ∧ i < (↑(l.length) : Int))) (fork ((List.getD l (Int.toNat i) ((0 : Int), (0 : Int))).1 == r) (req (decide ((0 : Int) ≤ i ∧ i < (↑(l.length) : Int)))
 (req (decide ((0 : Int) ≤ i ∧ i < (↑(own.length) : Int))) (req (decide (Int.toNat i < own.length)) (req (inR IntKind.i64 (i + 1)) (req (decide (0 + out.length ≤ out.length)) (req (decide (0 + own.length ≤ List.length
 (List.set own (Int.toNat i) ((List.getD l (Int.toNat i) ((0 : Int), (0 : Int))).2)))) (Go.P7.mLenD l (i + 1) < Go.P7.mLenD l i ∧ LC.spec Go.P7.lc55b (l, s, seg 0 (out.length) out, r, seg 0 (own.length) (List.set own
 (Int.toNat i) ((List.getD l (Int.toNat i) ((0 : Int), (0 : Int))).2)), i + 1, ()) Q))))))) (req (inR IntKind.i64 (i + 1)) (req (decide (0 + out.length ≤ out.length)) (req (decide (0 + own.length ≤ own.length))
 (Go.P7.mLenD l (i + 1) < Go.P7.mLenD l i ∧ LC.spec Go.P7.lc55b (l, s, seg 0 (out.length) out, r, seg 0 (own.length) own, i + 1, ()) Q)))))) (req (decide (0 + out.length ≤ out.length)) (req (decide (0 + own.length ≤
 own.length)) (Q (AX.exit 2) (shSt Go.P7.sh55bE (l, s, seg 0 (out.length) out, r, seg 0 (own.length) own, ())))))) := by kernel_rfl
abbrev sh55c : Shape := [(0, .v LD), (1, .v I), (6, .own I), (7, .v I), (8, .v L), (10, .v I)]
abbrev sh55cE : Shape := [(0, .v LD), (1, .v I), (6, .own I), (7, .v I), (8, .v L)]
def s55c (l : List (Int × Int)) (s : Int) (out : List Int) (r : Int) (own : List Int) (i : Int) (Q : LQ) : Prop :=
  (0 ≤ i ∧ i ≤ l.length ∧ l.length ≤ 24 ∧ own.length = l.length ∧ out.length = l.length ∧ (∀ x ∈ own, 0 ≤ x ∧ x ≤ 67108864) ∧ ∀ x ∈ out.drop i.toNat, 0 ≤ x ∧ x ≤ 1073741824) ∧ ∀ o, o = out.take i.toNat ++ addL (out.drop i.toNat) (own.drop i.toNat) → Q (.exit 4) (shSt sh55cE (l, s, o, r, own, ()))
abbrev lc55c : LC := ⟨sh55c, fun x Q => s55c x.1 x.2.1 x.2.2.1 x.2.2.2.1 x.2.2.2.2.1 x.2.2.2.2.2.1 Q⟩
theorem v55c (l : List (Int × Int)) (s : Int) (out : List Int) (r : Int) (own : List Int) (i : Int) (Q : AX → St → Prop) : (xloop Try.prog [] [] 5 55 2 lc55c (one sh55cE) (fun x => mLenD x.1 x.2.2.2.2.2.1) (l, s, out, r, own, i, ()) Q) =
  (fork (decide (i < (↑(l.length) : Int))) (req (decide ((0 : Int) ≤ i ∧ i < (↑(out.length) : Int))) (req (decide (Int.toNat i < out.length)) (req (decide ((0 : Int) ≤ i ∧ i < (↑(own.length) : Int))) (req (inR IntKind.i64
 (List.getD out (Int.toNat i) (0 : Int) + List.getD own (Int.toNat i) (0 : Int))) (req (decide ((0 : Int) ≤ i ∧ i < (↑(out.length) : Int))) (req (decide (Int.toNat i < out.length)) (req (inR IntKind.i64 (i + 1)) (req
 (decide (0 + out.length ≤ List.length (List.set out (Int.toNat i) (List.getD out (Int.toNat i) (0 : Int) + List.getD own (Int.toNat i) (0 : Int))))) (Go.P7.mLenD l (i + 1) < Go.P7.mLenD l i ∧ LC.spec Go.P7.lc55c (l, s,
 seg 0 (out.length) (List.set out (Int.toNat i) (List.getD out (Int.toNat i) (0 : Int) + List.getD own (Int.toNat i) (0 : Int))), r, own, i + 1, ()) Q))))))))) (req (decide (0 + out.length ≤ out.length)) (Q (AX.exit 4)
 (shSt Go.P7.sh55cE (l, s, seg 0 (out.length) out, r, own, ()))))) := by kernel_rfl
abbrev sh55a : Shape := [(0, .v LD), (1, .v I), (6, .own I), (7, .v I)]
abbrev sh55aE : Shape := [(1, .v I), (6, .own I)]
def s55a (l : List (Int × Int)) (s : Int) (out : List Int) (r : Int) (Q : LQ) : Prop :=
  (validD l = true ∧ 0 ≤ s ∧ s ≤ 34359738368 ∧ 0 ≤ r ∧ r ≤ 10 ∧ out.length = l.length ∧ ∀ x ∈ out, 0 ≤ x ∧ x ≤ r * 67108864) ∧ ∀ o s', spreadN l (10 - r).toNat r out s = (o, s') → Q (.exit 0) (shSt sh55aE (s', o, ()))
abbrev lc55a : LC := ⟨sh55a, fun x Q => s55a x.1 x.2.1 x.2.2.1 x.2.2.2.1 Q⟩
theorem v55a (l : List (Int × Int)) (s : Int) (out : List Int) (r : Int) (Q : AX → St → Prop) : (xloop Try.prog [(23, fcSum), (51, fcShare)] [(55, 1, lc55b), (55, 2, lc55c)] 5 55 0 lc55a (one sh55aE) (fun x => (10 - x.2.2.2.1).toNat) (l, s, out, r, ()) Q) =
  (fork (decide (r ≤ (9 : Int))) (req (decide ((0 : Int) ≤ (↑(l.length) : Int) ∧ (↑(l.length) : Int) ≤ (↑(l.length) : Int) ∧ (8 : Int) * (↑(l.length) : Int) ≤ (281474976710656 : Int) ∧ (↑(l.length) : Int) ≤ (281474976710656
 : Int))) (req (decide (0 + out.length ≤ out.length)) (req (decide (0 + Int.toNat (↑(l.length) : Int) ≤ List.length (List.replicate (Int.toNat (↑(l.length) : Int)) (0 : Int)))) (((0 : Int) ≤ (0 : Int) ∧ (0 : Int) ≤
 (↑(l.length) : Int) ∧ l.length ≤ 24 ∧ List.length (seg 0 (Int.toNat (↑(l.length) : Int)) (List.replicate (Int.toNat (↑(l.length) : Int)) (0 : Int))) = l.length) ∧ ∀ (o : List Int), o = List.take 0 (seg 0 (Int.toNat
 (↑(l.length) : Int)) (List.replicate (Int.toNat (↑(l.length) : Int)) (0 : Int))) ++ List.zipWith (fun d x => if d.1 = r then d.2 else x) (List.drop 0 l) (List.drop 0 (seg 0 (Int.toNat (↑(l.length) : Int)) (List.replicate
 (Int.toNat (↑(l.length) : Int)) (0 : Int)))) → req (decide (0 + o.length ≤ o.length)) ((List.length (seg 0 (o.length) o) ≤ 9223372036854775807 ∧ Go.P7.fitS (0 : Int) (seg 0 (o.length) o)) ∧ fork (decide (List.sum (seg 0
 (o.length) o) > s)) (req (decide (0 + o.length ≤ o.length)) ((Go.P7.preW (seg 0 (o.length) o) ∧ (0 : Int) ≤ s ∧ s ≤ (34359738368 : Int)) ∧ ∀ (r_1 : List Int), r_1 = Go.P7.shareL (seg 0 (o.length) o) s → req (decide (0 +
 List.length (seg 0 (out.length) out) ≤ List.length (seg 0 (out.length) out))) (((0 : Int) ≤ (0 : Int) ∧ (0 : Int) ≤ (↑(l.length) : Int) ∧ l.length ≤ 24 ∧ r_1.length = l.length ∧ List.length (seg 0 (List.length (seg 0
 (out.length) out)) (seg 0 (out.length) out)) = l.length ∧ (∀ (x : Int), x ∈ r_1 → (0 : Int) ≤ x ∧ x ≤ (67108864 : Int)) ∧ ∀ (x : Int), x ∈ List.drop 0 (seg 0 (List.length (seg 0 (out.length) out)) (seg 0 (out.length)
 out)) → (0 : Int) ≤ x ∧ x ≤ (1073741824 : Int)) ∧ ∀ (o : List Int), o = List.take 0 (seg 0 (List.length (seg 0 (out.length) out)) (seg 0 (out.length) out)) ++ Go.P7.addL (List.drop 0 (seg 0 (List.length (seg 0
 (out.length) out)) (seg 0 (out.length) out))) (List.drop 0 r_1) → (r_1.length ≤ 9223372036854775807 ∧ Go.P7.fitS (0 : Int) r_1) ∧ req (inR IntKind.i64 (s - List.sum r_1)) (req (inR IntKind.i64 (r + 1)) (req (decide (0 +
 o.length ≤ o.length)) (Int.toNat ((10 : Sh.den (Sh.v Go.P7.I)) - (r + 1)) < Int.toNat ((10 : Sh.den (Sh.v Go.P7.I)) - r) ∧ LC.spec Go.P7.lc55a (l, s - List.sum r_1, seg 0 (o.length) o, r + 1, ()) Q)))))) (req (decide (0 +
 List.length (seg 0 (out.length) out) ≤ List.length (seg 0 (out.length) out))) (req (decide (0 + o.length ≤ o.length)) (((0 : Int) ≤ (0 : Int) ∧ (0 : Int) ≤ (↑(l.length) : Int) ∧ l.length ≤ 24 ∧ List.length (seg 0
 (o.length) o) = l.length ∧ List.length (seg 0 (List.length (seg 0 (out.length) out)) (seg 0 (out.length) out)) = l.length ∧ (∀ (x : Int), x ∈ seg 0 (o.length) o → (0 : Int) ≤ x ∧ x ≤ (67108864 : Int)) ∧ ∀ (x : Int), x ∈
 List.drop 0 (seg 0 (List.length (seg 0 (out.length) out)) (seg 0 (out.length) out)) → (0 : Int) ≤ x ∧ x ≤ (1073741824 : Int)) ∧ ∀ (o_1 : List Int), o_1 = List.take 0 (seg 0 (List.length (seg 0 (out.length) out)) (seg 0
 (out.length) out)) ++ Go.P7.addL (List.drop 0 (seg 0 (List.length (seg 0 (out.length) out)) (seg 0 (out.length) out))) (List.drop 0 (seg 0 (o.length) o)) → (List.length (seg 0 (o.length) o) ≤ 9223372036854775807 ∧
 Go.P7.fitS (0 : Int) (seg 0 (o.length) o)) ∧ req (inR IntKind.i64 (s - List.sum (seg 0 (o.length) o))) (req (inR IntKind.i64 (r + 1)) (req (decide (0 + o_1.length ≤ o_1.length)) (Int.toNat ((10 : Sh.den (Sh.v Go.P7.I)) -
 (r + 1)) < Int.toNat ((10 : Sh.den (Sh.v Go.P7.I)) - r) ∧ LC.spec Go.P7.lc55a (l, s - List.sum (seg 0 (o.length) o), seg 0 (o_1.length) o_1, r + 1, ()) Q))))))))))) (req (decide (0 + out.length ≤ out.length)) (Q (AX.exit
 0) (shSt Go.P7.sh55aE (s, seg 0 (out.length) out, ()))))) := by kernel_rfl
def sSpread (l : List (Int × Int)) (s : Int) (K : List Int → Int → Prop) : Prop := (validD l = true ∧ 0 ≤ s ∧ s ≤ 34359738368) ∧ ∀ o s', spreadN l 10 0 (l.map fun _ => 0) s = (o, s') → K o s'
abbrev fcSpread : FC := ⟨[.v LD, .v I], [L, I], fun x K => sSpread x.1 x.2.1 fun o s => K (o, s, ())⟩
theorem v55F (l : List (Int × Int)) (s : Int) (K : dens [L, I] → Prop) : (xfn Try.prog [] [(55, 0, lc55a)] 5 55 fcSpread (l, s, ()) K) =
  (req (decide ((0 : Int) ≤ (↑(l.length) : Int) ∧ (↑(l.length) : Int) ≤ (↑(l.length) : Int) ∧ (8 : Int) * (↑(l.length) : Int) ≤ (281474976710656 : Int) ∧ (↑(l.length) : Int) ≤ (281474976710656 : Int))) (req (decide (0 +
 Int.toNat (↑(l.length) : Int) ≤ List.length (List.replicate (Int.toNat (↑(l.length) : Int)) (0 : Int)))) ((Go.P7.validD l = true ∧ (0 : Int) ≤ s ∧ s ≤ (34359738368 : Int) ∧ (0 : Int) ≤ (0 : Int) ∧ (0 : Int) ≤ (10 : Int) ∧
 List.length (seg 0 (Int.toNat (↑(l.length) : Int)) (List.replicate (Int.toNat (↑(l.length) : Int)) (0 : Int))) = l.length ∧ ∀ (x : Int), x ∈ seg 0 (Int.toNat (↑(l.length) : Int)) (List.replicate (Int.toNat (↑(l.length) :
 Int)) (0 : Int)) → (0 : Int) ≤ x ∧ x ≤ (0 : Int)) ∧ ∀ (o : List Int) (s' : Int), Go.P7.spreadN l 10 (0 : Int) (seg 0 (Int.toNat (↑(l.length) : Int)) (List.replicate (Int.toNat (↑(l.length) : Int)) (0 : Int))) s = (o, s')
 → req (decide (0 + o.length ≤ o.length)) (K (seg 0 (o.length) o, s', ()))))) := by kernel_rfl
end Go.P7
