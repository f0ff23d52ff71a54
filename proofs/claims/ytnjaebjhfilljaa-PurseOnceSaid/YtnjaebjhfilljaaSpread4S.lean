/- Spreading, the program's side: states and what is to be shown, reduced. No conditions. -/
import Derived.Test.YtnjaebjhfilljaaSpread2S
set_option linter.unusedSimpArgs false
set_option linter.unusedVariables false
set_option linter.constructorNameAsVariable false
set_option maxRecDepth 100000
namespace Go.P7
open Go.Lom Go.Proofs Go

def amtAt (l : List (Int × Int)) (k : Int) : Int := (l.getD k.toNat ((0 : Int), (0 : Int))).2
def scat : List Int → List Int → List Int → List Int
  | p, k :: ks, x :: xs => scat (p.set k.toNat x) ks xs
  | p, _, _ => p
abbrev sh53b : Shape := [(0, .v LD), (1, .v I), (6, .own I), (8, .v L), (9, .own I), (18, .v I), (25, .v L), (26, .v I), (27, .v I)]
abbrev sh53bE : Shape := [(0, .v LD), (1, .v I), (6, .own I), (8, .v L), (9, .own I), (18, .v I)]
def s53b (l : List (Int × Int)) (s : Int) (out here own : List Int) (r : Int) (h2 : List Int) (m i : Int) (Q : LQ) : Prop :=
  (0 ≤ i ∧ i ≤ h2.length ∧ m = h2.length ∧ h2.length ≤ 24 ∧ own.length ≤ i ∧ ∀ k ∈ h2, 0 ≤ k ∧ k < l.length) ∧ ∀ o, o = own ++ (h2.drop i.toNat).map (amtAt l) → Q (.exit 2) (shSt sh53bE (l, s, out, here, o, r, ()))
abbrev lc53b : LC := ⟨sh53b, fun x Q => s53b x.1 x.2.1 x.2.2.1 x.2.2.2.1 x.2.2.2.2.1 x.2.2.2.2.2.1 x.2.2.2.2.2.2.1 x.2.2.2.2.2.2.2.1 x.2.2.2.2.2.2.2.2.1 Q⟩
theorem v53b (l : List (Int × Int)) (s : Int) (out here own : List Int) (r : Int) (h2 : List Int) (m i : Int) (Q : AX → St → Prop) : (xloop Try.prog [] [] 5 53 1 lc53b (one sh53bE) (fun x => mLen x.2.2.2.2.2.2.1 x.2.2.2.2.2.2.2.2.1) (l, s, out, here, own, r, h2, m, i, ()) Q) =
  (fork (decide (i < m)) (req (decide ((0 : Int) ≤ i ∧ i < (↑(h2.length) : Int))) (req (decide ((0 : Int) ≤ List.getD h2 (Int.toNat i) (0 : Int) ∧ List.getD h2 (Int.toNat i) (0 : Int) < (↑(l.length) : Int))) (req (decide (0
 + own.length ≤ own.length)) (req (fitsN (own.length + List.length (seg 0 1 [(List.getD l (Int.toNat (List.getD h2 (Int.toNat i) (0 : Int))) ((0 : Int), (0 : Int))).2])) 8) (req (inR IntKind.i64 (i + 1)) (req (decide (0 +
 out.length ≤ out.length)) (req (decide (0 + (own.length + List.length (seg 0 1 [(List.getD l (Int.toNat (List.getD h2 (Int.toNat i) (0 : Int))) ((0 : Int), (0 : Int))).2])) ≤ List.length (seg 0 (own.length) own ++ seg 0 1
 [(List.getD l (Int.toNat (List.getD h2 (Int.toNat i) (0 : Int))) ((0 : Int), (0 : Int))).2]))) (Go.P7.mLen h2 (i + 1) < Go.P7.mLen h2 i ∧ LC.spec Go.P7.lc53b (l, s, seg 0 (out.length) out, here, seg 0 (own.length +
 List.length (seg 0 1 [(List.getD l (Int.toNat (List.getD h2 (Int.toNat i) (0 : Int))) ((0 : Int), (0 : Int))).2])) (seg 0 (own.length) own ++ seg 0 1 [(List.getD l (Int.toNat (List.getD h2 (Int.toNat i) (0 : Int))) ((0 :
 Int), (0 : Int))).2]), r, h2, m, i + 1, ()) Q)))))))) (req (decide (0 + out.length ≤ out.length)) (req (decide (0 + own.length ≤ own.length)) (Q (AX.exit 2) (shSt Go.P7.sh53bE (l, s, seg 0 (out.length) out, here, seg 0
 (own.length) own, r, ())))))) := by kernel_rfl
abbrev sh53c : Shape := [(0, .v LD), (1, .v I), (6, .own I), (9, .v L), (12, .v I), (18, .v I), (50, .v L), (51, .v I), (52, .v I)]
abbrev sh53cE : Shape := [(0, .v LD), (1, .v I), (6, .own I), (12, .v I), (18, .v I)]
def s53c (l : List (Int × Int)) (s : Int) (out own : List Int) (w r : Int) (h2 : List Int) (m i : Int) (Q : LQ) : Prop :=
  (0 ≤ i ∧ i ≤ h2.length ∧ m = h2.length ∧ h2.length ≤ 24 ∧ own.length = h2.length ∧ ∀ k ∈ h2, 0 ≤ k ∧ k < out.length) ∧ ∀ o, o = scat out (h2.drop i.toNat) (own.drop i.toNat) → Q (.exit 4) (shSt sh53cE (l, s, o, w, r, ()))
abbrev lc53c : LC := ⟨sh53c, fun x Q => s53c x.1 x.2.1 x.2.2.1 x.2.2.2.1 x.2.2.2.2.1 x.2.2.2.2.2.1 x.2.2.2.2.2.2.1 x.2.2.2.2.2.2.2.1 x.2.2.2.2.2.2.2.2.1 Q⟩
theorem v53c (l : List (Int × Int)) (s : Int) (out own : List Int) (w r : Int) (h2 : List Int) (m i : Int) (Q : AX → St → Prop) : (xloop Try.prog [] [] 5 53 2 lc53c (one sh53cE) (fun x => mLen x.2.2.2.2.2.2.1 x.2.2.2.2.2.2.2.2.1) (l, s, out, own, w, r, h2, m, i, ()) Q) =
  (fork (decide (i < m)) (req (decide ((0 : Int) ≤ i ∧ i < (↑(h2.length) : Int))) (req (decide ((0 : Int) ≤ i ∧ i < (↑(own.length) : Int))) (req (decide ((0 : Int) ≤ List.getD h2 (Int.toNat i) (0 : Int) ∧ List.getD h2
 (Int.toNat i) (0 : Int) < (↑(out.length) : Int))) (req (decide (Int.toNat (List.getD h2 (Int.toNat i) (0 : Int)) < out.length)) (req (inR IntKind.i64 (i + 1)) (req (decide (0 + out.length ≤ List.length (List.set out
 (Int.toNat (List.getD h2 (Int.toNat i) (0 : Int))) (List.getD own (Int.toNat i) (0 : Int))))) (Go.P7.mLen h2 (i + 1) < Go.P7.mLen h2 i ∧ LC.spec Go.P7.lc53c (l, s, seg 0 (out.length) (List.set out (Int.toNat (List.getD h2
 (Int.toNat i) (0 : Int))) (List.getD own (Int.toNat i) (0 : Int))), own, w, r, h2, m, i + 1, ()) Q))))))) (req (decide (0 + out.length ≤ out.length)) (Q (AX.exit 4) (shSt Go.P7.sh53cE (l, s, seg 0 (out.length) out, w, r,
 ()))))) := by kernel_rfl
abbrev sh53a : Shape := [(0, .v LD), (1, .v I), (6, .own I), (18, .v I)]
abbrev sh53aE : Shape := [(1, .v I), (6, .own I)]
/-- What is not paid yet, of the ranks from one on. -/
def unpaid (l : List (Int × Int)) (r : Int) (out : List Int) : Prop := ∀ k : Nat, k < l.length → r ≤ (l.getD k ((0 : Int), (0 : Int))).1 → out.getD k 0 = 0
def s53a (l : List (Int × Int)) (s : Int) (out : List Int) (r : Int) (Q : LQ) : Prop :=
  (validD l = true ∧ 0 ≤ s ∧ s ≤ 34359738368 ∧ 0 ≤ r ∧ r ≤ 10 ∧ out.length = l.length ∧ unpaid l r out) ∧ ∀ o s', spreadN l (10 - r).toNat r out s = (o, s') → Q (.exit 0) (shSt sh53aE (s', o, ()))
abbrev lc53a : LC := ⟨sh53a, fun x Q => s53a x.1 x.2.1 x.2.2.1 x.2.2.2.1 Q⟩
theorem v53a (l : List (Int × Int)) (s : Int) (out : List Int) (r : Int) (Q : AX → St → Prop) : (xloop Try.prog [(85, fc85), (80, fcSum), (49, fcShare)] [(53, 1, lc53b), (53, 2, lc53c)] 5 53 0 lc53a (one sh53aE) (fun x => (10 - x.2.2.2.1).toNat) (l, s, out, r, ()) Q) =
  (fork (decide (r < (10 : Int))) (l.length ≤ 24 ∧ ∀ (o : List Int), o = Go.P7.idxR r l (0 : Int) → req (decide (0 + out.length ≤ out.length)) (((0 : Int) ≤ (0 : Int) ∧ (0 : Int) ≤ (↑(o.length) : Int) ∧ (↑(o.length) : Int)
 = (↑(o.length) : Int) ∧ o.length ≤ 24 ∧ (0 : Int) ≤ (0 : Int) ∧ ∀ (k : Int), k ∈ o → (0 : Int) ≤ k ∧ k < (↑(l.length) : Int)) ∧ ∀ (o_1 : List Int), o_1 = [] ++ List.map (Go.P7.amtAt l) (List.drop 0 o) → req (decide (0 +
 o_1.length ≤ o_1.length)) ((List.length (seg 0 (o_1.length) o_1) ≤ 9223372036854775807 ∧ Go.P7.fitS (0 : Int) (seg 0 (o_1.length) o_1)) ∧ fork (List.sum (seg 0 (o_1.length) o_1) == (0 : Int)) (req (inR IntKind.i64 (r +
 1)) (req (decide (0 + List.length (seg 0 (out.length) out) ≤ List.length (seg 0 (out.length) out))) (Int.toNat ((10 : Sh.den (Sh.v Go.P7.I)) - (r + 1)) < Int.toNat ((10 : Sh.den (Sh.v Go.P7.I)) - r) ∧ LC.spec Go.P7.lc53a
 (l, s, seg 0 (List.length (seg 0 (out.length) out)) (seg 0 (out.length) out), r + 1, ()) Q))) (fork (decide (s < List.sum (seg 0 (o_1.length) o_1))) (req (decide (0 + o_1.length ≤ o_1.length)) ((Go.P7.preW (seg 0
 (o_1.length) o_1) ∧ (0 : Int) ≤ s ∧ s ≤ (34359738368 : Int)) ∧ ∀ (r_1 : List Int), r_1 = Go.P7.shareL (seg 0 (o_1.length) o_1) s → req (decide (0 + List.length (seg 0 (out.length) out) ≤ List.length (seg 0 (out.length)
 out))) (((0 : Int) ≤ (0 : Int) ∧ (0 : Int) ≤ (↑(o.length) : Int) ∧ (↑(o.length) : Int) = (↑(o.length) : Int) ∧ o.length ≤ 24 ∧ r_1.length = o.length ∧ ∀ (k : Int), k ∈ o → (0 : Int) ≤ k ∧ k < (↑(List.length (seg 0
 (List.length (seg 0 (out.length) out)) (seg 0 (out.length) out))) : Int)) ∧ ∀ (o_2 : List Int), o_2 = Go.P7.scat (seg 0 (List.length (seg 0 (out.length) out)) (seg 0 (out.length) out)) (List.drop 0 o) (List.drop 0 r_1) →
 req (inR IntKind.i64 (s - if List.sum (seg 0 (o_1.length) o_1) < s then List.sum (seg 0 (o_1.length) o_1) else s)) (req (inR IntKind.i64 (r + 1)) (req (decide (0 + o_2.length ≤ o_2.length)) (Int.toNat ((10 : Sh.den (Sh.v
 Go.P7.I)) - (r + 1)) < Int.toNat ((10 : Sh.den (Sh.v Go.P7.I)) - r) ∧ LC.spec Go.P7.lc53a (l, s - if List.sum (seg 0 (o_1.length) o_1) < s then List.sum (seg 0 (o_1.length) o_1) else s, seg 0 (o_2.length) o_2, r + 1, ())
 Q)))))) (req (decide (0 + List.length (seg 0 (out.length) out) ≤ List.length (seg 0 (out.length) out))) (req (decide (0 + o_1.length ≤ o_1.length)) (((0 : Int) ≤ (0 : Int) ∧ (0 : Int) ≤ (↑(o.length) : Int) ∧ (↑(o.length)
 : Int) = (↑(o.length) : Int) ∧ o.length ≤ 24 ∧ List.length (seg 0 (o_1.length) o_1) = o.length ∧ ∀ (k : Int), k ∈ o → (0 : Int) ≤ k ∧ k < (↑(List.length (seg 0 (List.length (seg 0 (out.length) out)) (seg 0 (out.length)
 out))) : Int)) ∧ ∀ (o_2 : List Int), o_2 = Go.P7.scat (seg 0 (List.length (seg 0 (out.length) out)) (seg 0 (out.length) out)) (List.drop 0 o) (List.drop 0 (seg 0 (o_1.length) o_1)) → req (inR IntKind.i64 (s - if List.sum
 (seg 0 (o_1.length) o_1) < s then List.sum (seg 0 (o_1.length) o_1) else s)) (req (inR IntKind.i64 (r + 1)) (req (decide (0 + o_2.length ≤ o_2.length)) (Int.toNat ((10 : Sh.den (Sh.v Go.P7.I)) - (r + 1)) < Int.toNat ((10
 : Sh.den (Sh.v Go.P7.I)) - r) ∧ LC.spec Go.P7.lc53a (l, s - if List.sum (seg 0 (o_1.length) o_1) < s then List.sum (seg 0 (o_1.length) o_1) else s, seg 0 (o_2.length) o_2, r + 1, ()) Q)))))))))) (req (decide (0 +
 out.length ≤ out.length)) (Q (AX.exit 0) (shSt Go.P7.sh53aE (s, seg 0 (out.length) out, ()))))) := by kernel_rfl
theorem v53F (l : List (Int × Int)) (s : Int) (K : dens [L, I] → Prop) : (xfn Try.prog [] [(53, 0, lc53a)] 5 53 fcSpread (l, s, ()) K) =
  (req (decide ((0 : Int) ≤ (↑(l.length) : Int) ∧ (↑(l.length) : Int) ≤ (↑(l.length) : Int) ∧ (8 : Int) * (↑(l.length) : Int) ≤ (281474976710656 : Int) ∧ (↑(l.length) : Int) ≤ (281474976710656 : Int))) (req (decide (0 +
 Int.toNat (↑(l.length) : Int) ≤ List.length (List.replicate (Int.toNat (↑(l.length) : Int)) (0 : Int)))) ((Go.P7.validD l = true ∧ (0 : Int) ≤ s ∧ s ≤ (34359738368 : Int) ∧ (0 : Int) ≤ (0 : Int) ∧ (0 : Int) ≤ (10 : Int) ∧
 List.length (seg 0 (Int.toNat (↑(l.length) : Int)) (List.replicate (Int.toNat (↑(l.length) : Int)) (0 : Int))) = l.length ∧ Go.P7.unpaid l (0 : Int) (seg 0 (Int.toNat (↑(l.length) : Int)) (List.replicate (Int.toNat
 (↑(l.length) : Int)) (0 : Int)))) ∧ ∀ (o : List Int) (s' : Int), Go.P7.spreadN l 10 (0 : Int) (seg 0 (Int.toNat (↑(l.length) : Int)) (List.replicate (Int.toNat (↑(l.length) : Int)) (0 : Int))) s = (o, s') → req (decide (0
 + o.length ≤ o.length)) (K (seg 0 (o.length) o, s', ()))))) := by kernel_rfl
end Go.P7
