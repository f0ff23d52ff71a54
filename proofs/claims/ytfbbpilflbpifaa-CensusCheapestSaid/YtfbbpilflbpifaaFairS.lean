/- CensusFair: what is to be shown, reduced. No conditions. (begun) -/
import Derived.Test.YtfbbpilflbpifaaFairT
import Derived.Test.YtfbbpilflbpifaaFairL
set_option linter.unusedSimpArgs false
set_option linter.unusedVariables false
set_option linter.constructorNameAsVariable false
set_option maxRecDepth 100000
set_option maxHeartbeats 2000000
namespace Go.P10
open Go.Lom Go.Proofs Go

/-! R.Ring, R.Own, R.Seek -/
abbrev fc25 : FC := ⟨[.v I, .v I], [I], fun x K => (inR .i64 x.1 = true ∧ 1 ≤ x.2.1 ∧ x.2.1 ≤ 1000000) ∧ ∀ r, r = x.1 % x.2.1 → K (r, ())⟩
theorem v25F (n m : Int) (K : dens [I] → Prop) : (xfn1 Try.prog {} 5 25 fc25 (n, m, ()) K) =
  (fork (decide (m ≤ (0 : Int))) (K ((0 : Int), ())) (req (decide (m ≠ (0 : Int))) (req (inR IntKind.i64 (Int.tmod n m + m)) (req (decide (m ≠ (0 : Int))) (K (Int.tmod (Int.tmod n m + m) m, ())))))) := by kernel_rfl
abbrev fc26 : FC2 := ⟨A [.v L], 0, A [.any, .own 0 I], 1, fun (l, _) K => l.length ≤ 1000 ∧ ∀ r : List Int, r = l → K ((), r, ())⟩
theorem v26F (l : List Int) (K : fc26.post.den → Prop) : (xfn2 Try.prog {} 5 26 fc26 (l, ()) K) =
  (req (fitsN (0 + l.length) 8) (req (decide (0 + (0 + l.length) ≤ List.length ([] ++ l))) (K ((), seg 0 (0 + l.length) ([] ++ l), ())))) := by kernel_rfl
abbrev sh41 : SV := S [(0, .v L), (1, .v I), (5, .v I)]
abbrev lc41 : LC2 := ⟨0, sh41, 0, fun (l, v, i, _) Q => (0 ≤ i ∧ i ≤ l.length ∧ l.length ≤ big) ∧ (idxF (· == v) (l.drop i.toNat) i < 0 → Q (.exit 0) (stS 0 .nil ())) ∧ (0 ≤ idxF (· == v) (l.drop i.toNat) i → Q .ret (stS 0 shR4i (idxF (· == v) (l.drop i.toNat) i, ())))⟩
theorem v41L (l : List Int) (v i : Int) (Q : AX → St → Prop) : (xloop2 Try.prog {} 5 41 0 lc41 ex96 (fun (l, _, i, _) => mL l i) (l, v, i, ()) Q) =
  (fork (decide (i < (↑(l.length) : Int))) (req (decide ((0 : Int) ≤ i ∧ i < (↑(l.length) : Int))) (fork (List.getD l (Int.toNat i) (0 : Int) == v) (Q AX.ret (stS 0 Go.P10.shR4i (i, ()))) (req (inR IntKind.i64 (i + 1))
 (Go.P10.mL l (i + 1) < Go.P10.mL l i ∧ LC2.spec Go.P10.lc41 (l, v, i + 1, ()) Q)))) (Q (AX.exit 0) (stS 0 SV.nil ()))) := by kernel_rfl
abbrev fc41 : FC := ⟨[.v L, .v I], [I], fun x K => x.1.length ≤ big ∧ K (idxF (· == x.2.1) x.1 0, ())⟩
theorem v41F (l : List Int) (v : Int) (K : dens [I] → Prop) : (xfn1 Try.prog { l2 := [(41, 0, lc41)] } 5 41 fc41 (l, v, ()) K) =
  (((0 : SV.den (SV.slot 5 (SV.v Go.P10.I))) ≤ (0 : Int) ∧ (0 : Int) ≤ (↑(l.length) : SV.den (SV.slot 5 (SV.v Go.P10.I))) ∧ l.length ≤ 9223372036854775807) ∧ (Go.P10.idxF (fun x => x == v) (List.drop 0 l) (0 : Int) < (0 :
 Int) → K ((-1 : Int), ())) ∧ ((0 : Int) ≤ Go.P10.idxF (fun x => x == v) (List.drop 0 l) (0 : Int) → K (Go.P10.idxF (fun x => x == v) (List.drop 0 l) (0 : Int), ()))) := by kernel_rfl
/-! the statement -/
abbrev sh8a : SV := S [(0, .v I), (1, .v L), (2, .v I), (7, .v I), (8, .v I)]
abbrev sh8ae : SV := S [(0, .v I), (1, .v L), (2, .v I), (7, .v I)]
abbrev lc8a : LC2 := ⟨0, sh8a, 0, fun (n, l, w, a, i, _) Q => ((1 ≤ n ∧ n ≤ 5) ∧ (2 ≤ i ∧ i ≤ n + 1 ∨ n = 1 ∧ i = 2) ∧ a = facI (i - 1).toNat) ∧ ∀ x, x = facI n.toNat → Q (.exit 0) (stS 0 sh8ae (n, l, w, x, ()))⟩
theorem v8A (n : Int) (l : List Int) (w a i : Int) (Q : AX → St → Prop) : (xloop2 Try.prog {} 5 8 0 lc8a (fun _ => some (sh8ae, 0)) (fun (n, _, _, _, i, _) => (n + 1 - i).toNat) (n, l, w, a, i, ()) Q) =
  (fork (decide (i ≤ n)) (req (inR IntKind.i64 (a * i)) (req (inR IntKind.i64 (i + 1)) (Int.toNat (n + (1 : SV.den (SV.slot 0 (SV.v Go.P10.I))) - (i + 1)) < Int.toNat (n + (1 : SV.den (SV.slot 0 (SV.v Go.P10.I))) - i) ∧
 LC2.spec Go.P10.lc8a (n, l, w, a * i, i + 1, ()) Q))) (Q (AX.exit 0) (stS 0 Go.P10.sh8ae (n, l, w, a, ())))) := by kernel_rfl
/-- The ranks that are met as one number goes through the values less than k (s: the sum of the others). -/
def metL (s f : Int) (k : Nat) : List Int := (List.range k).map fun j : Nat => (s + j) % f
def oth (l : List Int) (w : Int) : Int := l.sum - l.getD (w % l.length).toNat 0
abbrev sh8b : SV := S [(0, .v I), (1, .v L), (2, .v I), (7, .v I), (11, .own 0 I), (12, .v I), (13, .v I)]
abbrev lc8b : LC2 := ⟨0, sh8b, 1, fun (n, l, w, a, m, t, k, _) Q => ((1 ≤ n ∧ n ≤ 5) ∧ (1 ≤ l.length ∧ l.length ≤ 16) ∧ l.all (inF n) = true ∧ inR .i64 w = true ∧ a = facI n.toNat ∧ (0 ≤ k ∧ k ≤ a) ∧ t = k - 1 ∧ m = metL (oth l w) a k.toNat) ∧ Q (.exit 2) (stS 0 .nil ())⟩
theorem v8B (n : Int) (l : List Int) (w a : Int) (m : List Int) (t k : Int) (Q : AX → St → Prop) : (xloop2 Try.prog { nm := true, f := [(39, fc39), (35, fc35), (37, fc37), (41, fc41), (25, fc25), (18, fcSame)], f2 := [(26, fc26), (39, fc39k)] } 5 8 1 lc8b (fun _ => some (.nil, 0)) (fun (_, _, _, a, _, _, k, _) => (a - k).toNat) (n, l, w, a, m, t, k, ()) Q) =
  (fork (decide (k < a)) (l.length ≤ 1000 ∧ ∀ (r : List Int), r = l → (inR IntKind.i64 w = true ∧ (1 : AT.den (AT.v Go.P10.I)) ≤ (↑(r.length) : Int) ∧ (↑(r.length) : Int) ≤ (1000000 : AT.den (AT.v Go.P10.I))) ∧ ∀ (r_1 :
 AT.den (AT.v Go.P10.I)), r_1 = w % (↑(r.length) : Int) → req (decide ((0 : Int) ≤ r_1 ∧ r_1 < (↑(r.length) : Int))) (req (decide (Int.toNat r_1 + 0 < r.length)) (∀ (ys : List (Ty.den Go.P10.I)), ys = List.set r (Int.toNat
 r_1 + 0) k → req (decide (r.length = ys.length)) (ys.length ≤ 9223372036854775807 ∧ ∀ (r_2 : List Int) (e : Int), (r_2, e) = Go.P10.drawV n n ys → r_2.length ≤ 9223372036854775807 ∧ ∀ (r_3 e_1 : Int), (r_3, e_1) =
 Go.P10.rankV r_2 → fork (e != (0 : Int)) (Q AX.ret (stS 0 SV.nil ())) (fork (e_1 != (0 : Int)) (Q AX.ret (stS 0 SV.nil ())) (req (decide (0 + m.length ≤ m.length)) (List.length (seg 0 (m.length) m) ≤ 9223372036854775807 ∧
 fork (decide (Go.P10.idxF (fun x => x == r_3) (seg 0 (m.length) m) (0 : Int) ≥ (0 : Int))) (Q AX.ret (stS 0 SV.nil ())) (req (inR IntKind.i64 (a - 1)) (fork (decide ((0 : Int) ≤ r_3)) (fork (!decide (r_3 ≤ a - 1)) (Q
 AX.ret (stS 0 SV.nil ())) (req (decide (0 + m.length ≤ m.length)) (req (fitsN (m.length + 1) 8) (∀ (ys_1 : List (Ty.den (Ty.i IntKind.i64))), ys_1 = seg 0 (m.length) m ++ [r_3] → inR IntKind.i64 n = true ∧ ∀ (l_1 : List
 Int) (e : Int), (l_1, e) = Go.P10.unrankV n k → l_1.length ≤ 9223372036854775807 ∧ ∀ (r_4 e_2 : Int), (r_4, e_2) = Go.P10.rankV l_1 → fork (e != (0 : Int)) (Q AX.ret (stS 0 SV.nil ())) (fork (e_2 != (0 : Int)) (Q AX.ret
 (stS 0 SV.nil ())) (fork (r_4 != k) (Q AX.ret (stS 0 SV.nil ())) (fork (decide (r_4 ≤ t)) (Q AX.ret (stS 0 SV.nil ())) (req (inR IntKind.i64 (Int.tdiv n (2 : Int))) (req (decide (r.length = ys.length)) (ys.length ≤
 9223372036854775807 ∧ ∀ (r : List Int) (e : Int), (r, e) = Go.P10.drawV n (Int.tdiv n (2 : Int)) ys → fork (e != (0 : Int)) (Q AX.ret (stS 0 SV.nil ())) (fork ((↑(r_2.length) : Int) != n) (Q AX.ret (stS 0 SV.nil ())) (req
 (inR IntKind.i64 (Int.tdiv n (2 : Int))) (req (decide ((0 : Int) ≤ (0 : Int) ∧ (0 : Int) ≤ Int.tdiv n (2 : Int) ∧ Int.tdiv n (2 : Int) ≤ (↑(r_2.length) : Int))) (r.length ≤ 9223372036854775807 ∧ ∀ (r_5 : Bool), r_5 =
 decide (r = List.drop 0 (List.take (Int.toNat (Int.tdiv n (2 : Int))) r_2)) → fork (!r_5) (Q AX.ret (stS 0 SV.nil ())) (req (inR IntKind.i64 (k + 1)) (req (decide (0 + (m.length + 1) ≤ ys_1.length)) (Int.toNat (a - (k +
 1)) < Int.toNat (a - k) ∧ LC2.spec Go.P10.lc8b (n, l, w, a, seg 0 (m.length + 1) ys_1, r_4, k + 1, ()) Q))))))))))))))))) (Q AX.ret (stS 0 SV.nil ()))))))))))) (Q (AX.exit 2) (stS 0 SV.nil ()))) := by kernel_rfl
abbrev fc8 : FC := ⟨[.v I, .v L, .v I], [.b], fun x K => (inR .i64 x.1 = true ∧ inR .i64 x.2.2.1 = true ∧ x.2.1.length ≤ big) ∧ K (true, ())⟩
theorem v8F (n : Int) (l : List Int) (w : Int) (K : dens [.b] → Prop) : (xfn1 Try.prog { nm := true, f := [(39, fc39), (25, fc25), (19, fcWorks)], l2 := [(8, 0, lc8a), (8, 1, lc8b)] } 5 8 fc8 (n, l, w, ()) K) =
  ((inR IntKind.i64 n = true ∧ (1 : AT.den (AT.v Go.P10.I)) ≤ (5 : Int) ∧ (5 : Int) ≤ (1000000 : AT.den (AT.v Go.P10.I))) ∧ ∀ (r : AT.den (AT.v Go.P10.I)), r = n % (5 : Int) → req (inR IntKind.i64 ((1 : Int) + r)) ((((1 :
 SV.den (SV.slot 0 (SV.v Go.P10.I))) ≤ (1 : Int) + r ∧ (1 : Int) + r ≤ (5 : SV.den (SV.slot 0 (SV.v Go.P10.I)))) ∧ ((2 : SV.den (SV.slot 8 (SV.v Go.P10.I))) ≤ (2 : Int) ∧ (2 : Int) ≤ (1 : Int) + r + (1 : SV.den (SV.slot 8
 (SV.v Go.P10.I))) ∨ (1 : Int) + r = (1 : SV.den (SV.slot 0 (SV.v Go.P10.I))) ∧ (2 : Int) = (2 : SV.den (SV.slot 8 (SV.v Go.P10.I)))) ∧ (1 : Int) = (1 : Int)) ∧ ∀ (x : Int), x = Go.P10.facI (Int.toNat ((1 : Int) + r)) →
 l.length ≤ 9223372036854775807 ∧ ∀ (l_1 : List Int) (e : Int), (l_1, e) = Go.P10.drawV ((1 : Int) + r) ((1 : Int) + r) l → fork (e != (0 : Int)) (fork (e == (104 : Int)) (K (true, ())) (K (false, ()))) (fork ((↑(l.length)
 : Int) == (0 : Int)) (fork (e == (104 : Int)) (K (true, ())) (K (false, ()))) ((((1 : SV.den (SV.slot 0 (SV.v Go.P10.I))) ≤ (1 : Int) + r ∧ (1 : Int) + r ≤ (5 : SV.den (SV.slot 0 (SV.v Go.P10.I)))) ∧ (1 ≤ l.length ∧
 l.length ≤ 16) ∧ List.all l (Go.P10.inF ((1 : Int) + r)) = true ∧ inR IntKind.i64 w = true ∧ x = Go.P10.facI (Int.toNat ((1 : Int) + r)) ∧ ((0 : SV.den (SV.slot 13 (SV.v Go.P10.I))) ≤ (0 : Int) ∧ (0 : Int) ≤ x) ∧ (-1 :
 Int) = (0 : Int) - (1 : SV.den (SV.slot 12 (SV.v Go.P10.I))) ∧ [] = Go.P10.metL (Go.P10.oth l w) x 0) ∧ K (true, ()))))) := by kernel_rfl
end Go.P10
