/- CensusDrawn: states and what is to be shown, reduced. No conditions. -/
import Derived.Test.YtfbbpilflbpifaaFairP
set_option linter.unusedSimpArgs false
set_option linter.unusedVariables false
set_option linter.constructorNameAsVariable false
set_option maxRecDepth 100000
set_option maxHeartbeats 2000000
namespace Go.P10
open Go.Lom Go.Proofs Go

abbrev A3 : Ty := .pr I (.pr I I)
abbrev sh9b : SV := S [(3, .v I), (4, .v I), (5, .v I), (7, .v I), (8, .v I), (10, .v I), (11, .v I), (12, .v I), (15, .v L), (16, .v .b), (17, .v I)]
abbrev sh9be : SV := S [(3, .v I), (4, .v I), (5, .v I), (7, .v I), (8, .v I), (10, .v I), (11, .v I), (12, .v I), (16, .v .b)]
abbrev lc9b : LC2 := ⟨0, sh9b, 0, fun (n, m, x, w, a, o, mi, r, d, h, i, _) Q => ((0 ≤ i ∧ i ≤ m) ∧ (d.length : Int) = m ∧ m ≤ 5) ∧ ∀ h' : Bool, h' = (h || (d.drop i.toNat).any fun y => decide (y < x)) → Q (.exit 2) (stS 0 sh9be (n, m, x, w, a, o, mi, r, h', ()))⟩
theorem v9B (n m x w a o mi r : Int) (d : List Int) (h : Bool) (i : Int) (Q : AX → St → Prop) : (xloop2 Try.prog {} 5 9 1 lc9b (fun _ => some (sh9be, 0)) (fun (_, m, _, _, _, _, _, _, _, _, i, _) => (m - i).toNat) (n, m, x, w, a, o, mi, r, d, h, i, ()) Q) =
  (fork (decide (i < m)) (fork h (req (inR IntKind.i64 (i + 1)) (Int.toNat (m - (i + 1)) < Int.toNat (m - i) ∧ LC2.spec Go.P10.lc9b (n, m, x, w, a, o, mi, r, d, true, i + 1, ()) Q)) (req (decide ((0 : Int) ≤ i ∧ i <
 (↑(d.length) : Int))) (req (inR IntKind.i64 (i + 1)) (Int.toNat (m - (i + 1)) < Int.toNat (m - i) ∧ LC2.spec Go.P10.lc9b (n, m, x, w, a, o, mi, r, d, decide (List.getD d (Int.toNat i) (0 : Int) < x), i + 1, ()) Q)))) (Q
 (AX.exit 2) (stS 0 Go.P10.sh9be (n, m, x, w, a, o, mi, r, h, ())))) := by kernel_rfl
/-- Does the order with a rank miss what is lost with its first ones? -/
def missO (n m x r : Int) : Bool := !((ordF n r).take m.toNat).any fun y => decide (y < x)
def missN (n m x : Int) (k : Nat) : Int := (((List.range k).countP fun j : Nat => missO n m x j : Nat) : Int)
abbrev sh9a : SV := S [(3, .v I), (4, .v I), (5, .v I), (7, .v I), (8, .v I), (10, .v I), (11, .v I), (12, .v I)]
abbrev sh9ae : SV := S [(7, .v I), (8, .v I), (10, .v I), (11, .v I)]
abbrev lc9a : LC2 := ⟨0, sh9a, 0, fun (n, m, x, w, a, o, mi, r, _) Q => ((1 ≤ n ∧ n ≤ 5) ∧ (0 ≤ m ∧ m ≤ n) ∧ (0 ≤ r ∧ r ≤ facI n.toNat) ∧ o = r ∧ mi = missN n m x r.toNat) ∧ ∀ o' mi', o' = facI n.toNat → mi' = missN n m x (facI n.toNat).toNat → Q (.exit 0) (stS 0 sh9ae (w, a, o', mi', ()))⟩
def ex9 : Ex2
  | .ret => some (.nil, 0)
  | _ => some (sh9ae, 0)
theorem v9A (n m x w a o mi r : Int) (Q : AX → St → Prop) : (xloop2 Try.prog { nm := true, f := [(37, fc37), (39, fc39)], l2 := [(9, 1, lc9b)] } 5 9 0 lc9a ex9 (fun (n, _, _, _, _, _, _, r, _) => (facI n.toNat - r).toNat) (n, m, x, w, a, o, mi, r, ()) Q) =
  (inR IntKind.i64 n = true ∧ ∀ (l : List Int) (e : Int), (l, e) = Go.P10.unrankV n r → fork (e != (0 : Int)) (Q (AX.exit 0) (stS 0 Go.P10.sh9ae (w, a, o, mi, ()))) (fork (decide (r > (120 : Int))) (Q (AX.exit 0) (stS 0
 Go.P10.sh9ae (w, a, o, mi, ()))) (1 ≤ 9223372036854775807 ∧ ∀ (l_1 : List Int) (e : Int), (l_1, e) = Go.P10.drawV n m [r] → fork (e != (0 : Int)) (Q AX.ret (stS 0 SV.nil ())) (fork ((↑(l_1.length) : Int) != m) (Q AX.ret
 (stS 0 SV.nil ())) (fork ((↑(l.length) : Int) != n) (Q AX.ret (stS 0 SV.nil ())) ((((0 : SV.den (SV.slot 17 (SV.v Go.P10.I))) ≤ (0 : Int) ∧ (0 : Int) ≤ m) ∧ (↑(l_1.length) : Int) = m ∧ m ≤ (5 : SV.den (SV.slot 4 (SV.v
 Go.P10.I)))) ∧ ∀ (h' : Bool), h' = (false || List.any (List.drop 0 l_1) fun y => decide (y < x)) → req (inR IntKind.i64 (o + 1)) (fork (!h') (req (inR IntKind.i64 (mi + 1)) (req (inR IntKind.i64 (r + 1)) (Int.toNat
 (Go.P10.facI (Int.toNat n) - (r + 1)) < Int.toNat (Go.P10.facI (Int.toNat n) - r) ∧ LC2.spec Go.P10.lc9a (n, m, x, w, a, o + 1, mi + 1, r + 1, ()) Q))) (req (inR IntKind.i64 (r + 1)) (Int.toNat (Go.P10.facI (Int.toNat n)
 - (r + 1)) < Int.toNat (Go.P10.facI (Int.toNat n) - r) ∧ LC2.spec Go.P10.lc9a (n, m, x, w, a, o + 1, mi, r + 1, ()) Q))))))))) := by kernel_rfl
abbrev fc9 : FC := ⟨[.v A3], [.b], fun x K => (inR .i64 x.1.1 = true ∧ inR .i64 x.1.2.1 = true ∧ inR .i64 x.1.2.2 = true) ∧ K (true, ())⟩
theorem v9F (n : Int × Int × Int) (K : dens [.b] → Prop) : (xfn1 Try.prog { nm := true, f := [(20, fc20), (25, fc25), (19, fcWorks)], l2 := [(9, 0, lc9a)] } 5 9 fc9 (n, ()) K) =
  ((inR IntKind.i64 (n.1) = true ∧ (1 : AT.den (AT.v Go.P10.I)) ≤ (5 : Int) ∧ (5 : Int) ≤ (1000000 : AT.den (AT.v Go.P10.I))) ∧ ∀ (r : AT.den (AT.v Go.P10.I)), r = n.1 % (5 : Int) → req (inR IntKind.i64 ((1 : Int) + r))
 (req (inR IntKind.i64 ((1 : Int) + r + 1)) (req (inR IntKind.i64 ((1 : Int) + r + 1)) ((inR IntKind.i64 (n.2.1) = true ∧ (1 : AT.den (AT.v Go.P10.I)) ≤ (1 : Int) + r + 1 ∧ (1 : Int) + r + 1 ≤ (1000000 : AT.den (AT.v
 Go.P10.I))) ∧ ∀ (r_1 : AT.den (AT.v Go.P10.I)), r_1 = n.2.1 % ((1 : Int) + r + 1) → AV.int IntKind.i64 (n.2.2) = AV.int IntKind.i64 (n.2.2) ∧ (inR IntKind.i64 (n.2.2) = true ∧ (1 : AT.den (AT.v Go.P10.I)) ≤ (1 : Int) + r
 + 1 ∧ (1 : Int) + r + 1 ≤ (1000000 : AT.den (AT.v Go.P10.I))) ∧ ∀ (r_2 : AT.den (AT.v Go.P10.I)), r_2 = n.2.2 % ((1 : Int) + r + 1) → (Go.P10.bigs ([(1 : Int) + r], [(1 : Int)], (1 : Int), (0 : Int)) ∧ 1 ≤
 9223372036854775807 ∧ 1 ≤ 9223372036854775807) ∧ ∀ (n m e : Int), (n, m, e) = Go.P10.missF ([(1 : Int) + r], [(1 : Int)], (1 : Int), (0 : Int)) [r_1] [r_2] → fork (e != (0 : Int)) (K (false, ())) ((((1 : SV.den (SV.slot 3
 (SV.v Go.P10.I))) ≤ (1 : Int) + r ∧ (1 : Int) + r ≤ (5 : SV.den (SV.slot 3 (SV.v Go.P10.I)))) ∧ ((0 : SV.den (SV.slot 4 (SV.v Go.P10.I))) ≤ r_1 ∧ r_1 ≤ (1 : Int) + r) ∧ ((0 : SV.den (SV.slot 12 (SV.v Go.P10.I))) ≤ (0 :
 Int) ∧ (0 : Int) ≤ Go.P10.facI (Int.toNat ((1 : Int) + r))) ∧ (0 : Int) = (0 : Int) ∧ (0 : Int) = Go.P10.missN ((1 : Int) + r) r_1 r_2 0) ∧ ∀ (o' mi' : Int), o' = Go.P10.facI (Int.toNat ((1 : Int) + r)) → mi' =
 Go.P10.missN ((1 : Int) + r) r_1 r_2 (Int.toNat (Go.P10.facI (Int.toNat ((1 : Int) + r)))) → fork (decide (o' > (0 : Int))) (req (inR IntKind.i64 (mi' * m)) (req (inR IntKind.i64 (n * o')) (fork (mi' * m == n * o') (K
 (true, ())) (K (false, ()))))) (K (false, ()))))))) := by kernel_rfl
end Go.P10
