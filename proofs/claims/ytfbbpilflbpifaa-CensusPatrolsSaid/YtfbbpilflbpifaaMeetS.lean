/- CensusMeets: what is to be shown, reduced. No conditions. -/
import Derived.Test.YtfbbpilflbpifaaPatP
set_option linter.unusedSimpArgs false
set_option linter.unusedVariables false
set_option linter.constructorNameAsVariable false
set_option maxRecDepth 100000
set_option maxHeartbeats 2000000
namespace Go.P10
open Go.Lom Go.Proofs Go

abbrev sh14 : SV := S [(0, .v L), (1, .v L), (5, .v L), (6, .v I), (9, .v I)]
abbrev sh14e : SV := S [(0, .v L), (1, .v L), (6, .v I)]
def fitW (l w : List Int) (r : Int) : Prop := w.length = l.length ∧ ∀ k : Nat, k < l.length → (0 ≤ w.getD k 0 ∧ w.getD k 0 ≤ 64) ∧ l.getD k 0 * (64 - w.getD k 0) ≤ r
abbrev lc14 : LC2 := ⟨0, sh14, 0, fun (l, o, w, r, i, _) Q => (okW l ∧ fitW l w r ∧ (0 ≤ i ∧ i ≤ l.length)) ∧ Q (.exit 0) (stS 0 sh14e (l, o, r, ()))⟩
theorem v14L (l o w : List Int) (r i : Int) (Q : AX → St → Prop) : (xloop2 Try.prog {} 5 14 0 lc14 (fun _ => some (sh14e, 0)) (fun (l, _, _, _, i, _) => mL l i) (l, o, w, r, i, ()) Q) =
  (fork (decide (i < (↑(l.length) : Int))) (req (decide ((0 : Int) ≤ i ∧ i < (↑(w.length) : Int))) (fork (decide ((0 : Int) ≤ List.getD w (Int.toNat i) (0 : Int))) (fork (!decide (List.getD w (Int.toNat i) (0 : Int) ≤ (64 :
 Int))) (Q AX.ret (stS 0 Go.P10.sh14e (l, o, r, ()))) (req (decide ((0 : Int) ≤ i ∧ i < (↑(l.length) : Int))) (fork (decide ((1 : Int) ≤ List.getD l (Int.toNat i) (0 : Int))) (fork (!decide (List.getD l (Int.toNat i) (0 :
 Int) ≤ (10000 : Int))) (Q AX.ret (stS 0 Go.P10.sh14e (l, o, r, ()))) (req (decide ((0 : Int) ≤ i ∧ i < (↑(l.length) : Int))) (req (decide ((0 : Int) ≤ i ∧ i < (↑(w.length) : Int))) (req (inR IntKind.i64 ((64 : Int) -
 List.getD w (Int.toNat i) (0 : Int))) (req (inR IntKind.i64 (List.getD l (Int.toNat i) (0 : Int) * ((64 : Int) - List.getD w (Int.toNat i) (0 : Int)))) (fork (decide (List.getD l (Int.toNat i) (0 : Int) * ((64 : Int) -
 List.getD w (Int.toNat i) (0 : Int)) > r)) (Q AX.ret (stS 0 Go.P10.sh14e (l, o, r, ()))) (req (inR IntKind.i64 (i + 1)) (Go.P10.mL l (i + 1) < Go.P10.mL l i ∧ LC2.spec Go.P10.lc14 (l, o, w, r, i + 1, ()) Q)))))))) (Q
 AX.ret (stS 0 Go.P10.sh14e (l, o, r, ())))))) (Q AX.ret (stS 0 Go.P10.sh14e (l, o, r, ()))))) (Q (AX.exit 0) (stS 0 Go.P10.sh14e (l, o, r, ())))) := by kernel_rfl
abbrev fc14 : FC := ⟨[.v L, .v L], [.b], fun x K => (x.1.length ≤ big ∧ x.2.1.length ≤ big) ∧ K (true, ())⟩
theorem v14F (l o : List Int) (K : dens [.b] → Prop) : (xfn1 Try.prog { f := [(52, fc52), (48, fc48), (50, fc50), (19, fcWorks)], l2 := [(14, 0, lc14)] } 5 14 fc14 (l, o, ()) K) =
  (l.length ≤ 9223372036854775807 ∧ ∀ (w : List Int) (r e : Int), Go.P10.patR l w r e → fork (e != (0 : Int)) (fork ((↑(w.length) : Int) == (0 : Int)) (fork (r == (0 : Int)) (K (true, ())) (K (false, ()))) (K (false, ())))
 ((l.length ≤ 9223372036854775807 ∧ w.length ≤ 9223372036854775807) ∧ ∀ (n e : Int), (n, e) = Go.P10.riskV l w → fork (e != (0 : Int)) (K (false, ())) (fork (n != r) (K (false, ())) (fork ((↑(w.length) : Int) !=
 (↑(l.length) : Int)) (K (false, ())) ((Go.P10.okW l ∧ Go.P10.fitW l w r ∧ (0 : SV.den (SV.slot 9 (SV.v Go.P10.I))) ≤ (0 : Int) ∧ (0 : Int) ≤ (↑(l.length) : SV.den (SV.slot 9 (SV.v Go.P10.I)))) ∧ (l.length ≤
 9223372036854775807 ∧ o.length ≤ 9223372036854775807) ∧ ∀ (n e : Int), (n, e) = Go.P10.riskV l o → fork (e == (0 : Int)) (fork (decide (n < r)) (K (false, ())) ((l.length ≤ 9223372036854775807 ∧ r ≤ (9223372036854775807 :
 AT.den (AT.v Go.P10.I))) ∧ ∀ (n e : Int), (n, e) = Go.P10.needV l r → fork (e != (0 : Int)) (K (false, ())) (fork (decide (n > (64 : Int))) (K (false, ())) (fork (r == (0 : Int)) (K (true, ())) (req (inR IntKind.i64 (r -
 1)) ((l.length ≤ 9223372036854775807 ∧ r - 1 ≤ (9223372036854775807 : AT.den (AT.v Go.P10.I))) ∧ ∀ (n e : Int), (n, e) = Go.P10.needV l (r - 1) → fork (e == (0 : Int)) (fork (decide (n > (64 : Int))) (K (true, ())) (K
 (false, ()))) (K (false, ())))))))) ((l.length ≤ 9223372036854775807 ∧ r ≤ (9223372036854775807 : AT.den (AT.v Go.P10.I))) ∧ ∀ (n e : Int), (n, e) = Go.P10.needV l r → fork (e != (0 : Int)) (K (false, ())) (fork (decide
 (n > (64 : Int))) (K (false, ())) (fork (r == (0 : Int)) (K (true, ())) (req (inR IntKind.i64 (r - 1)) ((l.length ≤ 9223372036854775807 ∧ r - 1 ≤ (9223372036854775807 : AT.den (AT.v Go.P10.I))) ∧ ∀ (n e : Int), (n, e) =
 Go.P10.needV l (r - 1) → fork (e == (0 : Int)) (fork (decide (n > (64 : Int))) (K (true, ())) (K (false, ()))) (K (false, ())))))))))))) := by kernel_rfl
end Go.P10
