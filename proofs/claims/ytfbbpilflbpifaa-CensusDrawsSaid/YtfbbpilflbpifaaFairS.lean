/- CensusFair: what is to be shown, reduced. No conditions. (begun) -/
import Derived.Test.YtfbbpilflbpifaaPatTP
import Derived.Test.YtfbbpilflbpifaaRankQ
set_option linter.unusedSimpArgs false
set_option linter.unusedVariables false
set_option linter.constructorNameAsVariable false
set_option maxRecDepth 100000
set_option maxHeartbeats 2000000
namespace Go.P10
open Go.Lom Go.Proofs Go

/-! R.Ring, R.Own, R.Seek -/
abbrev fc25 : FC := ⟨[.v I, .v I], [I], fun x K => (inR .i64 x.1 = true ∧ 1 ≤ x.2.1 ∧ x.2.1 ≤ 1000000) ∧ ∀ r, r = x.1 % x.2.1 → K (r, ())⟩
theorem v25F (n m : Int) (K : dens [I] → Prop) : (xfn1 Try.prog {} 5 25 fc25 (n, m, ()) K) =
  (fork (decide (m ≤ (0 : Int))) (K ((0 : Int), ())) (req (decide (m ≠ (0 : Int))) (req (inR IntKind.i64 (Int.tmod n m + m)) (req (decide (m ≠ (0 : Int))) (K (Int.tmod (Int.tmod n m + m) m, ())))))) := by kernel_rfl
abbrev fc26 : FC2 := ⟨A [.v L], 0, A [.any, .own 0 I], 1, fun (l, _) K => l.length ≤ 1000 ∧ ∀ r : List Int, r = l → K ((), r, ())⟩
theorem v26F (l : List Int) (K : fc26.post.den → Prop) : (xfn2 Try.prog {} 5 26 fc26 (l, ()) K) =
  (req (fitsN (0 + l.length) 8) (req (decide (0 + (0 + l.length) ≤ List.length ([] ++ l))) (K ((), seg 0 (0 + l.length) ([] ++ l), ())))) := by kernel_rfl
abbrev sh41 : SV := S [(0, .v L), (1, .v I), (5, .v I)]
abbrev lc41 : LC2 := ⟨0, sh41, 0, fun (l, v, i, _) Q => (0 ≤ i ∧ i ≤ l.length ∧ l.length ≤ big) ∧ (idxF (· == v) (l.drop i.toNat) i < 0 → Q (.exit 0) (stS 0 .nil ())) ∧ (0 ≤ idxF (· == v) (l.drop i.toNat) i → Q .ret (stS 0 shR4i (idxF (· == v) (l.drop i.toNat) i, ())))⟩
theorem v41L (l : List Int) (v i : Int) (Q : AX → St → Prop) : (xloop2 Try.prog {} 5 41 0 lc41 ex96 (fun (l, _, i, _) => mL l i) (l, v, i, ()) Q) =
  (fork (decide (i < (↑(l.length) : Int))) (req (decide ((0 : Int) ≤ i ∧ i < (↑(l.length) : Int))) (fork (List.getD l (Int.toNat i) (0 : Int) == v) (Q AX.ret (stS 0 shR4i (i, ()))) (req (inR IntKind.i64 (i + 1)) (mL l (i +
 1) < mL l i ∧ LC2.spec lc41 (l, v, i + 1, ()) Q)))) (Q (AX.exit 0) (stS 0 SV.nil ()))) := by kernel_rfl
abbrev fc41 : FC := ⟨[.v L, .v I], [I], fun x K => x.1.length ≤ big ∧ K (idxF (· == x.2.1) x.1 0, ())⟩
theorem v41F (l : List Int) (v : Int) (K : dens [I] → Prop) : (xfn1 Try.prog { l2 := [(41, 0, lc41)] } 5 41 fc41 (l, v, ()) K) =
  (((0 : SV.den (SV.slot 5 (SV.v I))) ≤ (0 : Int) ∧ (0 : Int) ≤ (↑(l.length) : SV.den (SV.slot 5 (SV.v I))) ∧ l.length ≤ 9223372036854775807) ∧ (idxF (fun x => x == v) (List.drop 0 l) (0 : Int) < (0 : Int) → K ((-1 : Int),
 ())) ∧ ((0 : Int) ≤ idxF (fun x => x == v) (List.drop 0 l) (0 : Int) → K (idxF (fun x => x == v) (List.drop 0 l) (0 : Int), ()))) := by kernel_rfl
/-! the statement -/
end Go.P10
