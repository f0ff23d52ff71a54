/- CensusPatrols: the reference: states and what is to be shown, reduced. No conditions. -/
import Derived.Test.YtfbbpilflbpifaaPatP
set_option linter.unusedSimpArgs false
set_option linter.unusedVariables false
set_option linter.constructorNameAsVariable false
set_option maxRecDepth 100000
set_option maxHeartbeats 2000000
namespace Go.P10
open Go.Lom Go.Proofs Go

def okWn (n : Int) : Bool := decide (1 ≤ n ∧ n ≤ 10000)
abbrev sh90 : SV := S [(0, .v L), (3, .v .b), (4, .v I)]
abbrev sh90e : SV := S [(3, .v .b)]
abbrev lc90 : LC2 := ⟨0, sh90, 0, fun (l, ok, i, _) Q => (l.length ≤ big ∧ 0 ≤ i ∧ i ≤ l.length) ∧ ∀ r : Bool, r = (ok && (l.drop i.toNat).all okWn) → Q (.exit 0) (stS 0 sh90e (r, ()))⟩
theorem v90L (l : List Int) (ok : Bool) (i : Int) (Q : AX → St → Prop) : (xloop2 Try.prog {} 5 90 0 lc90 (fun _ => some (sh90e, 0)) (fun (l, _, i, _) => mL l i) (l, ok, i, ()) Q) =
  (fork (decide (i < (↑(l.length) : Int))) (fork ok (req (decide ((0 : Int) ≤ i ∧ i < (↑(l.length) : Int))) (fork (decide ((1 : Int) ≤ List.getD l (Int.toNat i) (0 : Int))) (req (inR IntKind.i64 (i + 1)) (mL l (i + 1) < mL
 l i ∧ LC2.spec lc90 (l, decide (List.getD l (Int.toNat i) (0 : Int) ≤ (10000 : Int)), i + 1, ()) Q)) (req (inR IntKind.i64 (i + 1)) (mL l (i + 1) < mL l i ∧ LC2.spec lc90 (l, false, i + 1, ()) Q)))) (req (inR IntKind.i64
 (i + 1)) (mL l (i + 1) < mL l i ∧ LC2.spec lc90 (l, false, i + 1, ()) Q))) (Q (AX.exit 0) (stS 0 sh90e (ok, ())))) := by kernel_rfl
theorem v90F (l : List Int) (K : dens [.b] → Prop) : (xfn1 Try.prog { l2 := [(90, 0, lc90)] } 5 90 fc89 (l, ()) K) =
  (fork (decide ((1 : Int) ≤ (↑(l.length) : Int))) ((l.length ≤ 9223372036854775807 ∧ (0 : SV.den (SV.slot 4 (SV.v I))) ≤ (0 : Int) ∧ (0 : Int) ≤ (↑(l.length) : SV.den (SV.slot 4 (SV.v I)))) ∧ ∀ (r : Bool), r = (decide
 ((↑(l.length) : Int) ≤ (6 : Int)) && List.all (List.drop 0 l) okWn) → K (r, ())) ((l.length ≤ 9223372036854775807 ∧ (0 : SV.den (SV.slot 4 (SV.v I))) ≤ (0 : Int) ∧ (0 : Int) ≤ (↑(l.length) : SV.den (SV.slot 4 (SV.v I))))
 ∧ ∀ (r : Bool), r = (false && List.all (List.drop 0 l) okWn) → K (r, ()))) := by kernel_rfl
abbrev sh24 : SV := S [(0, .v L), (3, .v I), (4, .v I)]
abbrev sh24e : SV := S [(3, .v I)]
abbrev lc24 : LC2 := ⟨0, sh24, 0, fun (l, n, i, _) Q => (l.length ≤ big ∧ (0 ≤ i ∧ i ≤ l.length) ∧ (l.length ≤ 6 → l.all inW = true → 0 ≤ n ∧ n ≤ 64 * i)) ∧ ∀ x, (l.length ≤ 6 → l.all inW = true → x = n + (l.drop i.toNat).sum) → Q (.exit 0) (stS 0 sh24e (x, ()))⟩
theorem v24L (l : List Int) (n i : Int) (Q : AX → St → Prop) : (xloop2 Try.prog { wr := true } 5 24 0 lc24 (fun _ => some (sh24e, 0)) (fun (l, _, i, _) => mL l i) (l, n, i, ()) Q) =
  (fork (decide (i < (↑(l.length) : Int))) (req (decide ((0 : Int) ≤ i ∧ i < (↑(l.length) : Int))) (mL l (wrapA IntKind.i64 (i + 1)) < mL l i ∧ LC2.spec lc24 (l, wrapA IntKind.i64 (n + List.getD l (Int.toNat i) (0 : Int)),
 wrapA IntKind.i64 (i + 1), ()) Q)) (Q (AX.exit 0) (stS 0 sh24e (n, ())))) := by kernel_rfl
abbrev fc24w : FC := ⟨[.v L], [I], fun x K => x.1.length ≤ big ∧ ∀ n, (x.1.length ≤ 6 → x.1.all inW = true → n = x.1.sum) → K (n, ())⟩
theorem v24F (l : List Int) (K : dens [I] → Prop) : (xfn1 Try.prog { l2 := [(24, 0, lc24)] } 5 24 fc24w (l, ()) K) =
  ((l.length ≤ 9223372036854775807 ∧ ((0 : SV.den (SV.slot 4 (SV.v I))) ≤ (0 : Int) ∧ (0 : Int) ≤ (↑(l.length) : SV.den (SV.slot 4 (SV.v I)))) ∧ (l.length ≤ 6 → List.all l inW = true → (0 : SV.den (SV.slot 3 (SV.v I))) ≤ (0
 : Int) ∧ (0 : Int) ≤ (64 : SV.den (SV.slot 3 (SV.v I))) * (0 : Int))) ∧ ∀ (x : SV.den (SV.slot ((3, SV.v I).1) ((3, SV.v I).2))), (l.length ≤ 6 → List.all l inW = true → x = (0 : Int) + List.sum (List.drop 0 l)) → K (x,
 ())) := by kernel_rfl
end Go.P10
