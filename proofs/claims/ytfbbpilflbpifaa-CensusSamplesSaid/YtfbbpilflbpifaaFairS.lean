/- CensusFair: what is to be shown, reduced. No conditions. (begun) -/
import Derived.Test.YtfbbpilflbpifaaPatTP
import Derived.Test.YtfbbpilflbpifaaRankQ
set_option linter.unusedSimpArgs false
set_option linter.unusedVariables false
set_option linter.constructorNameAsVariable false
set_option maxRecDepth 100000
set_option maxHeartbeats 2000000
namespace Go.P10
open Go.Lom Go.Proofs Go

/-! R.Ring, R.Own, R.Seek -/
abbrev fc25 : FC := ⟨[.v I, .v I], [I], fun x K => (inR .i64 x.1 = true ∧ 1 ≤ x.2.1 ∧ x.2.1 ≤ 1000000) ∧ ∀ r, r = x.1 % x.2.1 → K (r, ())⟩
abbrev fc26 : FC2 := ⟨A [.v L], 0, A [.any, .own 0 I], 1, fun (l, _) K => l.length ≤ 1000 ∧ ∀ r : List Int, r = l → K ((), r, ())⟩
theorem v26F (l : List Int) (K : fc26.post.den → Prop) : (xfn2 Try.prog {} 5 26 fc26 (l, ()) K) =
  (req (fitsN (0 + l.length) 8) (req (decide (0 + (0 + l.length) ≤ List.length ([] ++ l))) (K ((), seg 0 (0 + l.length) ([] ++ l), ())))) := by kernel_rfl
/-! the statement -/
end Go.P10
