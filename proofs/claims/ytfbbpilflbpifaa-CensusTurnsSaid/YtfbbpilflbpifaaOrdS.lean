/- Orders: the reference: states and what is to be shown, reduced. No conditions. -/
import Derived.Test.YtfbbpilflbpifaaPatS
import Derived.Test.YtfbbpilflbpifaaRankQ
set_option linter.unusedSimpArgs false
set_option linter.unusedVariables false
set_option linter.constructorNameAsVariable false
set_option maxRecDepth 100000
set_option maxHeartbeats 2000000
namespace Go.P10
open Go.Lom Go.Proofs Go
abbrev A3 : Ty := .pr I (.pr I I)
abbrev fc7 : FC := ⟨[.v L, .v A3, .v L], [.b], fun x K => (x.1.length ≤ big ∧ inR .i64 x.2.1.1 = true ∧ x.2.2.1.length ≤ big) ∧ K (true, ())⟩
theorem v7F (o : List Int) (n : Int × Int × Int) (l : List Int) (K : dens [.b] → Prop) : (xfn1 Try.prog { nm := true, f := [(35, fc35), (36, fc35), (37, fc37), (38, fc37), (39, fc39), (40, fc39), (18, fcSame), (19, fcWorks)] } 5 7 fc7 (o, n, l, ()) K) =
  (o.length ≤ 9223372036854775807 ∧ ∀ (r e : Int), (r, e) = rankV o → o.length ≤ 9223372036854775807 ∧ ∀ (r_1 e_1 : Int), (r_1, e_1) = rankV o → fork (r != r_1) (K (false, ())) (fork (e != e_1) (K (false, ())) (inR
 IntKind.i64 (n.1) = true ∧ ∀ (l_1 : List Int) (e : Int), (l_1, e) = unrankV (n.1) (n.2.1) → inR IntKind.i64 (n.1) = true ∧ ∀ (l_2 : List Int) (e_2 : Int), (l_2, e_2) = unrankV (n.1) (n.2.1) → l_1.length ≤
 9223372036854775807 ∧ ∀ (r : Bool), r = decide (l_1 = l_2) → fork (!r) (K (false, ())) (fork (e != e_2) (K (false, ())) (l.length ≤ 9223372036854775807 ∧ ∀ (l_3 : List Int) (e : Int), (l_3, e) = drawV (n.1) (n.2.2) l →
 l.length ≤ 9223372036854775807 ∧ ∀ (l_4 : List Int) (e_3 : Int), (l_4, e_3) = drawV (n.1) (n.2.2) l → l_3.length ≤ 9223372036854775807 ∧ ∀ (r : Bool), r = decide (l_3 = l_4) → fork r (fork (e == e_3) (K (true, ())) (K
 (false, ()))) (K (false, ()))))))) := by kernel_rfl
end Go.P10
