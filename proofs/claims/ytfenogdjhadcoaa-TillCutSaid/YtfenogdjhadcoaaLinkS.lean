/- TillLinks: states and what is to be shown, reduced. No conditions. -/
import Derived.Test.YtfenogdjhadcoaaWatS3
import Derived.Test.YtfenogdjhadcoaaRefS8
set_option linter.unusedSimpArgs false
set_option linter.unusedVariables false
set_option linter.constructorNameAsVariable false
set_option maxRecDepth 100000
set_option maxHeartbeats 2000000
namespace Go.P8
open Go.Lom Go.Proofs Go

abbrev TRep : Ty := .pr LD (.pr L2 TW)
abbrev fcRing : FC := ⟨[.v I, .v I], [I], fun x K => (0 < x.2.1 ∧ x.2.1 ≤ 4611686018427387904) ∧ ∀ r : Int, r = x.1 % x.2.1 → K (r, ())⟩
theorem v33F (n m : Int) (K : dens [I] → Prop) : (xfn1 Try.prog {} 5 33 fcRing (n, m, ()) K) =
  (fork (decide (m ≤ (0 : Int))) (K ((0 : Int), ())) (req (decide (m ≠ (0 : Int))) (req (inR IntKind.i64 (Int.tmod n m + m)) (req (decide (m ≠ (0 : Int))) (K (Int.tmod (Int.tmod n m + m) m, ())))))) := by kernel_rfl
structure LinkInv (l m : List Int) : Prop where
  l24 : l.length = 24
  m24 : m.length = 24
  bd : ∀ k, inP k → 0 ≤ at' l k ∧ at' l k ≤ k
  le : ∀ k, inP k → at' m k ≤ at' l k
  fix : ∀ k, inP k → at' l (at' l k) = at' l k
end Go.P8
