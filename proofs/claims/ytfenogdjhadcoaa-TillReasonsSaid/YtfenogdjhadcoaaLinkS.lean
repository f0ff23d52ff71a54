/- TillLinks: states and what is to be shown, reduced. No conditions. -/
import Derived.Test.YtfenogdjhadcoaaWatS3
import Derived.Test.YtfenogdjhadcoaaFewS
set_option linter.unusedSimpArgs false
set_option linter.unusedVariables false
set_option linter.constructorNameAsVariable false
set_option maxRecDepth 100000
set_option maxHeartbeats 2000000
namespace Go.P8
open Go.Lom Go.Proofs Go

abbrev TRep : Ty := .pr LD (.pr L2 TW)
structure LinkInv (l m : List Int) : Prop where
  l24 : l.length = 24
  m24 : m.length = 24
  bd : ∀ k, inP k → 0 ≤ at' l k ∧ at' l k ≤ k
  le : ∀ k, inP k → at' m k ≤ at' l k
  fix : ∀ k, inP k → at' l (at' l k) = at' l k
end Go.P8
