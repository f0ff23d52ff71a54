/- Funds: what follows from a course: states and what is to be shown, reduced. No conditions. -/
import Derived.Test.YtklleedcdjkpeaaPlanS
set_option linter.unusedSimpArgs false
set_option linter.unusedVariables false
set_option linter.constructorNameAsVariable false
set_option maxRecDepth 100000
set_option maxHeartbeats 2000000
namespace Go.P9
open Go.Lom Go.Proofs Go

abbrev Cs : Type := List Int × Rn × List Int × List Int
def goodC (f : Fd) (c : Cs) : Prop := okF f = true ∧ planB f c.1 = true ∧ allowB f c.2.1 = true ∧ flowB c.2.2.1 (fIn f) = true ∧ flowB c.2.2.2 (fPrices f) = true
def takeI (out : List (List Int)) (d k : Int) : Int := ((out.drop k.toNat).map fun row => row.getD d.toNat 0).sum
/-! the program's -/
/-! the reference's -/
/-! the law -/
end Go.P9
