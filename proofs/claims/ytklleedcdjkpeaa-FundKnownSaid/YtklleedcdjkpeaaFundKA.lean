/- Calls that are known (printed by memo.py). No conditions. -/
import Derived.Test.YtklleedcdjkpeaaFundKP0
import Derived.Test.YtklleedcdjkpeaaFundKP1
import Derived.Test.YtklleedcdjkpeaaFundKP2
import Derived.Test.YtklleedcdjkpeaaFundKP3
import Derived.Test.YtklleedcdjkpeaaFundKP4
import Derived.Test.YtklleedcdjkpeaaFundKP5
import Derived.Test.YtklleedcdjkpeaaFundKP6
import Derived.Test.YtklleedcdjkpeaaFundKP7
import Derived.Test.YtklleedcdjkpeaaWorks
set_option linter.unusedSimpArgs false
set_option linter.constructorNameAsVariable false
set_option linter.unusedVariables false
namespace Go.FundK
open Go.Lom Go.Proofs Go
theorem k1 : KnowsTrue Try.prog ⟨[19], tb1⟩ := KnowsTrue.add (lf := 1000) (n := 100) ((knows_nil _).cons Go.P9.okWorks) e1 q1
theorem k2 : KnowsTrue Try.prog ⟨[19], tb2⟩ := KnowsTrue.add (lf := 1000) (n := 100) k1 e2 q2
theorem k3 : KnowsTrue Try.prog ⟨[19], tb3⟩ := KnowsTrue.add (lf := 1000) (n := 100) k2 e3 q3
theorem k4 : KnowsTrue Try.prog ⟨[19], tb4⟩ := KnowsTrue.add (lf := 1000) (n := 100) k3 e4 q4
theorem k5 : KnowsTrue Try.prog ⟨[19], tb5⟩ := KnowsTrue.add (lf := 1000) (n := 100) k4 e5 q5
theorem k6 : KnowsTrue Try.prog ⟨[19], tb6⟩ := KnowsTrue.add (lf := 1000) (n := 100) k5 e6 q6
theorem k7 : KnowsTrue Try.prog ⟨[19], tb7⟩ := KnowsTrue.add (lf := 1000) (n := 100) k6 e7 q7
theorem k8 : KnowsTrue Try.prog ⟨[19], tb8⟩ := KnowsTrue.add (lf := 1000) (n := 100) k7 e8 q8
theorem k9 : KnowsTrue Try.prog ⟨[19], tb9⟩ := KnowsTrue.add (lf := 1000) (n := 100) k8 e9 q9
theorem k10 : KnowsTrue Try.prog ⟨[19], tb10⟩ := KnowsTrue.add (lf := 1000) (n := 100) k9 e10 q10
theorem k11 : KnowsTrue Try.prog ⟨[19], tb11⟩ := KnowsTrue.add (lf := 1000) (n := 100) k10 e11 q11
theorem k12 : KnowsTrue Try.prog ⟨[19], tb12⟩ := KnowsTrue.add (lf := 1000) (n := 100) k11 e12 q12
theorem k13 : KnowsTrue Try.prog ⟨[19], tb13⟩ := KnowsTrue.add (lf := 1000) (n := 100) k12 e13 q13
theorem k14 : KnowsTrue Try.prog ⟨[19], tb14⟩ := KnowsTrue.add (lf := 1000) (n := 100) k13 e14 q14
theorem k15 : KnowsTrue Try.prog ⟨[19], tb15⟩ := KnowsTrue.add (lf := 1000) (n := 100) k14 e15 q15
theorem k16 : KnowsTrue Try.prog ⟨[19], tb16⟩ := KnowsTrue.add (lf := 1000) (n := 100) k15 e16 q16
theorem k17 : KnowsTrue Try.prog ⟨[19], tb17⟩ := KnowsTrue.add (lf := 1000) (n := 100) k16 e17 q17
theorem k18 : KnowsTrue Try.prog ⟨[19], tb18⟩ := KnowsTrue.add (lf := 1000) (n := 100) k17 e18 q18
theorem k19 : KnowsTrue Try.prog ⟨[19], tb19⟩ := KnowsTrue.add (lf := 1000) (n := 100) k18 e19 q19
theorem k20 : KnowsTrue Try.prog ⟨[19], tb20⟩ := KnowsTrue.add (lf := 1000) (n := 100) k19 e20 q20
theorem k21 : KnowsTrue Try.prog ⟨[19], tb21⟩ := KnowsTrue.add (lf := 1000) (n := 100) k20 e21 q21
theorem k22 : KnowsTrue Try.prog ⟨[19], tb22⟩ := KnowsTrue.add (lf := 1000) (n := 100) k21 e22 q22
theorem k23 : KnowsTrue Try.prog ⟨[19], tb23⟩ := KnowsTrue.add (lf := 1000) (n := 100) k22 e23 q23
theorem k24 : KnowsTrue Try.prog ⟨[19], tb24⟩ := KnowsTrue.add (lf := 1000) (n := 100) k23 e24 q24
theorem k25 : KnowsTrue Try.prog ⟨[19], tb25⟩ := KnowsTrue.add (lf := 1000) (n := 100) k24 e25 q25
theorem k26 : KnowsTrue Try.prog ⟨[19], tb26⟩ := KnowsTrue.add (lf := 1000) (n := 100) k25 e26 q26
theorem k27 : KnowsTrue Try.prog ⟨[19], tb27⟩ := KnowsTrue.add (lf := 1000) (n := 100) k26 e27 q27
theorem k28 : KnowsTrue Try.prog ⟨[19], tb28⟩ := KnowsTrue.add (lf := 1000) (n := 100) k27 e28 q28
theorem k29 : KnowsTrue Try.prog ⟨[19], tb29⟩ := KnowsTrue.add (lf := 1000) (n := 100) k28 e29 q29
theorem k30 : KnowsTrue Try.prog ⟨[19], tb30⟩ := KnowsTrue.add (lf := 1000) (n := 100) k29 e30 q30
theorem k31 : KnowsTrue Try.prog ⟨[19], tb31⟩ := KnowsTrue.add (lf := 1000) (n := 100) k30 e31 q31
end Go.FundK
