/- Calls that are known (printed by memo.py). No conditions. -/
import Derived.Test.YtcpdcpfbgmiaoaaDoorTickWP0
import Derived.Test.YtcpdcpfbgmiaoaaDoorTickWP1
import Derived.Test.YtcpdcpfbgmiaoaaDoorTickWP2
import Derived.Test.YtcpdcpfbgmiaoaaDoorKnowN
set_option linter.unusedSimpArgs false
set_option linter.constructorNameAsVariable false
set_option linter.unusedVariables false
namespace Go.TickW
open Go.Lom Go.Proofs Go
theorem k1 : KnowsTrue Tryd.prog ⟨[], tb1, [(50, Go.P3.codA), (16, Go.P3.numA)]⟩ := KnowsTrue.add (lf := 1000) (n := 100) Go.P3.knowsN e1 q1
theorem k2 : KnowsTrue Tryd.prog ⟨[], tb2, [(50, Go.P3.codA), (16, Go.P3.numA)]⟩ := KnowsTrue.add (lf := 1000) (n := 100) k1 e2 q2
theorem k3 : KnowsTrue Tryd.prog ⟨[], tb3, [(50, Go.P3.codA), (16, Go.P3.numA)]⟩ := KnowsTrue.add (lf := 1000) (n := 100) k2 e3 q3
theorem k4 : KnowsTrue Tryd.prog ⟨[], tb4, [(50, Go.P3.codA), (16, Go.P3.numA)]⟩ := KnowsTrue.add (lf := 1000) (n := 100) k3 e4 q4
theorem k5 : KnowsTrue Tryd.prog ⟨[], tb5, [(50, Go.P3.codA), (16, Go.P3.numA)]⟩ := KnowsTrue.add (lf := 1000) (n := 100) k4 e5 q5
theorem k6 : KnowsTrue Tryd.prog ⟨[], tb6, [(50, Go.P3.codA), (16, Go.P3.numA)]⟩ := KnowsTrue.add (lf := 1000) (n := 100) k5 e6 q6
theorem k7 : KnowsTrue Tryd.prog ⟨[], tb7, [(50, Go.P3.codA), (16, Go.P3.numA)]⟩ := KnowsTrue.add (lf := 1000) (n := 100) k6 e7 q7
theorem k8 : KnowsTrue Tryd.prog ⟨[], tb8, [(50, Go.P3.codA), (16, Go.P3.numA)]⟩ := KnowsTrue.add (lf := 1000) (n := 100) k7 e8 q8
theorem k9 : KnowsTrue Tryd.prog ⟨[], tb9, [(50, Go.P3.codA), (16, Go.P3.numA)]⟩ := KnowsTrue.add (lf := 1000) (n := 100) k8 e9 q9
theorem k10 : KnowsTrue Tryd.prog ⟨[], tb10, [(50, Go.P3.codA), (16, Go.P3.numA)]⟩ := KnowsTrue.add (lf := 1000) (n := 100) k9 e10 q10
theorem k11 : KnowsTrue Tryd.prog ⟨[], tb11, [(50, Go.P3.codA), (16, Go.P3.numA)]⟩ := KnowsTrue.add (lf := 1000) (n := 100) k10 e11 q11
theorem k12 : KnowsTrue Tryd.prog ⟨[], tb12, [(50, Go.P3.codA), (16, Go.P3.numA)]⟩ := KnowsTrue.add (lf := 1000) (n := 100) k11 e12 q12
end Go.TickW
