/- Calls that are known (printed by memo.py). No conditions. -/
import Derived.Test.YtcpdcpfbgmiaoaaDoorTickKP0
import Derived.Test.YtcpdcpfbgmiaoaaDoorTickKP1
import Derived.Test.YtcpdcpfbgmiaoaaDoorTickKP2
import Derived.Test.YtcpdcpfbgmiaoaaDoorTickKP3
import Derived.Test.YtcpdcpfbgmiaoaaDoorWorksK
set_option linter.unusedSimpArgs false
set_option linter.constructorNameAsVariable false
set_option linter.unusedVariables false
namespace Go.TickK
open Go.Lom Go.Proofs Go
theorem k1 : KnowsTrue Tryd.prog ⟨[21], tb1, [(50, Go.P3.codA), (16, Go.P3.numA)]⟩ := KnowsTrue.add (lf := 1000) (n := 100) ((Go.P3.knowsN).cons Go.P3.okWorks) e1 q1
theorem k2 : KnowsTrue Tryd.prog ⟨[21], tb2, [(50, Go.P3.codA), (16, Go.P3.numA)]⟩ := KnowsTrue.add (lf := 1000) (n := 100) k1 e2 q2
theorem k3 : KnowsTrue Tryd.prog ⟨[21], tb3, [(50, Go.P3.codA), (16, Go.P3.numA)]⟩ := KnowsTrue.add (lf := 1000) (n := 100) k2 e3 q3
theorem k4 : KnowsTrue Tryd.prog ⟨[21], tb4, [(50, Go.P3.codA), (16, Go.P3.numA)]⟩ := KnowsTrue.add (lf := 1000) (n := 100) k3 e4 q4
theorem k5 : KnowsTrue Tryd.prog ⟨[21], tb5, [(50, Go.P3.codA), (16, Go.P3.numA)]⟩ := KnowsTrue.add (lf := 1000) (n := 100) k4 e5 q5
theorem k6 : KnowsTrue Tryd.prog ⟨[21], tb6, [(50, Go.P3.codA), (16, Go.P3.numA)]⟩ := KnowsTrue.add (lf := 1000) (n := 100) k5 e6 q6
theorem k7 : KnowsTrue Tryd.prog ⟨[21], tb7, [(50, Go.P3.codA), (16, Go.P3.numA)]⟩ := KnowsTrue.add (lf := 1000) (n := 100) k6 e7 q7
theorem k8 : KnowsTrue Tryd.prog ⟨[21], tb8, [(50, Go.P3.codA), (16, Go.P3.numA)]⟩ := KnowsTrue.add (lf := 1000) (n := 100) k7 e8 q8
theorem k9 : KnowsTrue Tryd.prog ⟨[21], tb9, [(50, Go.P3.codA), (16, Go.P3.numA)]⟩ := KnowsTrue.add (lf := 1000) (n := 100) k8 e9 q9
theorem k10 : KnowsTrue Tryd.prog ⟨[21], tb10, [(50, Go.P3.codA), (16, Go.P3.numA)]⟩ := KnowsTrue.add (lf := 1000) (n := 100) k9 e10 q10
theorem k11 : KnowsTrue Tryd.prog ⟨[21], tb11, [(50, Go.P3.codA), (16, Go.P3.numA)]⟩ := KnowsTrue.add (lf := 1000) (n := 100) k10 e11 q11
theorem k12 : KnowsTrue Tryd.prog ⟨[21], tb12, [(50, Go.P3.codA), (16, Go.P3.numA)]⟩ := KnowsTrue.add (lf := 1000) (n := 100) k11 e12 q12
theorem k13 : KnowsTrue Tryd.prog ⟨[21], tb13, [(50, Go.P3.codA), (16, Go.P3.numA)]⟩ := KnowsTrue.add (lf := 1000) (n := 100) k12 e13 q13
theorem k14 : KnowsTrue Tryd.prog ⟨[21], tb14, [(50, Go.P3.codA), (16, Go.P3.numA)]⟩ := KnowsTrue.add (lf := 1000) (n := 100) k13 e14 q14
theorem k15 : KnowsTrue Tryd.prog ⟨[21], tb15, [(50, Go.P3.codA), (16, Go.P3.numA)]⟩ := KnowsTrue.add (lf := 1000) (n := 100) k14 e15 q15
theorem k16 : KnowsTrue Tryd.prog ⟨[21], tb16, [(50, Go.P3.codA), (16, Go.P3.numA)]⟩ := KnowsTrue.add (lf := 1000) (n := 100) k15 e16 q16
theorem k17 : KnowsTrue Tryd.prog ⟨[21], tb17, [(50, Go.P3.codA), (16, Go.P3.numA)]⟩ := KnowsTrue.add (lf := 1000) (n := 100) k16 e17 q17
theorem k18 : KnowsTrue Tryd.prog ⟨[21], tb18, [(50, Go.P3.codA), (16, Go.P3.numA)]⟩ := KnowsTrue.add (lf := 1000) (n := 100) k17 e18 q18
theorem k19 : KnowsTrue Tryd.prog ⟨[21], tb19, [(50, Go.P3.codA), (16, Go.P3.numA)]⟩ := KnowsTrue.add (lf := 1000) (n := 100) k18 e19 q19
theorem k20 : KnowsTrue Tryd.prog ⟨[21], tb20, [(50, Go.P3.codA), (16, Go.P3.numA)]⟩ := KnowsTrue.add (lf := 1000) (n := 100) k19 e20 q20
theorem k21 : KnowsTrue Tryd.prog ⟨[21], tb21, [(50, Go.P3.codA), (16, Go.P3.numA)]⟩ := KnowsTrue.add (lf := 1000) (n := 100) k20 e21 q21
theorem k22 : KnowsTrue Tryd.prog ⟨[21], tb22, [(50, Go.P3.codA), (16, Go.P3.numA)]⟩ := KnowsTrue.add (lf := 1000) (n := 100) k21 e22 q22
theorem k23 : KnowsTrue Tryd.prog ⟨[21], tb23, [(50, Go.P3.codA), (16, Go.P3.numA)]⟩ := KnowsTrue.add (lf := 1000) (n := 100) k22 e23 q23
theorem k24 : KnowsTrue Tryd.prog ⟨[21], tb24, [(50, Go.P3.codA), (16, Go.P3.numA)]⟩ := KnowsTrue.add (lf := 1000) (n := 100) k23 e24 q24
theorem k25 : KnowsTrue Tryd.prog ⟨[21], tb25, [(50, Go.P3.codA), (16, Go.P3.numA)]⟩ := KnowsTrue.add (lf := 1000) (n := 100) k24 e25 q25
theorem k26 : KnowsTrue Tryd.prog ⟨[21], tb26, [(50, Go.P3.codA), (16, Go.P3.numA)]⟩ := KnowsTrue.add (lf := 1000) (n := 100) k25 e26 q26
theorem k27 : KnowsTrue Tryd.prog ⟨[21], tb27, [(50, Go.P3.codA), (16, Go.P3.numA)]⟩ := KnowsTrue.add (lf := 1000) (n := 100) k26 e27 q27
theorem k28 : KnowsTrue Tryd.prog ⟨[21], tb28, [(50, Go.P3.codA), (16, Go.P3.numA)]⟩ := KnowsTrue.add (lf := 1000) (n := 100) k27 e28 q28
theorem k29 : KnowsTrue Tryd.prog ⟨[21], tb29, [(50, Go.P3.codA), (16, Go.P3.numA)]⟩ := KnowsTrue.add (lf := 1000) (n := 100) k28 e29 q29
theorem k30 : KnowsTrue Tryd.prog ⟨[21], tb30, [(50, Go.P3.codA), (16, Go.P3.numA)]⟩ := KnowsTrue.add (lf := 1000) (n := 100) k29 e30 q30
theorem k31 : KnowsTrue Tryd.prog ⟨[21], tb31, [(50, Go.P3.codA), (16, Go.P3.numA)]⟩ := KnowsTrue.add (lf := 1000) (n := 100) k30 e31 q31
theorem k32 : KnowsTrue Tryd.prog ⟨[21], tb32, [(50, Go.P3.codA), (16, Go.P3.numA)]⟩ := KnowsTrue.add (lf := 1000) (n := 100) k31 e32 q32
theorem k33 : KnowsTrue Tryd.prog ⟨[21], tb33, [(50, Go.P3.codA), (16, Go.P3.numA)]⟩ := KnowsTrue.add (lf := 1000) (n := 100) k32 e33 q33
theorem k34 : KnowsTrue Tryd.prog ⟨[21], tb34, [(50, Go.P3.codA), (16, Go.P3.numA)]⟩ := KnowsTrue.add (lf := 1000) (n := 100) k33 e34 q34
theorem k35 : KnowsTrue Tryd.prog ⟨[21], tb35, [(50, Go.P3.codA), (16, Go.P3.numA)]⟩ := KnowsTrue.add (lf := 1000) (n := 100) k34 e35 q35
theorem k36 : KnowsTrue Tryd.prog ⟨[21], tb36, [(50, Go.P3.codA), (16, Go.P3.numA)]⟩ := KnowsTrue.add (lf := 1000) (n := 100) k35 e36 q36
theorem k37 : KnowsTrue Tryd.prog ⟨[21], tb37, [(50, Go.P3.codA), (16, Go.P3.numA)]⟩ := KnowsTrue.add (lf := 1000) (n := 100) k36 e37 q37
theorem k38 : KnowsTrue Tryd.prog ⟨[21], tb38, [(50, Go.P3.codA), (16, Go.P3.numA)]⟩ := KnowsTrue.add (lf := 1000) (n := 100) k37 e38 q38
theorem k39 : KnowsTrue Tryd.prog ⟨[21], tb39, [(50, Go.P3.codA), (16, Go.P3.numA)]⟩ := KnowsTrue.add (lf := 1000) (n := 100) k38 e39 q39
theorem k40 : KnowsTrue Tryd.prog ⟨[21], tb40, [(50, Go.P3.codA), (16, Go.P3.numA)]⟩ := KnowsTrue.add (lf := 1000) (n := 100) k39 e40 q40
theorem k41 : KnowsTrue Tryd.prog ⟨[21], tb41, [(50, Go.P3.codA), (16, Go.P3.numA)]⟩ := KnowsTrue.add (lf := 1000) (n := 100) k40 e41 q41
theorem k42 : KnowsTrue Tryd.prog ⟨[21], tb42, [(50, Go.P3.codA), (16, Go.P3.numA)]⟩ := KnowsTrue.add (lf := 1000) (n := 100) k41 e42 q42
theorem k43 : KnowsTrue Tryd.prog ⟨[21], tb43, [(50, Go.P3.codA), (16, Go.P3.numA)]⟩ := KnowsTrue.add (lf := 1000) (n := 100) k42 e43 q43
theorem k44 : KnowsTrue Tryd.prog ⟨[21], tb44, [(50, Go.P3.codA), (16, Go.P3.numA)]⟩ := KnowsTrue.add (lf := 1000) (n := 100) k43 e44 q44
theorem k45 : KnowsTrue Tryd.prog ⟨[21], tb45, [(50, Go.P3.codA), (16, Go.P3.numA)]⟩ := KnowsTrue.add (lf := 1000) (n := 100) k44 e45 q45
theorem k46 : KnowsTrue Tryd.prog ⟨[21], tb46, [(50, Go.P3.codA), (16, Go.P3.numA)]⟩ := KnowsTrue.add (lf := 1000) (n := 100) k45 e46 q46
theorem k47 : KnowsTrue Tryd.prog ⟨[21], tb47, [(50, Go.P3.codA), (16, Go.P3.numA)]⟩ := KnowsTrue.add (lf := 1000) (n := 100) k46 e47 q47
theorem k48 : KnowsTrue Tryd.prog ⟨[21], tb48, [(50, Go.P3.codA), (16, Go.P3.numA)]⟩ := KnowsTrue.add (lf := 1000) (n := 100) k47 e48 q48
theorem k49 : KnowsTrue Tryd.prog ⟨[21], tb49, [(50, Go.P3.codA), (16, Go.P3.numA)]⟩ := KnowsTrue.add (lf := 1000) (n := 100) k48 e49 q49
end Go.TickK
