/- Funds: the laws of plans, capital, pay: states and what is to be shown, reduced. No conditions. -/
import Derived.Test.YtklleedcdjkpeaaLeast2S
import Derived.Test.YtklleedcdjkpeaaFollowS
import Derived.Test.YtklleedcdjkpeaaFailS
set_option linter.unusedSimpArgs false
set_option linter.unusedVariables false
set_option linter.constructorNameAsVariable false
set_option maxRecDepth 100000
set_option maxHeartbeats 2000000
namespace Go.P9
open Go.Lom Go.Proofs Go

abbrev fc4 : FC := ⟨[.v TF], [.b], fun (f, _) K => bigF f ∧ K (true, ())⟩
theorem v4F (f : Fd) (K : dens [.b] → Prop) : (xfn1 Try.prog { f := [(16, fcSame), (18, fcSound), (19, fcWorks), (20, fcLeast), (21, fcLeast), (22, fcPlanE), (23, fcCap), (24, fcCap), (25, fcBears), (26, fcBears)] } 5 4 fc4 (f, ()) K) =
(Go.P9.bigF f ∧ Go.P9.bigF f ∧ List.length (Prod.fst (Go.P9.leastR f)) ≤ (9223372036854775807 : Nat) ∧ fork (!decide (Prod.fst (Go.P9.leastR f) = Prod.fst (Go.P9.leastR f))) (K (Bool.false, ())) (fork (Prod.fst (Prod.snd
 (Go.P9.leastR f)) != Prod.fst (Prod.snd (Go.P9.leastR f))) (K (Bool.false, ())) (fork (Prod.snd (Prod.snd (Go.P9.leastR f)) != Prod.snd (Prod.snd (Go.P9.leastR f))) (K (Bool.false, ())) (Go.P9.bigF f ∧ fork (Prod.snd
 (Prod.snd (Go.P9.leastR f)) != (0 : Int)) (fork (Prod.snd (Prod.snd (Go.P9.leastR f)) != Prod.snd (Prod.snd (Go.P9.leastR f))) (K (Bool.false, ())) (fork ((↑(List.length (Prod.fst (Go.P9.leastR f))) : Int) != (0 : Int))
 (K (Bool.false, ())) (Go.P9.bigF f ∧ Go.P9.bigF f ∧ fork (Go.P9.capR f != Go.P9.capR f) (K (Bool.false, ())) (fork (Go.P9.chkE f != Go.P9.chkE f) (K (Bool.false, ())) (Go.P9.bigF f ∧ Go.P9.bigF f ∧ fork (Prod.fst
 (Go.P9.bearsR f) == Prod.fst (Go.P9.bearsR f)) (fork (Prod.snd (Go.P9.bearsR f) == Prod.snd (Go.P9.bearsR f)) (K (Bool.true, ())) (K (Bool.false, ()))) (K (Bool.false, ()))))))) ((Go.P9.bigF f ∧ List.length (Prod.fst
 (Go.P9.leastR f)) ≤ (9223372036854775807 : Nat)) ∧ fork (Prod.snd (Prod.snd (Go.P9.leastR f)) != (0 : Int)) (K (Bool.false, ())) (fork (Go.P9.soundE f (Prod.fst (Go.P9.leastR f)) != (0 : Int)) (K (Bool.false, ())) (fork
 (!(Go.P9.okF f && (Go.P9.planB f (Prod.fst (Go.P9.leastR f)) && Go.P9.soundB f (Prod.fst (Go.P9.leastR f))))) (K (Bool.false, ())) (Go.P9.bigF f ∧ Go.P9.bigF f ∧ fork (Go.P9.capR f != Go.P9.capR f) (K (Bool.false, ()))
 (fork (Go.P9.chkE f != Go.P9.chkE f) (K (Bool.false, ())) (Go.P9.bigF f ∧ Go.P9.bigF f ∧ fork (Prod.fst (Go.P9.bearsR f) == Prod.fst (Go.P9.bearsR f)) (fork (Prod.snd (Go.P9.bearsR f) == Prod.snd (Go.P9.bearsR f)) (K
 (Bool.true, ())) (K (Bool.false, ()))) (K (Bool.false, ())))))))))))) := by kernel_rfl
abbrev fc9 : FC := ⟨[.v TF, .v L], [.b], fun (f, l, _) K => (bigF f ∧ l.length ≤ 9223372036854775807) ∧ K (true, ())⟩
theorem v9F (f : Fd) (l : List Int) (K : dens [.b] → Prop) : (xfn1 Try.prog { f := [(17, fcSound), (19, fcWorks), (20, fcLeast), (27, fcSum), (34, fcAhead)] } 5 9 fc9 (f, l, ()) K) =
(Go.P9.bigF f ∧ (Go.P9.bigF f ∧ List.length l ≤ (9223372036854775807 : Nat)) ∧ fork (Prod.snd (Prod.snd (Go.P9.leastR f)) != (0 : Int)) (fork ((↑(List.length (Prod.fst (Go.P9.leastR f))) : Int) == (0 : Int)) (fork
 (Prod.fst (Prod.snd (Go.P9.leastR f)) == (0 : Int)) (fork (!(Go.P9.okF f && (Go.P9.planB f l && Go.P9.soundB f l))) (K (Bool.true, ())) (K (Bool.false, ()))) (K (Bool.false, ()))) (K (Bool.false, ()))) (fork
 (Go.P9.soundE f l != (0 : Int)) (fork (Go.P9.soundE f l == (0 : Int)) (K (Bool.true, ())) (fork (Go.P9.soundE f l == (93 : Int)) (K (Bool.true, ())) (K (Bool.false, ())))) (fork (!(Go.P9.okF f && (Go.P9.planB f l &&
 Go.P9.soundB f l))) (fork (Go.P9.soundE f l == (0 : Int)) (K (Bool.true, ())) (fork (Go.P9.soundE f l == (93 : Int)) (K (Bool.true, ())) (K (Bool.false, ())))) ((List.length (Prod.fst (Go.P9.leastR f)) ≤
 (9223372036854775807 : Nat) ∧ Go.P9.fitS (0 : Int) (Prod.fst (Go.P9.leastR f))) ∧ fork (Prod.fst (Prod.snd (Go.P9.leastR f)) == List.sum (Prod.fst (Go.P9.leastR f))) ((List.length l ≤ (9223372036854775807 : Nat) ∧
 Go.P9.fitS (0 : Int) l) ∧ fork (decide (Prod.fst (Prod.snd (Go.P9.leastR f)) < List.sum l)) (K (Bool.true, ())) ((List.length l ≤ (9223372036854775807 : Nat) ∧ Go.P9.fitS (0 : Int) l) ∧ fork (Prod.fst (Prod.snd
 (Go.P9.leastR f)) == List.sum l) (List.length l ≤ (9223372036854775807 : Nat) ∧ fork (!Go.P9.aheadI l (Prod.fst (Go.P9.leastR f))) (K (Bool.true, ())) (K (Bool.false, ()))) (K (Bool.false, ())))) (K (Bool.false, ())))))) := by kernel_rfl
theorem v7F (f : Fd) (K : dens [.b] → Prop) : (xfn1 Try.prog { f := [(19, fcWorks), (22, fcPlanE), (23, fcCap), (25, fcBears), (30, fcFrom)] } 5 7 fc4 (f, ()) K) =
(Go.P9.bigF f ∧ fork (Go.P9.chkE f != (0 : Int)) (fork (Go.P9.capR f == (0 : Int)) (K (Bool.true, ())) (K (Bool.false, ()))) (Go.P9.bigF f ∧ fork (decide (Go.P9.capR f < (0 : Int))) (K (Bool.false, ())) (fork (!(Prod.snd
 (Prod.snd (Go.P9.leastR f)) == (0 : Int)) == (Go.P9.capR f == (0 : Int))) (K (Bool.false, ())) (req (inR Go.IntKind.i64 (Prod.fst f + Go.P9.capR f)) (Go.P9.bigF (Prod.fst f + Go.P9.capR f, Prod.snd f) ∧ fork (decide
 (Prod.fst f + Go.P9.capR f ≤ (1099511627776 : Int))) (fork (Prod.snd (Prod.snd (Go.P9.leastR (Prod.fst f + Go.P9.capR f, Prod.snd f))) != (0 : Int)) (K (Bool.false, ())) (req (inR Go.IntKind.i64 (Prod.fst f + Go.P9.capR
 f - (1 : Int))) (Go.P9.bigF (Prod.fst f + Go.P9.capR f - (1 : Int), Prod.snd f) ∧ fork (decide (Go.P9.capR f > (0 : Int))) (fork (decide (Prod.fst f + Go.P9.capR f - (1 : Int) ≤ (1099511627776 : Int))) (fork (Prod.snd
 (Prod.snd (Go.P9.leastR (Prod.fst f + Go.P9.capR f - (1 : Int), Prod.snd f))) != (4 : Int)) (K (Bool.false, ())) (Go.P9.bigF f ∧ fork (Prod.snd (Go.P9.bearsR f) != (0 : Int)) (Go.P9.bigF (Prod.fst f, Prod.fst (Prod.snd
 f), Prod.fst (Prod.snd (Prod.snd f)), Prod.fst (Prod.snd (Prod.snd (Prod.snd f))), Prod.fst (Prod.snd (Prod.snd (Prod.snd (Prod.snd f)))), Prod.fst (Prod.snd (Prod.snd (Prod.snd (Prod.snd (Prod.snd f))))), Prod.fst
 (Prod.snd (Prod.snd (Prod.snd (Prod.snd (Prod.snd (Prod.snd f)))))), (0 : Int), Prod.snd (Prod.snd (Prod.snd (Prod.snd (Prod.snd (Prod.snd (Prod.snd (Prod.snd f)))))))) ∧ fork (Prod.snd (Go.P9.bearsR f) == (4 : Int))
 (fork (Prod.snd (Prod.snd (Go.P9.leastR (Prod.fst f, Prod.fst (Prod.snd f), Prod.fst (Prod.snd (Prod.snd f)), Prod.fst (Prod.snd (Prod.snd (Prod.snd f))), Prod.fst (Prod.snd (Prod.snd (Prod.snd (Prod.snd f)))), Prod.fst
 (Prod.snd (Prod.snd (Prod.snd (Prod.snd (Prod.snd f))))), Prod.fst (Prod.snd (Prod.snd (Prod.snd (Prod.snd (Prod.snd (Prod.snd f)))))), (0 : Int), Prod.snd (Prod.snd (Prod.snd (Prod.snd (Prod.snd (Prod.snd (Prod.snd
 (Prod.snd f)))))))))) == (4 : Int)) (K (Bool.true, ())) (K (Bool.false, ()))) (K (Bool.false, ()))) (fork (!decide ((0 : Int) ≤ Prod.fst (Go.P9.bearsR f) ∧ Prod.fst (Go.P9.bearsR f) ≤ (↑(List.length (Prod.fst (Prod.snd
 (Prod.snd (Prod.snd (Prod.snd (Prod.snd f))))))) : Int))) (K (Bool.false, ())) (Go.P9.bigF (Prod.fst f, Prod.fst (Prod.snd f), Prod.fst (Prod.snd (Prod.snd f)), Prod.fst (Prod.snd (Prod.snd (Prod.snd f))), Prod.fst
 (Prod.snd (Prod.snd (Prod.snd (Prod.snd f)))), Prod.fst (Prod.snd (Prod.snd (Prod.snd (Prod.snd (Prod.snd f))))), Prod.fst (Prod.snd (Prod.snd (Prod.snd (Prod.snd (Prod.snd (Prod.snd f)))))), Prod.fst (Go.P9.bearsR f),
 Prod.snd (Prod.snd (Prod.snd (Prod.snd (Prod.snd (Prod.snd (Prod.snd (Prod.snd f)))))))) ∧ fork (Prod.snd (Prod.snd (Go.P9.leastR (Prod.fst f, Prod.fst (Prod.snd f), Prod.fst (Prod.snd (Prod.snd f)), Prod.fst (Prod.snd
 (Prod.snd (Prod.snd f))), Prod.fst (Prod.snd (Prod.snd (Prod.snd (Prod.snd f)))), Prod.fst (Prod.snd (Prod.snd (Prod.snd (Prod.snd (Prod.snd f))))), Prod.fst (Prod.snd (Prod.snd (Prod.snd (Prod.snd (Prod.snd (Prod.snd
 f)))))), Prod.fst (Go.P9.bearsR f), Prod.snd (Prod.snd (Prod.snd (Prod.snd (Prod.snd (Prod.snd (Prod.snd (Prod.snd f)))))))))) != (0 : Int)) (K (Bool.false, ())) (req (inR Go.IntKind.i64 (Prod.fst (Go.P9.bearsR f) + (1 :
 Int))) (Go.P9.bigF (Prod.fst f, Prod.fst (Prod.snd f), Prod.fst (Prod.snd (Prod.snd f)), Prod.fst (Prod.snd (Prod.snd (Prod.snd f))), Prod.fst (Prod.snd (Prod.snd (Prod.snd (Prod.snd f)))), Prod.fst (Prod.snd (Prod.snd
 (Prod.snd (Prod.snd (Prod.snd f))))), Prod.fst (Prod.snd (Prod.snd (Prod.snd (Prod.snd (Prod.snd (Prod.snd f)))))), Prod.fst (Go.P9.bearsR f) + (1 : Int), Prod.snd (Prod.snd (Prod.snd (Prod.snd (Prod.snd (Prod.snd
 (Prod.snd (Prod.snd f)))))))) ∧ fork (Prod.fst (Go.P9.bearsR f) == (↑(List.length (Prod.fst (Prod.snd (Prod.snd (Prod.snd (Prod.snd (Prod.snd f))))))) : Int)) (K (Bool.true, ())) (fork (Prod.snd (Prod.snd (Go.P9.leastR
 (Prod.fst f, Prod.fst (Prod.snd f), Prod.fst (Prod.snd (Prod.snd f)), Prod.fst (Prod.snd (Prod.snd (Prod.snd f))), Prod.fst (Prod.snd (Prod.snd (Prod.snd (Prod.snd f)))), Prod.fst (Prod.snd (Prod.snd (Prod.snd (Prod.snd
 (Prod.snd f))))), Prod.fst (Prod.snd (Prod.snd (Prod.snd (Prod.snd (Prod.snd (Prod.snd f)))))), Prod.fst (Go.P9.bearsR f) + (1 : Int), Prod.snd (Prod.snd (Prod.snd (Prod.snd (Prod.snd (Prod.snd (Prod.snd (Prod.snd
 f)))))))))) == (4 : Int)) (K (Bool.true, ())) (K (Bool.false, ()))))))))) (Go.P9.bigF f ∧ fork (Prod.snd (Go.P9.bearsR f) != (0 : Int)) (Go.P9.bigF (Prod.fst f, Prod.fst (Prod.snd f), Prod.fst (Prod.snd (Prod.snd f)),
 Prod.fst (Prod.snd (Prod.snd (Prod.snd f))), Prod.fst (Prod.snd (Prod.snd (Prod.snd (Prod.snd f)))), Prod.fst (Prod.snd (Prod.snd (Prod.snd (Prod.snd (Prod.snd f))))), Prod.fst (Prod.snd (Prod.snd (Prod.snd (Prod.snd
 (Prod.snd (Prod.snd f)))))), (0 : Int), Prod.snd (Prod.snd (Prod.snd (Prod.snd (Prod.snd (Prod.snd (Prod.snd (Prod.snd f)))))))) ∧ fork (Prod.snd (Go.P9.bearsR f) == (4 : Int)) (fork (Prod.snd (Prod.snd (Go.P9.leastR
 (Prod.fst f, Prod.fst (Prod.snd f), Prod.fst (Prod.snd (Prod.snd f)), Prod.fst (Prod.snd (Prod.snd (Prod.snd f))), Prod.fst (Prod.snd (Prod.snd (Prod.snd (Prod.snd f)))), Prod.fst (Prod.snd (Prod.snd (Prod.snd (Prod.snd
 (Prod.snd f))))), Prod.fst (Prod.snd (Prod.snd (Prod.snd (Prod.snd (Prod.snd (Prod.snd f)))))), (0 : Int), Prod.snd (Prod.snd (Prod.snd (Prod.snd (Prod.snd (Prod.snd (Prod.snd (Prod.snd f)))))))))) == (4 : Int)) (K
 (Bool.true, ())) (K (Bool.false, ()))) (K (Bool.false, ()))) (fork (!decide ((0 : Int) ≤ Prod.fst (Go.P9.bearsR f) ∧ Prod.fst (Go.P9.bearsR f) ≤ (↑(List.length (Prod.fst (Prod.snd (Prod.snd (Prod.snd (Prod.snd (Prod.snd
 f))))))) : Int))) (K (Bool.false, ())) (Go.P9.bigF (Prod.fst f, Prod.fst (Prod.snd f), Prod.fst (Prod.snd (Prod.snd f)), Prod.fst (Prod.snd (Prod.snd (Prod.snd f))), Prod.fst (Prod.snd (Prod.snd (Prod.snd (Prod.snd
 f)))), Prod.fst (Prod.snd (Prod.snd (Prod.snd (Prod.snd (Prod.snd f))))), Prod.fst (Prod.snd (Prod.snd (Prod.snd (Prod.snd (Prod.snd (Prod.snd f)))))), Prod.fst (Go.P9.bearsR f), Prod.snd (Prod.snd (Prod.snd (Prod.snd
 (Prod.snd (Prod.snd (Prod.snd (Prod.snd f)))))))) ∧ fork (Prod.snd (Prod.snd (Go.P9.leastR (Prod.fst f, Prod.fst (Prod.snd f), Prod.fst (Prod.snd (Prod.snd f)), Prod.fst (Prod.snd (Prod.snd (Prod.snd f))), Prod.fst
 (Prod.snd (Prod.snd (Prod.snd (Prod.snd f)))), Prod.fst (Prod.snd (Prod.snd (Prod.snd (Prod.snd (Prod.snd f))))), Prod.fst (Prod.snd (Prod.snd (Prod.snd (Prod.snd (Prod.snd (Prod.snd f)))))), Prod.fst (Go.P9.bearsR f),
 Prod.snd (Prod.snd (Prod.snd (Prod.snd (Prod.snd (Prod.snd (Prod.snd (Prod.snd f)))))))))) != (0 : Int)) (K (Bool.false, ())) (req (inR Go.IntKind.i64 (Prod.fst (Go.P9.bearsR f) + (1 : Int))) (Go.P9.bigF (Prod.fst f,
 Prod.fst (Prod.snd f), Prod.fst (Prod.snd (Prod.snd f)), Prod.fst (Prod.snd (Prod.snd (Prod.snd f))), Prod.fst (Prod.snd (Prod.snd (Prod.snd (Prod.snd f)))), Prod.fst (Prod.snd (Prod.snd (Prod.snd (Prod.snd (Prod.snd
 f))))), Prod.fst (Prod.snd (Prod.snd (Prod.snd (Prod.snd (Prod.snd (Prod.snd f)))))), Prod.fst (Go.P9.bearsR f) + (1 : Int), Prod.snd (Prod.snd (Prod.snd (Prod.snd (Prod.snd (Prod.snd (Prod.snd (Prod.snd f)))))))) ∧ fork
 (Prod.fst (Go.P9.bearsR f) == (↑(List.length (Prod.fst (Prod.snd (Prod.snd (Prod.snd (Prod.snd (Prod.snd f))))))) : Int)) (K (Bool.true, ())) (fork (Prod.snd (Prod.snd (Go.P9.leastR (Prod.fst f, Prod.fst (Prod.snd f),
 Prod.fst (Prod.snd (Prod.snd f)), Prod.fst (Prod.snd (Prod.snd (Prod.snd f))), Prod.fst (Prod.snd (Prod.snd (Prod.snd (Prod.snd f)))), Prod.fst (Prod.snd (Prod.snd (Prod.snd (Prod.snd (Prod.snd f))))), Prod.fst (Prod.snd
 (Prod.snd (Prod.snd (Prod.snd (Prod.snd (Prod.snd f)))))), Prod.fst (Go.P9.bearsR f) + (1 : Int), Prod.snd (Prod.snd (Prod.snd (Prod.snd (Prod.snd (Prod.snd (Prod.snd (Prod.snd f)))))))))) == (4 : Int)) (K (Bool.true,
 ())) (K (Bool.false, ()))))))))) (Go.P9.bigF f ∧ fork (Prod.snd (Go.P9.bearsR f) != (0 : Int)) (Go.P9.bigF (Prod.fst f, Prod.fst (Prod.snd f), Prod.fst (Prod.snd (Prod.snd f)), Prod.fst (Prod.snd (Prod.snd (Prod.snd
 f))), Prod.fst (Prod.snd (Prod.snd (Prod.snd (Prod.snd f)))), Prod.fst (Prod.snd (Prod.snd (Prod.snd (Prod.snd (Prod.snd f))))), Prod.fst (Prod.snd (Prod.snd (Prod.snd (Prod.snd (Prod.snd (Prod.snd f)))))), (0 : Int),
 Prod.snd (Prod.snd (Prod.snd (Prod.snd (Prod.snd (Prod.snd (Prod.snd (Prod.snd f)))))))) ∧ fork (Prod.snd (Go.P9.bearsR f) == (4 : Int)) (fork (Prod.snd (Prod.snd (Go.P9.leastR (Prod.fst f, Prod.fst (Prod.snd f),
 Prod.fst (Prod.snd (Prod.snd f)), Prod.fst (Prod.snd (Prod.snd (Prod.snd f))), Prod.fst (Prod.snd (Prod.snd (Prod.snd (Prod.snd f)))), Prod.fst (Prod.snd (Prod.snd (Prod.snd (Prod.snd (Prod.snd f))))), Prod.fst (Prod.snd
 (Prod.snd (Prod.snd (Prod.snd (Prod.snd (Prod.snd f)))))), (0 : Int), Prod.snd (Prod.snd (Prod.snd (Prod.snd (Prod.snd (Prod.snd (Prod.snd (Prod.snd f)))))))))) == (4 : Int)) (K (Bool.true, ())) (K (Bool.false, ()))) (K
 (Bool.false, ()))) (fork (!decide ((0 : Int) ≤ Prod.fst (Go.P9.bearsR f) ∧ Prod.fst (Go.P9.bearsR f) ≤ (↑(List.length (Prod.fst (Prod.snd (Prod.snd (Prod.snd (Prod.snd (Prod.snd f))))))) : Int))) (K (Bool.false, ()))
 (Go.P9.bigF (Prod.fst f, Prod.fst (Prod.snd f), Prod.fst (Prod.snd (Prod.snd f)), Prod.fst (Prod.snd (Prod.snd (Prod.snd f))), Prod.fst (Prod.snd (Prod.snd (Prod.snd (Prod.snd f)))), Prod.fst (Prod.snd (Prod.snd
 (Prod.snd (Prod.snd (Prod.snd f))))), Prod.fst (Prod.snd (Prod.snd (Prod.snd (Prod.snd (Prod.snd (Prod.snd f)))))), Prod.fst (Go.P9.bearsR f), Prod.snd (Prod.snd (Prod.snd (Prod.snd (Prod.snd (Prod.snd (Prod.snd
 (Prod.snd f)))))))) ∧ fork (Prod.snd (Prod.snd (Go.P9.leastR (Prod.fst f, Prod.fst (Prod.snd f), Prod.fst (Prod.snd (Prod.snd f)), Prod.fst (Prod.snd (Prod.snd (Prod.snd f))), Prod.fst (Prod.snd (Prod.snd (Prod.snd
 (Prod.snd f)))), Prod.fst (Prod.snd (Prod.snd (Prod.snd (Prod.snd (Prod.snd f))))), Prod.fst (Prod.snd (Prod.snd (Prod.snd (Prod.snd (Prod.snd (Prod.snd f)))))), Prod.fst (Go.P9.bearsR f), Prod.snd (Prod.snd (Prod.snd
 (Prod.snd (Prod.snd (Prod.snd (Prod.snd (Prod.snd f)))))))))) != (0 : Int)) (K (Bool.false, ())) (req (inR Go.IntKind.i64 (Prod.fst (Go.P9.bearsR f) + (1 : Int))) (Go.P9.bigF (Prod.fst f, Prod.fst (Prod.snd f), Prod.fst
 (Prod.snd (Prod.snd f)), Prod.fst (Prod.snd (Prod.snd (Prod.snd f))), Prod.fst (Prod.snd (Prod.snd (Prod.snd (Prod.snd f)))), Prod.fst (Prod.snd (Prod.snd (Prod.snd (Prod.snd (Prod.snd f))))), Prod.fst (Prod.snd
 (Prod.snd (Prod.snd (Prod.snd (Prod.snd (Prod.snd f)))))), Prod.fst (Go.P9.bearsR f) + (1 : Int), Prod.snd (Prod.snd (Prod.snd (Prod.snd (Prod.snd (Prod.snd (Prod.snd (Prod.snd f)))))))) ∧ fork (Prod.fst (Go.P9.bearsR f)
 == (↑(List.length (Prod.fst (Prod.snd (Prod.snd (Prod.snd (Prod.snd (Prod.snd f))))))) : Int)) (K (Bool.true, ())) (fork (Prod.snd (Prod.snd (Go.P9.leastR (Prod.fst f, Prod.fst (Prod.snd f), Prod.fst (Prod.snd (Prod.snd
 f)), Prod.fst (Prod.snd (Prod.snd (Prod.snd f))), Prod.fst (Prod.snd (Prod.snd (Prod.snd (Prod.snd f)))), Prod.fst (Prod.snd (Prod.snd (Prod.snd (Prod.snd (Prod.snd f))))), Prod.fst (Prod.snd (Prod.snd (Prod.snd
 (Prod.snd (Prod.snd (Prod.snd f)))))), Prod.fst (Go.P9.bearsR f) + (1 : Int), Prod.snd (Prod.snd (Prod.snd (Prod.snd (Prod.snd (Prod.snd (Prod.snd (Prod.snd f)))))))))) == (4 : Int)) (K (Bool.true, ())) (K (Bool.false,
 ()))))))))))) (req (inR Go.IntKind.i64 (Prod.fst f + Go.P9.capR f - (1 : Int))) (Go.P9.bigF (Prod.fst f + Go.P9.capR f - (1 : Int), Prod.snd f) ∧ fork (decide (Go.P9.capR f > (0 : Int))) (fork (decide (Prod.fst f +
 Go.P9.capR f - (1 : Int) ≤ (1099511627776 : Int))) (fork (Prod.snd (Prod.snd (Go.P9.leastR (Prod.fst f + Go.P9.capR f - (1 : Int), Prod.snd f))) != (4 : Int)) (K (Bool.false, ())) (Go.P9.bigF f ∧ fork (Prod.snd
 (Go.P9.bearsR f) != (0 : Int)) (Go.P9.bigF (Prod.fst f, Prod.fst (Prod.snd f), Prod.fst (Prod.snd (Prod.snd f)), Prod.fst (Prod.snd (Prod.snd (Prod.snd f))), Prod.fst (Prod.snd (Prod.snd (Prod.snd (Prod.snd f)))),
 Prod.fst (Prod.snd (Prod.snd (Prod.snd (Prod.snd (Prod.snd f))))), Prod.fst (Prod.snd (Prod.snd (Prod.snd (Prod.snd (Prod.snd (Prod.snd f)))))), (0 : Int), Prod.snd (Prod.snd (Prod.snd (Prod.snd (Prod.snd (Prod.snd
 (Prod.snd (Prod.snd f)))))))) ∧ fork (Prod.snd (Go.P9.bearsR f) == (4 : Int)) (fork (Prod.snd (Prod.snd (Go.P9.leastR (Prod.fst f, Prod.fst (Prod.snd f), Prod.fst (Prod.snd (Prod.snd f)), Prod.fst (Prod.snd (Prod.snd
 (Prod.snd f))), Prod.fst (Prod.snd (Prod.snd (Prod.snd (Prod.snd f)))), Prod.fst (Prod.snd (Prod.snd (Prod.snd (Prod.snd (Prod.snd f))))), Prod.fst (Prod.snd (Prod.snd (Prod.snd (Prod.snd (Prod.snd (Prod.snd f)))))), (0
 : Int), Prod.snd (Prod.snd (Prod.snd (Prod.snd (Prod.snd (Prod.snd (Prod.snd (Prod.snd f)))))))))) == (4 : Int)) (K (Bool.true, ())) (K (Bool.false, ()))) (K (Bool.false, ()))) (fork (!decide ((0 : Int) ≤ Prod.fst
 (Go.P9.bearsR f) ∧ Prod.fst (Go.P9.bearsR f) ≤ (↑(List.length (Prod.fst (Prod.snd (Prod.snd (Prod.snd (Prod.snd (Prod.snd f))))))) : Int))) (K (Bool.false, ())) (Go.P9.bigF (Prod.fst f, Prod.fst (Prod.snd f), Prod.fst
 (Prod.snd (Prod.snd f)), Prod.fst (Prod.snd (Prod.snd (Prod.snd f))), Prod.fst (Prod.snd (Prod.snd (Prod.snd (Prod.snd f)))), Prod.fst (Prod.snd (Prod.snd (Prod.snd (Prod.snd (Prod.snd f))))), Prod.fst (Prod.snd
 (Prod.snd (Prod.snd (Prod.snd (Prod.snd (Prod.snd f)))))), Prod.fst (Go.P9.bearsR f), Prod.snd (Prod.snd (Prod.snd (Prod.snd (Prod.snd (Prod.snd (Prod.snd (Prod.snd f)))))))) ∧ fork (Prod.snd (Prod.snd (Go.P9.leastR
 (Prod.fst f, Prod.fst (Prod.snd f), Prod.fst (Prod.snd (Prod.snd f)), Prod.fst (Prod.snd (Prod.snd (Prod.snd f))), Prod.fst (Prod.snd (Prod.snd (Prod.snd (Prod.snd f)))), Prod.fst (Prod.snd (Prod.snd (Prod.snd (Prod.snd
 (Prod.snd f))))), Prod.fst (Prod.snd (Prod.snd (Prod.snd (Prod.snd (Prod.snd (Prod.snd f)))))), Prod.fst (Go.P9.bearsR f), Prod.snd (Prod.snd (Prod.snd (Prod.snd (Prod.snd (Prod.snd (Prod.snd (Prod.snd f)))))))))) != (0
 : Int)) (K (Bool.false, ())) (req (inR Go.IntKind.i64 (Prod.fst (Go.P9.bearsR f) + (1 : Int))) (Go.P9.bigF (Prod.fst f, Prod.fst (Prod.snd f), Prod.fst (Prod.snd (Prod.snd f)), Prod.fst (Prod.snd (Prod.snd (Prod.snd
 f))), Prod.fst (Prod.snd (Prod.snd (Prod.snd (Prod.snd f)))), Prod.fst (Prod.snd (Prod.snd (Prod.snd (Prod.snd (Prod.snd f))))), Prod.fst (Prod.snd (Prod.snd (Prod.snd (Prod.snd (Prod.snd (Prod.snd f)))))), Prod.fst
 (Go.P9.bearsR f) + (1 : Int), Prod.snd (Prod.snd (Prod.snd (Prod.snd (Prod.snd (Prod.snd (Prod.snd (Prod.snd f)))))))) ∧ fork (Prod.fst (Go.P9.bearsR f) == (↑(List.length (Prod.fst (Prod.snd (Prod.snd (Prod.snd (Prod.snd
 (Prod.snd f))))))) : Int)) (K (Bool.true, ())) (fork (Prod.snd (Prod.snd (Go.P9.leastR (Prod.fst f, Prod.fst (Prod.snd f), Prod.fst (Prod.snd (Prod.snd f)), Prod.fst (Prod.snd (Prod.snd (Prod.snd f))), Prod.fst (Prod.snd
 (Prod.snd (Prod.snd (Prod.snd f)))), Prod.fst (Prod.snd (Prod.snd (Prod.snd (Prod.snd (Prod.snd f))))), Prod.fst (Prod.snd (Prod.snd (Prod.snd (Prod.snd (Prod.snd (Prod.snd f)))))), Prod.fst (Go.P9.bearsR f) + (1 : Int),
 Prod.snd (Prod.snd (Prod.snd (Prod.snd (Prod.snd (Prod.snd (Prod.snd (Prod.snd f)))))))))) == (4 : Int)) (K (Bool.true, ())) (K (Bool.false, ()))))))))) (Go.P9.bigF f ∧ fork (Prod.snd (Go.P9.bearsR f) != (0 : Int))
 (Go.P9.bigF (Prod.fst f, Prod.fst (Prod.snd f), Prod.fst (Prod.snd (Prod.snd f)), Prod.fst (Prod.snd (Prod.snd (Prod.snd f))), Prod.fst (Prod.snd (Prod.snd (Prod.snd (Prod.snd f)))), Prod.fst (Prod.snd (Prod.snd
 (Prod.snd (Prod.snd (Prod.snd f))))), Prod.fst (Prod.snd (Prod.snd (Prod.snd (Prod.snd (Prod.snd (Prod.snd f)))))), (0 : Int), Prod.snd (Prod.snd (Prod.snd (Prod.snd (Prod.snd (Prod.snd (Prod.snd (Prod.snd f)))))))) ∧
 fork (Prod.snd (Go.P9.bearsR f) == (4 : Int)) (fork (Prod.snd (Prod.snd (Go.P9.leastR (Prod.fst f, Prod.fst (Prod.snd f), Prod.fst (Prod.snd (Prod.snd f)), Prod.fst (Prod.snd (Prod.snd (Prod.snd f))), Prod.fst (Prod.snd
 (Prod.snd (Prod.snd (Prod.snd f)))), Prod.fst (Prod.snd (Prod.snd (Prod.snd (Prod.snd (Prod.snd f))))), Prod.fst (Prod.snd (Prod.snd (Prod.snd (Prod.snd (Prod.snd (Prod.snd f)))))), (0 : Int), Prod.snd (Prod.snd
 (Prod.snd (Prod.snd (Prod.snd (Prod.snd (Prod.snd (Prod.snd f)))))))))) == (4 : Int)) (K (Bool.true, ())) (K (Bool.false, ()))) (K (Bool.false, ()))) (fork (!decide ((0 : Int) ≤ Prod.fst (Go.P9.bearsR f) ∧ Prod.fst
 (Go.P9.bearsR f) ≤ (↑(List.length (Prod.fst (Prod.snd (Prod.snd (Prod.snd (Prod.snd (Prod.snd f))))))) : Int))) (K (Bool.false, ())) (Go.P9.bigF (Prod.fst f, Prod.fst (Prod.snd f), Prod.fst (Prod.snd (Prod.snd f)),
 Prod.fst (Prod.snd (Prod.snd (Prod.snd f))), Prod.fst (Prod.snd (Prod.snd (Prod.snd (Prod.snd f)))), Prod.fst (Prod.snd (Prod.snd (Prod.snd (Prod.snd (Prod.snd f))))), Prod.fst (Prod.snd (Prod.snd (Prod.snd (Prod.snd
 (Prod.snd (Prod.snd f)))))), Prod.fst (Go.P9.bearsR f), Prod.snd (Prod.snd (Prod.snd (Prod.snd (Prod.snd (Prod.snd (Prod.snd (Prod.snd f)))))))) ∧ fork (Prod.snd (Prod.snd (Go.P9.leastR (Prod.fst f, Prod.fst (Prod.snd
 f), Prod.fst (Prod.snd (Prod.snd f)), Prod.fst (Prod.snd (Prod.snd (Prod.snd f))), Prod.fst (Prod.snd (Prod.snd (Prod.snd (Prod.snd f)))), Prod.fst (Prod.snd (Prod.snd (Prod.snd (Prod.snd (Prod.snd f))))), Prod.fst
 (Prod.snd (Prod.snd (Prod.snd (Prod.snd (Prod.snd (Prod.snd f)))))), Prod.fst (Go.P9.bearsR f), Prod.snd (Prod.snd (Prod.snd (Prod.snd (Prod.snd (Prod.snd (Prod.snd (Prod.snd f)))))))))) != (0 : Int)) (K (Bool.false,
 ())) (req (inR Go.IntKind.i64 (Prod.fst (Go.P9.bearsR f) + (1 : Int))) (Go.P9.bigF (Prod.fst f, Prod.fst (Prod.snd f), Prod.fst (Prod.snd (Prod.snd f)), Prod.fst (Prod.snd (Prod.snd (Prod.snd f))), Prod.fst (Prod.snd
 (Prod.snd (Prod.snd (Prod.snd f)))), Prod.fst (Prod.snd (Prod.snd (Prod.snd (Prod.snd (Prod.snd f))))), Prod.fst (Prod.snd (Prod.snd (Prod.snd (Prod.snd (Prod.snd (Prod.snd f)))))), Prod.fst (Go.P9.bearsR f) + (1 : Int),
 Prod.snd (Prod.snd (Prod.snd (Prod.snd (Prod.snd (Prod.snd (Prod.snd (Prod.snd f)))))))) ∧ fork (Prod.fst (Go.P9.bearsR f) == (↑(List.length (Prod.fst (Prod.snd (Prod.snd (Prod.snd (Prod.snd (Prod.snd f))))))) : Int)) (K
 (Bool.true, ())) (fork (Prod.snd (Prod.snd (Go.P9.leastR (Prod.fst f, Prod.fst (Prod.snd f), Prod.fst (Prod.snd (Prod.snd f)), Prod.fst (Prod.snd (Prod.snd (Prod.snd f))), Prod.fst (Prod.snd (Prod.snd (Prod.snd (Prod.snd
 f)))), Prod.fst (Prod.snd (Prod.snd (Prod.snd (Prod.snd (Prod.snd f))))), Prod.fst (Prod.snd (Prod.snd (Prod.snd (Prod.snd (Prod.snd (Prod.snd f)))))), Prod.fst (Go.P9.bearsR f) + (1 : Int), Prod.snd (Prod.snd (Prod.snd
 (Prod.snd (Prod.snd (Prod.snd (Prod.snd (Prod.snd f)))))))))) == (4 : Int)) (K (Bool.true, ())) (K (Bool.false, ()))))))))) (Go.P9.bigF f ∧ fork (Prod.snd (Go.P9.bearsR f) != (0 : Int)) (Go.P9.bigF (Prod.fst f, Prod.fst
 (Prod.snd f), Prod.fst (Prod.snd (Prod.snd f)), Prod.fst (Prod.snd (Prod.snd (Prod.snd f))), Prod.fst (Prod.snd (Prod.snd (Prod.snd (Prod.snd f)))), Prod.fst (Prod.snd (Prod.snd (Prod.snd (Prod.snd (Prod.snd f))))),
 Prod.fst (Prod.snd (Prod.snd (Prod.snd (Prod.snd (Prod.snd (Prod.snd f)))))), (0 : Int), Prod.snd (Prod.snd (Prod.snd (Prod.snd (Prod.snd (Prod.snd (Prod.snd (Prod.snd f)))))))) ∧ fork (Prod.snd (Go.P9.bearsR f) == (4 :
 Int)) (fork (Prod.snd (Prod.snd (Go.P9.leastR (Prod.fst f, Prod.fst (Prod.snd f), Prod.fst (Prod.snd (Prod.snd f)), Prod.fst (Prod.snd (Prod.snd (Prod.snd f))), Prod.fst (Prod.snd (Prod.snd (Prod.snd (Prod.snd f)))),
 Prod.fst (Prod.snd (Prod.snd (Prod.snd (Prod.snd (Prod.snd f))))), Prod.fst (Prod.snd (Prod.snd (Prod.snd (Prod.snd (Prod.snd (Prod.snd f)))))), (0 : Int), Prod.snd (Prod.snd (Prod.snd (Prod.snd (Prod.snd (Prod.snd
 (Prod.snd (Prod.snd f)))))))))) == (4 : Int)) (K (Bool.true, ())) (K (Bool.false, ()))) (K (Bool.false, ()))) (fork (!decide ((0 : Int) ≤ Prod.fst (Go.P9.bearsR f) ∧ Prod.fst (Go.P9.bearsR f) ≤ (↑(List.length (Prod.fst
 (Prod.snd (Prod.snd (Prod.snd (Prod.snd (Prod.snd f))))))) : Int))) (K (Bool.false, ())) (Go.P9.bigF (Prod.fst f, Prod.fst (Prod.snd f), Prod.fst (Prod.snd (Prod.snd f)), Prod.fst (Prod.snd (Prod.snd (Prod.snd f))),
 Prod.fst (Prod.snd (Prod.snd (Prod.snd (Prod.snd f)))), Prod.fst (Prod.snd (Prod.snd (Prod.snd (Prod.snd (Prod.snd f))))), Prod.fst (Prod.snd (Prod.snd (Prod.snd (Prod.snd (Prod.snd (Prod.snd f)))))), Prod.fst
 (Go.P9.bearsR f), Prod.snd (Prod.snd (Prod.snd (Prod.snd (Prod.snd (Prod.snd (Prod.snd (Prod.snd f)))))))) ∧ fork (Prod.snd (Prod.snd (Go.P9.leastR (Prod.fst f, Prod.fst (Prod.snd f), Prod.fst (Prod.snd (Prod.snd f)),
 Prod.fst (Prod.snd (Prod.snd (Prod.snd f))), Prod.fst (Prod.snd (Prod.snd (Prod.snd (Prod.snd f)))), Prod.fst (Prod.snd (Prod.snd (Prod.snd (Prod.snd (Prod.snd f))))), Prod.fst (Prod.snd (Prod.snd (Prod.snd (Prod.snd
 (Prod.snd (Prod.snd f)))))), Prod.fst (Go.P9.bearsR f), Prod.snd (Prod.snd (Prod.snd (Prod.snd (Prod.snd (Prod.snd (Prod.snd (Prod.snd f)))))))))) != (0 : Int)) (K (Bool.false, ())) (req (inR Go.IntKind.i64 (Prod.fst
 (Go.P9.bearsR f) + (1 : Int))) (Go.P9.bigF (Prod.fst f, Prod.fst (Prod.snd f), Prod.fst (Prod.snd (Prod.snd f)), Prod.fst (Prod.snd (Prod.snd (Prod.snd f))), Prod.fst (Prod.snd (Prod.snd (Prod.snd (Prod.snd f)))),
 Prod.fst (Prod.snd (Prod.snd (Prod.snd (Prod.snd (Prod.snd f))))), Prod.fst (Prod.snd (Prod.snd (Prod.snd (Prod.snd (Prod.snd (Prod.snd f)))))), Prod.fst (Go.P9.bearsR f) + (1 : Int), Prod.snd (Prod.snd (Prod.snd
 (Prod.snd (Prod.snd (Prod.snd (Prod.snd (Prod.snd f)))))))) ∧ fork (Prod.fst (Go.P9.bearsR f) == (↑(List.length (Prod.fst (Prod.snd (Prod.snd (Prod.snd (Prod.snd (Prod.snd f))))))) : Int)) (K (Bool.true, ())) (fork
 (Prod.snd (Prod.snd (Go.P9.leastR (Prod.fst f, Prod.fst (Prod.snd f), Prod.fst (Prod.snd (Prod.snd f)), Prod.fst (Prod.snd (Prod.snd (Prod.snd f))), Prod.fst (Prod.snd (Prod.snd (Prod.snd (Prod.snd f)))), Prod.fst
 (Prod.snd (Prod.snd (Prod.snd (Prod.snd (Prod.snd f))))), Prod.fst (Prod.snd (Prod.snd (Prod.snd (Prod.snd (Prod.snd (Prod.snd f)))))), Prod.fst (Go.P9.bearsR f) + (1 : Int), Prod.snd (Prod.snd (Prod.snd (Prod.snd
 (Prod.snd (Prod.snd (Prod.snd (Prod.snd f)))))))))) == (4 : Int)) (K (Bool.true, ())) (K (Bool.false, ()))))))))))))))) := by kernel_rfl

/-! the shop can pay -/
abbrev sh5b : SV := S [(2, bF), (3, .box 1 (.v TC)), (5, .v L), (6, .v E), (7, .v L), (8, .v I), (10, .own 2 L), (11, .v I), (12, .v .b), (13, .v E), (14, .v L), (15, .v I)]
abbrev sh5 : SV := S [(2, bF), (3, .box 1 (.v TC)), (5, .v L), (6, .v E), (7, .v L), (8, .v I), (10, .own 2 L), (11, .v I)]
abbrev sh5e : SV := S [(5, .v L), (6, .v E), (7, .v L), (8, .v I)]
def s5b (f : Fd) (c : Cs) (p : List Int) (e : Int) (l : List Int) (n : Int) (ps : List (List Int)) (i : Int) (is : Bool) (h : Int) (cash : List Int) (t : Int) (Q : LQ) : Prop :=
  ((cash.length : Int) ≤ 9223372036854775807 ∧ 0 ≤ t ∧ t ≤ cash.length ∧ (0 < cash.length → h = 0) ∧ (is = true → ∀ x ∈ cash, 0 ≤ x)) ∧ Q (.exit 2) (stS 3 sh5 (f, c, p, e, l, n, ps, i, ()))
abbrev lc5b : LC2 := ⟨0, sh5b, 3, fun (f, c, p, e, l, n, ps, i, is, h, cash, t, _) Q => s5b f c p e l n ps i is h cash t Q⟩
theorem v5b (f : Fd) (c : Cs) (p : List Int) (e : Int) (l : List Int) (n : Int) (ps : List (List Int)) (i : Int) (is : Bool) (h : Int) (cash : List Int) (t : Int) (Q : AX → St → Prop) : (xloop2 Try.prog {} 5 5 1 lc5b (fun _ => some (sh5, 3)) (fun (_, _, _, _, _, _, _, _, _, _, cash, t, _) => mL cash t) (f, c, p, e, l, n, ps, i, is, h, cash, t, ()) Q) =
(fork (decide (t < (↑(List.length cash) : Int))) (fork (h != (0 : Int)) (req (decide ((0 : Nat) + List.length ps ≤ List.length ps)) (Q AX.ret (stS (3 : Nat) Go.P9.sh5 (f, c, p, e, l, n, seg (0 : Nat) (List.length ps) ps,
 i, ())))) (fork is (req (decide ((0 : Int) ≤ t ∧ t < (↑(List.length cash) : Int))) (fork (decide (List.getD cash (Int.toNat t) (0 : Int) < (0 : Int))) (req (decide ((0 : Nat) + List.length ps ≤ List.length ps)) (Q AX.ret
 (stS (3 : Nat) Go.P9.sh5 (f, c, p, e, l, n, seg (0 : Nat) (List.length ps) ps, i, ())))) (req (inR Go.IntKind.i64 (t + (1 : Int))) (req (decide ((0 : Nat) + List.length ps ≤ List.length ps)) (Go.P9.mL cash (t + (1 :
 Int)) < Go.P9.mL cash t ∧ LC2.spec Go.P9.lc5b (f, c, p, e, l, n, seg (0 : Nat) (List.length ps) ps, i, is, h, cash, t + (1 : Int), ()) Q))))) (req (inR Go.IntKind.i64 (t + (1 : Int))) (req (decide ((0 : Nat) +
 List.length ps ≤ List.length ps)) (Go.P9.mL cash (t + (1 : Int)) < Go.P9.mL cash t ∧ LC2.spec Go.P9.lc5b (f, c, p, e, l, n, seg (0 : Nat) (List.length ps) ps, i, is, h, cash, t + (1 : Int), ()) Q))))) (req (decide ((0 :
 Nat) + List.length ps ≤ List.length ps)) (Q (AX.exit (2 : Nat)) (stS (3 : Nat) Go.P9.sh5 (f, c, p, e, l, n, seg (0 : Nat) (List.length ps) ps, i, ()))))) := by kernel_rfl
def s5a (f : Fd) (c : Cs) (p : List Int) (e : Int) (l : List Int) (n : Int) (ps : List (List Int)) (i : Int) (Q : LQ) : Prop :=
  (bigF f ∧ bigC c ∧ 0 ≤ i ∧ i ≤ ps.length ∧ ps.length ≤ 3 ∧ (∀ x ∈ ps, x.length ≤ 9223372036854775807) ∧ (∀ j, 0 < j → j < ps.length → okF f = true ∧ planB f (ps.getD j []) = true ∧ soundB f (ps.getD j []) = true)) ∧ Q (.exit 0) (stS 0 sh5e (p, e, l, n, ()))
abbrev lc5a : LC2 := ⟨0, sh5, 3, fun (f, c, p, e, l, n, ps, i, _) Q => s5a f c p e l n ps i Q⟩
theorem v5a (f : Fd) (c : Cs) (p : List Int) (e : Int) (l : List Int) (n : Int) (ps : List (List Int)) (i : Int) (Q : AX → St → Prop) : (xloop2 Try.prog { f := [(14, fcFollow), (17, fcSound)], l2 := [(5, 1, lc5b)] } 5 5 0 lc5a (fun _ => some (sh5e, 0)) (fun (_, _, _, _, _, _, ps, i, _) => mL ps i) (f, c, p, e, l, n, ps, i, ()) Q) =
(fork (decide (i < (↑(List.length ps) : Int))) (req (decide ((0 : Int) ≤ i ∧ i < (↑(List.length ps) : Int))) (req (decide (Int.toNat i + (0 : Nat) < List.length ps)) ((Go.P9.bigF f ∧ List.length (List.getD ps (Int.toNat
 i + (0 : Nat)) []) ≤ (9223372036854775807 : Nat)) ∧ fork (decide (i > (0 : Int))) (fork (Go.P9.soundE f (List.getD ps (Int.toNat i + (0 : Nat)) []) != (0 : Int)) (Q AX.ret (stS (0 : Nat) Go.P9.sh5e (p, e, l, n, ())))
 (fork (!(Go.P9.okF f && (Go.P9.planB f (List.getD ps (Int.toNat i + (0 : Nat)) []) && Go.P9.soundB f (List.getD ps (Int.toNat i + (0 : Nat)) [])))) (Q AX.ret (stS (0 : Nat) Go.P9.sh5e (p, e, l, n, ()))) (req (decide ((0
 : Int) ≤ i ∧ i < (↑(List.length ps) : Int))) (req (decide (Int.toNat i + (0 : Nat) < List.length ps)) ((Go.P9.bigF f ∧ Go.P9.bigC (List.getD ps (Int.toNat i + (0 : Nat)) [], Prod.snd c)) ∧ req (decide ((0 : Nat) +
 List.length ps ≤ List.length ps)) (((↑(List.length (Go.P9.folR f (List.getD ps (Int.toNat i + (0 : Nat)) [], Prod.snd c))) : Int) ≤ (9223372036854775807 : Int) ∧ (0 : Int) ≤ (0 : Int) ∧ (0 : Int) ≤ (↑(List.length
 (Go.P9.folR f (List.getD ps (Int.toNat i + (0 : Nat)) [], Prod.snd c))) : Int) ∧ ((0 : Nat) < List.length (Go.P9.folR f (List.getD ps (Int.toNat i + (0 : Nat)) [], Prod.snd c)) → Go.P9.folE f (List.getD ps (Int.toNat i +
 (0 : Nat)) [], Prod.snd c) = (0 : Int)) ∧ ((Go.P9.okF f && (Go.P9.planB f (List.getD ps (Int.toNat i + (0 : Nat)) []) && Go.P9.soundB f (List.getD ps (Int.toNat i + (0 : Nat)) []))) = Bool.true → ∀ (x : Int), x ∈
 Go.P9.folR f (List.getD ps (Int.toNat i + (0 : Nat)) [], Prod.snd c) → (0 : Int) ≤ x)) ∧ req (inR Go.IntKind.i64 (i + (1 : Int))) (req (decide ((0 : Nat) + List.length (seg (0 : Nat) (List.length ps) ps) ≤ List.length
 (seg (0 : Nat) (List.length ps) ps))) (Go.P9.mL (seg (0 : Nat) (List.length (seg (0 : Nat) (List.length ps) ps)) (seg (0 : Nat) (List.length ps) ps)) (i + (1 : Int)) < Go.P9.mL ps i ∧ LC2.spec Go.P9.lc5a (f, c, p, e, l,
 n, seg (0 : Nat) (List.length (seg (0 : Nat) (List.length ps) ps)) (seg (0 : Nat) (List.length ps) ps), i + (1 : Int), ()) Q)))))))) (req (decide ((0 : Int) ≤ i ∧ i < (↑(List.length ps) : Int))) (req (decide (Int.toNat i
 + (0 : Nat) < List.length ps)) ((Go.P9.bigF f ∧ Go.P9.bigC (List.getD ps (Int.toNat i + (0 : Nat)) [], Prod.snd c)) ∧ req (decide ((0 : Nat) + List.length ps ≤ List.length ps)) (((↑(List.length (Go.P9.folR f (List.getD
 ps (Int.toNat i + (0 : Nat)) [], Prod.snd c))) : Int) ≤ (9223372036854775807 : Int) ∧ (0 : Int) ≤ (0 : Int) ∧ (0 : Int) ≤ (↑(List.length (Go.P9.folR f (List.getD ps (Int.toNat i + (0 : Nat)) [], Prod.snd c))) : Int) ∧
 ((0 : Nat) < List.length (Go.P9.folR f (List.getD ps (Int.toNat i + (0 : Nat)) [], Prod.snd c)) → Go.P9.folE f (List.getD ps (Int.toNat i + (0 : Nat)) [], Prod.snd c) = (0 : Int)) ∧ ((Go.P9.okF f && (Go.P9.planB f
 (List.getD ps (Int.toNat i + (0 : Nat)) []) && Go.P9.soundB f (List.getD ps (Int.toNat i + (0 : Nat)) []))) = Bool.true → ∀ (x : Int), x ∈ Go.P9.folR f (List.getD ps (Int.toNat i + (0 : Nat)) [], Prod.snd c) → (0 : Int)
 ≤ x)) ∧ req (inR Go.IntKind.i64 (i + (1 : Int))) (req (decide ((0 : Nat) + List.length (seg (0 : Nat) (List.length ps) ps) ≤ List.length (seg (0 : Nat) (List.length ps) ps))) (Go.P9.mL (seg (0 : Nat) (List.length (seg (0
 : Nat) (List.length ps) ps)) (seg (0 : Nat) (List.length ps) ps)) (i + (1 : Int)) < Go.P9.mL ps i ∧ LC2.spec Go.P9.lc5a (f, c, p, e, l, n, seg (0 : Nat) (List.length (seg (0 : Nat) (List.length ps) ps)) (seg (0 : Nat)
 (List.length ps) ps), i + (1 : Int), ()) Q))))))))) (Q (AX.exit (0 : Nat)) (stS (0 : Nat) Go.P9.sh5e (p, e, l, n, ())))) := by kernel_rfl
abbrev fc5 : FC := ⟨[.v TF, .v TC], [.b], fun (f, c, _) K => (bigF f ∧ bigC c) ∧ K (true, ())⟩
theorem v5F (f : Fd) (c : Cs) (K : dens [.b] → Prop) : (xfn1 Try.prog { f := [(19, fcWorks), (20, fcLeast), (22, fcPlanE), (27, fcSum)], l2 := [(5, 0, lc5a)] } 5 5 fc5 (f, c, ()) K) =
(Go.P9.bigF f ∧ Go.P9.bigF f ∧ fork (Prod.snd (Prod.snd (Go.P9.leastR f)) != Prod.snd (Prod.snd (Go.P9.leastR f))) (K (Bool.false, ())) (fork (Prod.snd (Prod.snd (Go.P9.leastR f)) == (0 : Int)) ((Go.P9.bigF f ∧
 Go.P9.bigC c ∧ (0 : Int) ≤ (0 : Int) ∧ (0 : Int) ≤ (↑(List.length (seg (0 : Nat) ((1 : Nat) + List.length (seg (0 : Nat) (2 : Nat) [Prod.fst (Go.P9.leastR f), Prod.fst (Go.P9.leastR f)])) (seg (0 : Nat) (1 : Nat)
 [Prod.fst c] ++ seg (0 : Nat) (2 : Nat) [Prod.fst (Go.P9.leastR f), Prod.fst (Go.P9.leastR f)]))) : Int) ∧ List.length (seg (0 : Nat) ((1 : Nat) + List.length (seg (0 : Nat) (2 : Nat) [Prod.fst (Go.P9.leastR f), Prod.fst
 (Go.P9.leastR f)])) (seg (0 : Nat) (1 : Nat) [Prod.fst c] ++ seg (0 : Nat) (2 : Nat) [Prod.fst (Go.P9.leastR f), Prod.fst (Go.P9.leastR f)])) ≤ (3 : Nat) ∧ (∀ (x : List Int), x ∈ seg (0 : Nat) ((1 : Nat) + List.length
 (seg (0 : Nat) (2 : Nat) [Prod.fst (Go.P9.leastR f), Prod.fst (Go.P9.leastR f)])) (seg (0 : Nat) (1 : Nat) [Prod.fst c] ++ seg (0 : Nat) (2 : Nat) [Prod.fst (Go.P9.leastR f), Prod.fst (Go.P9.leastR f)]) → List.length x ≤
 (9223372036854775807 : Nat)) ∧ ∀ (j : Nat), (0 : Nat) < j → j < List.length (seg (0 : Nat) ((1 : Nat) + List.length (seg (0 : Nat) (2 : Nat) [Prod.fst (Go.P9.leastR f), Prod.fst (Go.P9.leastR f)])) (seg (0 : Nat) (1 :
 Nat) [Prod.fst c] ++ seg (0 : Nat) (2 : Nat) [Prod.fst (Go.P9.leastR f), Prod.fst (Go.P9.leastR f)])) → Go.P9.okF f = Bool.true ∧ Go.P9.planB f (List.getD (seg (0 : Nat) ((1 : Nat) + List.length (seg (0 : Nat) (2 : Nat)
 [Prod.fst (Go.P9.leastR f), Prod.fst (Go.P9.leastR f)])) (seg (0 : Nat) (1 : Nat) [Prod.fst c] ++ seg (0 : Nat) (2 : Nat) [Prod.fst (Go.P9.leastR f), Prod.fst (Go.P9.leastR f)])) j []) = Bool.true ∧ Go.P9.soundB f
 (List.getD (seg (0 : Nat) ((1 : Nat) + List.length (seg (0 : Nat) (2 : Nat) [Prod.fst (Go.P9.leastR f), Prod.fst (Go.P9.leastR f)])) (seg (0 : Nat) (1 : Nat) [Prod.fst c] ++ seg (0 : Nat) (2 : Nat) [Prod.fst
 (Go.P9.leastR f), Prod.fst (Go.P9.leastR f)])) j []) = Bool.true) ∧ fork (Prod.snd (Prod.snd (Go.P9.leastR f)) != (0 : Int)) (K (Bool.true, ())) ((List.length (Prod.fst (Go.P9.leastR f)) ≤ (9223372036854775807 : Nat) ∧
 Go.P9.fitS (0 : Int) (Prod.fst (Go.P9.leastR f))) ∧ fork (List.sum (Prod.fst (Go.P9.leastR f)) == Prod.fst (Prod.snd (Go.P9.leastR f))) ((List.length (Prod.fst (Go.P9.leastR f)) ≤ (9223372036854775807 : Nat) ∧ Go.P9.fitS
 (0 : Int) (Prod.fst (Go.P9.leastR f))) ∧ fork (decide (List.sum (Prod.fst (Go.P9.leastR f)) ≥ Prod.fst (Prod.snd (Go.P9.leastR f)))) (K (Bool.true, ())) (K (Bool.false, ()))) (K (Bool.false, ())))) ((Go.P9.bigF f ∧
 Go.P9.bigC c ∧ (0 : Int) ≤ (0 : Int) ∧ (0 : Int) ≤ (↑(List.length (seg (0 : Nat) (1 : Nat) [Prod.fst c])) : Int) ∧ List.length (seg (0 : Nat) (1 : Nat) [Prod.fst c]) ≤ (3 : Nat) ∧ (∀ (x : List Int), x ∈ seg (0 : Nat) (1
 : Nat) [Prod.fst c] → List.length x ≤ (9223372036854775807 : Nat)) ∧ ∀ (j : Nat), (0 : Nat) < j → j < List.length (seg (0 : Nat) (1 : Nat) [Prod.fst c]) → Go.P9.okF f = Bool.true ∧ Go.P9.planB f (List.getD (seg (0 : Nat)
 (1 : Nat) [Prod.fst c]) j []) = Bool.true ∧ Go.P9.soundB f (List.getD (seg (0 : Nat) (1 : Nat) [Prod.fst c]) j []) = Bool.true) ∧ fork (Prod.snd (Prod.snd (Go.P9.leastR f)) != (0 : Int)) (K (Bool.true, ())) ((List.length
 (Prod.fst (Go.P9.leastR f)) ≤ (9223372036854775807 : Nat) ∧ Go.P9.fitS (0 : Int) (Prod.fst (Go.P9.leastR f))) ∧ fork (List.sum (Prod.fst (Go.P9.leastR f)) == Prod.fst (Prod.snd (Go.P9.leastR f))) ((List.length (Prod.fst
 (Go.P9.leastR f)) ≤ (9223372036854775807 : Nat) ∧ Go.P9.fitS (0 : Int) (Prod.fst (Go.P9.leastR f))) ∧ fork (decide (List.sum (Prod.fst (Go.P9.leastR f)) ≥ Prod.fst (Prod.snd (Go.P9.leastR f)))) (K (Bool.true, ())) (K
 (Bool.false, ()))) (K (Bool.false, ())))))) := by kernel_rfl
end Go.P9
