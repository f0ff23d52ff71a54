/- Rolls: comparisons, a roll after calls, TicketRefuses: states and what is to be shown, reduced. No conditions. -/
import Derived.Test.YtcpdcpfbgmiaoaaDoorRollJ
set_option linter.unusedSimpArgs false
set_option linter.unusedVariables false
set_option linter.constructorNameAsVariable false
set_option maxRecDepth 100000
set_option maxHeartbeats 2000000
namespace Go.P3
open Go.Lom Go.Proofs Go

abbrev LE : Ty := .sl E5
abbrev LK : Ty := .sl T6
abbrev sh37 : SV := S [(0, .v LE), (1, .v LE), (5, .v I)]
abbrev lc37 : LC2 := ⟨0, sh37, 0, fun (a, b, i, _) Q => (a = b ∧ a.length ≤ 1000 ∧ 0 ≤ i ∧ i ≤ a.length) ∧ Q (.exit 0) (stS 0 .nil ())⟩
theorem v37L (a : List Ev) (i : Int) (Q : AX → St → Prop) : (xloop2 Tryd.prog {} 5 37 0 lc37 exB4 (fun (a, _, i, _) => mL a i) (a, a, i, ()) Q) =
  (fork (decide (i < (↑(a.length) : Int))) (req (decide ((0 : Int) ≤ i ∧ i < (↑(a.length) : Int))) (req (decide ((0 : Int) ≤ i ∧ i < (↑(a.length) : Int))) (fork (!((List.getD a (Int.toNat i) (0, 0, 0, 0, 0)).1 == (List.getD
 a (Int.toNat i) (0, 0, 0, 0, 0)).1 && ((List.getD a (Int.toNat i) (0, 0, 0, 0, 0)).2.1 == (List.getD a (Int.toNat i) (0, 0, 0, 0, 0)).2.1 && ((List.getD a (Int.toNat i) (0, 0, 0, 0, 0)).2.2.1 == (List.getD a (Int.toNat i)
 (0, 0, 0, 0, 0)).2.2.1 && ((List.getD a (Int.toNat i) (0, 0, 0, 0, 0)).2.2.2.1 == (List.getD a (Int.toNat i) (0, 0, 0, 0, 0)).2.2.2.1 && ((List.getD a (Int.toNat i) (0, 0, 0, 0, 0)).2.2.2.2 == (List.getD a (Int.toNat i)
 (0, 0, 0, 0, 0)).2.2.2.2 && true)))))) (Q AX.ret (stS 0 shB4 (false, ()))) (req (inR IntKind.i64 (i + 1)) (mL a (i + 1) < mL a i ∧ LC2.spec lc37 (a, a, i + 1, ()) Q))))) (Q (AX.exit 0) (stS 0 SV.nil ()))) := by kernel_rfl
abbrev fcSameE : FC := ⟨[.v LE, .v LE], [.b], fun x K => (x.1 = x.2.1 ∧ x.1.length ≤ 1000) ∧ K (true, ())⟩
theorem v37F (a : List Ev) (K : dens [.b] → Prop) : (xfn1 Tryd.prog { l2 := [(37, 0, lc37)] } 5 37 fcSameE (a, a, ()) K) =
  (fork ((↑(a.length) : Int) != (↑(a.length) : Int)) (K (false, ())) ((a = a ∧ a.length ≤ 1000 ∧ (0 : SV.den (SV.slot 5 (SV.v I))) ≤ (0 : Int) ∧ (0 : Int) ≤ (↑(a.length) : SV.den (SV.slot 5 (SV.v I)))) ∧ K (true, ()))) := by kernel_rfl
abbrev sh36 : SV := S [(0, .v LK), (1, .v LK), (5, .v I)]
abbrev lc36 : LC2 := ⟨0, sh36, 0, fun (a, b, i, _) Q => (a = b ∧ a.length ≤ 1000 ∧ 0 ≤ i ∧ i ≤ a.length ∧ ∀ t ∈ a, t.2.2.2.1.length ≤ 100) ∧ Q (.exit 0) (stS 0 .nil ())⟩
theorem v36L (a : List Tk) (i : Int) (Q : AX → St → Prop) : (xloop2 Tryd.prog { f := [(20, fcSame)] } 5 36 0 lc36 exB4 (fun (a, _, i, _) => mL a i) (a, a, i, ()) Q) =
  (fork (decide (i < (↑(a.length) : Int))) (req (decide ((0 : Int) ≤ i ∧ i < (↑(a.length) : Int))) (req (decide ((0 : Int) ≤ i ∧ i < (↑(a.length) : Int))) (AV.agg [AV.int IntKind.i64 ((List.getD a (Int.toNat i) (0, [], 0,
 [], 0, 0)).1), AV.str ((List.getD a (Int.toNat i) (0, [], 0, [], 0, 0)).2.1), AV.int IntKind.i64 ((List.getD a (Int.toNat i) (0, [], 0, [], 0, 0)).2.2.1), AV.rl I ((List.getD a (Int.toNat i) (0, [], 0, [], 0,
 0)).2.2.2.1), AV.int IntKind.i64 ((List.getD a (Int.toNat i) (0, [], 0, [], 0, 0)).2.2.2.2.1), AV.int IntKind.i64 ((List.getD a (Int.toNat i) (0, [], 0, [], 0, 0)).2.2.2.2.2)] = AV.agg [AV.int IntKind.i64 ((List.getD a
 (Int.toNat i) (0, [], 0, [], 0, 0)).1), AV.str ((List.getD a (Int.toNat i) (0, [], 0, [], 0, 0)).2.1), AV.int IntKind.i64 ((List.getD a (Int.toNat i) (0, [], 0, [], 0, 0)).2.2.1), AV.rl I ((List.getD a (Int.toNat i) (0,
 [], 0, [], 0, 0)).2.2.2.1), AV.int IntKind.i64 ((List.getD a (Int.toNat i) (0, [], 0, [], 0, 0)).2.2.2.2.1), AV.int IntKind.i64 ((List.getD a (Int.toNat i) (0, [], 0, [], 0, 0)).2.2.2.2.2)] ∧ AV.agg [AV.int IntKind.i64
 ((List.getD a (Int.toNat i) (0, [], 0, [], 0, 0)).1), AV.str ((List.getD a (Int.toNat i) (0, [], 0, [], 0, 0)).2.1), AV.int IntKind.i64 ((List.getD a (Int.toNat i) (0, [], 0, [], 0, 0)).2.2.1), AV.rl I ((List.getD a
 (Int.toNat i) (0, [], 0, [], 0, 0)).2.2.2.1), AV.int IntKind.i64 ((List.getD a (Int.toNat i) (0, [], 0, [], 0, 0)).2.2.2.2.1), AV.int IntKind.i64 ((List.getD a (Int.toNat i) (0, [], 0, [], 0, 0)).2.2.2.2.2)] = AV.agg
 [AV.int IntKind.i64 ((List.getD a (Int.toNat i) (0, [], 0, [], 0, 0)).1), AV.str ((List.getD a (Int.toNat i) (0, [], 0, [], 0, 0)).2.1), AV.int IntKind.i64 ((List.getD a (Int.toNat i) (0, [], 0, [], 0, 0)).2.2.1), AV.rl I
 ((List.getD a (Int.toNat i) (0, [], 0, [], 0, 0)).2.2.2.1), AV.int IntKind.i64 ((List.getD a (Int.toNat i) (0, [], 0, [], 0, 0)).2.2.2.2.1), AV.int IntKind.i64 ((List.getD a (Int.toNat i) (0, [], 0, [], 0, 0)).2.2.2.2.2)]
 ∧ AV.agg [AV.int IntKind.i64 ((List.getD a (Int.toNat i) (0, [], 0, [], 0, 0)).1), AV.str ((List.getD a (Int.toNat i) (0, [], 0, [], 0, 0)).2.1), AV.int IntKind.i64 ((List.getD a (Int.toNat i) (0, [], 0, [], 0,
 0)).2.2.1), AV.rl I ((List.getD a (Int.toNat i) (0, [], 0, [], 0, 0)).2.2.2.1), AV.int IntKind.i64 ((List.getD a (Int.toNat i) (0, [], 0, [], 0, 0)).2.2.2.2.1), AV.int IntKind.i64 ((List.getD a (Int.toNat i) (0, [], 0,
 [], 0, 0)).2.2.2.2.2)] = AV.agg [AV.int IntKind.i64 ((List.getD a (Int.toNat i) (0, [], 0, [], 0, 0)).1), AV.str ((List.getD a (Int.toNat i) (0, [], 0, [], 0, 0)).2.1), AV.int IntKind.i64 ((List.getD a (Int.toNat i) (0,
 [], 0, [], 0, 0)).2.2.1), AV.rl I ((List.getD a (Int.toNat i) (0, [], 0, [], 0, 0)).2.2.2.1), AV.int IntKind.i64 ((List.getD a (Int.toNat i) (0, [], 0, [], 0, 0)).2.2.2.2.1), AV.int IntKind.i64 ((List.getD a (Int.toNat i)
 (0, [], 0, [], 0, 0)).2.2.2.2.2)] ∧ AV.agg [AV.int IntKind.i64 ((List.getD a (Int.toNat i) (0, [], 0, [], 0, 0)).1), AV.str ((List.getD a (Int.toNat i) (0, [], 0, [], 0, 0)).2.1), AV.int IntKind.i64 ((List.getD a
 (Int.toNat i) (0, [], 0, [], 0, 0)).2.2.1), AV.rl I ((List.getD a (Int.toNat i) (0, [], 0, [], 0, 0)).2.2.2.1), AV.int IntKind.i64 ((List.getD a (Int.toNat i) (0, [], 0, [], 0, 0)).2.2.2.2.1), AV.int IntKind.i64
 ((List.getD a (Int.toNat i) (0, [], 0, [], 0, 0)).2.2.2.2.2)] = AV.agg [AV.int IntKind.i64 ((List.getD a (Int.toNat i) (0, [], 0, [], 0, 0)).1), AV.str ((List.getD a (Int.toNat i) (0, [], 0, [], 0, 0)).2.1), AV.int
 IntKind.i64 ((List.getD a (Int.toNat i) (0, [], 0, [], 0, 0)).2.2.1), AV.rl I ((List.getD a (Int.toNat i) (0, [], 0, [], 0, 0)).2.2.2.1), AV.int IntKind.i64 ((List.getD a (Int.toNat i) (0, [], 0, [], 0, 0)).2.2.2.2.1),
 AV.int IntKind.i64 ((List.getD a (Int.toNat i) (0, [], 0, [], 0, 0)).2.2.2.2.2)] ∧ AV.agg [AV.int IntKind.i64 ((List.getD a (Int.toNat i) (0, [], 0, [], 0, 0)).1), AV.str ((List.getD a (Int.toNat i) (0, [], 0, [], 0,
 0)).2.1), AV.int IntKind.i64 ((List.getD a (Int.toNat i) (0, [], 0, [], 0, 0)).2.2.1), AV.rl I ((List.getD a (Int.toNat i) (0, [], 0, [], 0, 0)).2.2.2.1), AV.int IntKind.i64 ((List.getD a (Int.toNat i) (0, [], 0, [], 0,
 0)).2.2.2.2.1), AV.int IntKind.i64 ((List.getD a (Int.toNat i) (0, [], 0, [], 0, 0)).2.2.2.2.2)] = AV.agg [AV.int IntKind.i64 ((List.getD a (Int.toNat i) (0, [], 0, [], 0, 0)).1), AV.str ((List.getD a (Int.toNat i) (0,
 [], 0, [], 0, 0)).2.1), AV.int IntKind.i64 ((List.getD a (Int.toNat i) (0, [], 0, [], 0, 0)).2.2.1), AV.rl I ((List.getD a (Int.toNat i) (0, [], 0, [], 0, 0)).2.2.2.1), AV.int IntKind.i64 ((List.getD a (Int.toNat i) (0,
 [], 0, [], 0, 0)).2.2.2.2.1), AV.int IntKind.i64 ((List.getD a (Int.toNat i) (0, [], 0, [], 0, 0)).2.2.2.2.2)] ∧ fork ((List.getD a (Int.toNat i) (0, [], 0, [], 0, 0)).1 != (List.getD a (Int.toNat i) (0, [], 0, [], 0,
 0)).1) (Q AX.ret (stS 0 shB4 (false, ()))) (fork (!(List.getD a (Int.toNat i) (0, [], 0, [], 0, 0)).2.1 == (List.getD a (Int.toNat i) (0, [], 0, [], 0, 0)).2.1) (Q AX.ret (stS 0 shB4 (false, ()))) (fork ((List.getD a
 (Int.toNat i) (0, [], 0, [], 0, 0)).2.2.1 != (List.getD a (Int.toNat i) (0, [], 0, [], 0, 0)).2.2.1) (Q AX.ret (stS 0 shB4 (false, ()))) (fork ((List.getD a (Int.toNat i) (0, [], 0, [], 0, 0)).2.2.2.2.1 != (List.getD a
 (Int.toNat i) (0, [], 0, [], 0, 0)).2.2.2.2.1) (Q AX.ret (stS 0 shB4 (false, ()))) (fork ((List.getD a (Int.toNat i) (0, [], 0, [], 0, 0)).2.2.2.2.2 != (List.getD a (Int.toNat i) (0, [], 0, [], 0, 0)).2.2.2.2.2) (Q AX.ret
 (stS 0 shB4 (false, ()))) (((List.getD a (Int.toNat i) (0, [], 0, [], 0, 0)).2.2.2.1 = (List.getD a (Int.toNat i) (0, [], 0, [], 0, 0)).2.2.2.1 ∧ List.length ((List.getD a (Int.toNat i) (0, [], 0, [], 0, 0)).2.2.2.1) ≤
 100000) ∧ req (inR IntKind.i64 (i + 1)) (mL a (i + 1) < mL a i ∧ LC2.spec lc36 (a, a, i + 1, ()) Q))))))))) (Q (AX.exit 0) (stS 0 SV.nil ()))) := by kernel_rfl
abbrev fcSameT : FC := ⟨[.v LK, .v LK], [.b], fun x K => (x.1 = x.2.1 ∧ x.1.length ≤ 1000 ∧ ∀ t ∈ x.1, t.2.2.2.1.length ≤ 100) ∧ K (true, ())⟩
theorem v36F (a : List Tk) (K : dens [.b] → Prop) : (xfn1 Tryd.prog { l2 := [(36, 0, lc36)] } 5 36 fcSameT (a, a, ()) K) =
  (fork ((↑(a.length) : Int) != (↑(a.length) : Int)) (K (false, ())) ((a = a ∧ a.length ≤ 1000 ∧ (0 : SV.den (SV.slot 5 (SV.v I))) ≤ (0 : Int) ∧ (0 : Int) ≤ (↑(a.length) : SV.den (SV.slot 5 (SV.v I))) ∧ ∀ (t : Ty.den T6), t
 ∈ a → List.length (t.2.2.2.1) ≤ 100) ∧ K (true, ()))) := by kernel_rfl
/-! a roll after calls -/
/-! TicketRefuses -/
end Go.P3
