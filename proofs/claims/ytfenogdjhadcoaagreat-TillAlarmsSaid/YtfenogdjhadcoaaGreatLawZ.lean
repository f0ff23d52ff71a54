/- TillAlarms: states and what is to be shown, reduced. No conditions. -/
import Derived.Test.YtfenogdjhadcoaaGreatRefZ2
set_option linter.unusedSimpArgs false
set_option linter.unusedVariables false
set_option linter.constructorNameAsVariable false
set_option maxRecDepth 100000
set_option maxHeartbeats 2000000
namespace Go.P8
open Go.Lom Go.Proofs Go

abbrev TRep : Ty := .pr LD (.pr L2 TW)
abbrev fcWorks : FC := ⟨[], [.b], fun _ K => K (true, ())⟩
abbrev sh14 : SV := S [(0, .v L), (1, .v L), (5, .v .b), (6, .v I)]
abbrev sh14e : SV := S [(5, .v .b)]
abbrev lc14 : LC2 := ⟨0, sh14, 0, fun (a, b, ok, i, _) Q => (0 ≤ i ∧ a.length ≤ big ∧ (ok = true → a.length = b.length ∧ i ≤ a.length)) ∧ ∀ r : Bool, r = (ok && decide (a.drop i.toNat = b.drop i.toNat)) → Q (.exit 0) (stS 0 sh14e (r, ()))⟩
theorem v14L (a b : List Int) (ok : Bool) (i : Int) (Q : AX → St → Prop) : (xloop2 Tryz.prog {} 5 6 0 lc14 (fun _ => some (sh14e, 0)) (fun (a, _, _, i, _) => (a.length + 1 - i).toNat) (a, b, ok, i, ()) Q) =
  (fork ok (fork (decide (i < (↑(a.length) : Int))) (req (decide ((0 : Int) ≤ i ∧ i < (↑(a.length) : Int))) (req (decide ((0 : Int) ≤ i ∧ i < (↑(b.length) : Int))) (req (inR IntKind.i64 (i + 1)) (Int.toNat ((↑(a.length) :
 SV.den (SV.slot 6 (SV.v Go.P8.I))) + (1 : SV.den (SV.slot 6 (SV.v Go.P8.I))) - (i + 1)) < Int.toNat ((↑(a.length) : SV.den (SV.slot 6 (SV.v Go.P8.I))) + (1 : SV.den (SV.slot 6 (SV.v Go.P8.I))) - i) ∧ LC2.spec Go.P8.lc14
 (a, b, List.getD a (Int.toNat i) (0 : Int) == List.getD b (Int.toNat i) (0 : Int), i + 1, ()) Q)))) (Q (AX.exit 0) (stS 0 Go.P8.sh14e (ok, ())))) (Q (AX.exit 0) (stS 0 Go.P8.sh14e (ok, ())))) := by kernel_rfl
abbrev fcSame : FC := ⟨[.v L, .v L], [.b], fun x K => x.1.length ≤ big ∧ ∀ r : Bool, r = decide (x.1 = x.2.1) → K (r, ())⟩
theorem v14F (a b : List Int) (K : dens [.b] → Prop) : (xfn1 Tryz.prog { l2 := [(6, 0, lc14)] } 5 6 fcSame (a, b, ()) K) =
  (((0 : SV.den (SV.slot 6 (SV.v Go.P8.I))) ≤ (0 : Int) ∧ a.length ≤ 9223372036854775807 ∧ (((↑(a.length) : Int) == (↑(b.length) : Int)) = true → a.length = b.length ∧ (0 : Int) ≤ (↑(a.length) : SV.den (SV.slot 6 (SV.v
 Go.P8.I))))) ∧ ∀ (r : Bool), r = ((↑(a.length) : Int) == (↑(b.length) : Int) && decide (List.drop 0 a = List.drop 0 b)) → K (r, ())) := by kernel_rfl
abbrev sh3z : SV := S [(1, .v I), (2, .box 0 (.v TRep)), (9, .v LD), (10, .v LD), (11, .v I)]
abbrev sh3ze : SV := S [(1, .v I), (2, .box 0 (.v TRep))]
abbrev lc3z : LC2 := ⟨0, sh3z, 1, fun (k, x, a, b, i, _) Q => (a = b ∧ a.length ≤ 64 ∧ 0 ≤ i ∧ i ≤ a.length) ∧ Q (.exit 0) (stS 1 sh3ze (k, x, ()))⟩
theorem v3Z (k : Int) (l : List Dl) (ls : List Lk) (w : Wt) (a b : List Dl) (i : Int) (Q : AX → St → Prop) : (xloop2 Tryz.prog {} 5 3 0 lc3z (fun _ => some (sh3ze, 1)) (fun (_, _, a, _, i, _) => mL a i) (k, (l, ls, w), a, b, i, ()) Q) =
  (fork (decide (i < (↑(a.length) : Int))) (req (decide ((0 : Int) ≤ i ∧ i < (↑(a.length) : Int))) (req (decide ((0 : Int) ≤ i ∧ i < (↑(b.length) : Int))) (fork (!((List.getD a (Int.toNat i) ((0 : Int), (0 : Int), (0 :
 Int))).1 == (List.getD b (Int.toNat i) ((0 : Int), (0 : Int), (0 : Int))).1 && ((List.getD a (Int.toNat i) ((0 : Int), (0 : Int), (0 : Int))).2.1 == (List.getD b (Int.toNat i) ((0 : Int), (0 : Int), (0 : Int))).2.1 &&
 ((List.getD a (Int.toNat i) ((0 : Int), (0 : Int), (0 : Int))).2.2 == (List.getD b (Int.toNat i) ((0 : Int), (0 : Int), (0 : Int))).2.2 && true)))) (Q AX.ret (stS 1 Go.P8.sh3ze (k, (l, ls, w), ()))) (req (inR IntKind.i64
 (i + 1)) (Go.P8.mL a (i + 1) < Go.P8.mL a i ∧ LC2.spec Go.P8.lc3z (k, (l, ls, w), a, b, i + 1, ()) Q))))) (Q (AX.exit 0) (stS 1 Go.P8.sh3ze (k, (l, ls, w), ())))) := by kernel_rfl
abbrev fc3z : FC := ⟨[.v TRep, .v I], [.b], fun x K => (x.1.1.length ≤ big ∧ x.1.2.1.length ≤ big) ∧ K (true, ())⟩
theorem v3ZF (l : List Dl) (ls : List Lk) (w : Wt) (k : Int) (K : dens [.b] → Prop) : (xfn1 Tryz.prog { f := [(4, fcLinked), (5, fcLinked), (6, fcSame), (7, fcAlarms), (8, fcAlarms), (9, fcReas), (10, fcReas), (11, fcWorks)], l2 := [(3, 0, lc3z)] } 5 3 fc3z ((l, ls, w), k, ()) K) =
  (ls.length ≤ 9223372036854775807 ∧ ∀ (r : List Int) (e : Int), (r, e) = Go.P8.linkedR ls → (Go.P8.linkedOk ls = true → Go.P8.HeadsOk ls (Go.P8.headOf ls)) → ls.length ≤ 9223372036854775807 ∧ ∀ (r_1 : List Int) (e_1 :
 Int), (r_1, e_1) = Go.P8.linkedR ls → (Go.P8.linkedOk ls = true → Go.P8.HeadsOk ls (Go.P8.headOf ls)) → r.length ≤ 9223372036854775807 ∧ ∀ (r_2 : Bool), r_2 = decide (r = r_1) → fork (!r_2) (K (false, ())) (fork (e !=
 e_1) (K (false, ())) ((l.length ≤ 9223372036854775807 ∧ ls.length ≤ 9223372036854775807) ∧ ∀ (r : List Go.P8.Dl) (e : Int), (r, e) = Go.P8.alarmsR l ls w → (l.length ≤ 9223372036854775807 ∧ ls.length ≤
 9223372036854775807) ∧ ∀ (r_3 : List Go.P8.Dl) (e_2 : Int), (r_3, e_2) = Go.P8.alarmsR l ls w → fork ((↑(r.length) : Int) != (↑(r_3.length) : Int)) (K (false, ())) (fork (e != e_2) (K (false, ())) ((r = r_3 ∧ r.length ≤
 64 ∧ (0 : SV.den (SV.slot 11 (SV.v Go.P8.I))) ≤ (0 : Int) ∧ (0 : Int) ≤ (↑(r.length) : SV.den (SV.slot 11 (SV.v Go.P8.I)))) ∧ (l.length ≤ 9223372036854775807 ∧ ls.length ≤ 9223372036854775807) ∧ ∀ (r : List Int) (e :
 Int), (r, e) = Go.P8.reasonsF l ls w k → (l.length ≤ 9223372036854775807 ∧ ls.length ≤ 9223372036854775807) ∧ ∀ (r_4 : List Int) (e_3 : Int), (r_4, e_3) = Go.P8.reasonsF l ls w k → r.length ≤ 9223372036854775807 ∧ ∀ (r_5
 : Bool), r_5 = decide (r = r_4) → fork r_5 (fork (e == e_3) (K (true, ())) (K (false, ()))) (K (false, ()))))))) := by kernel_rfl
end Go.P8
