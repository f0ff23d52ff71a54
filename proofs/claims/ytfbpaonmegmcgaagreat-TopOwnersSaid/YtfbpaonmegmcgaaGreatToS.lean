/- TopOwners: states and what is to be shown, reduced. No conditions. -/
import Derived.Test.YtfbpaonmegmcgaaGreatTaLeast2S
import Derived.Test.YtfbpaonmegmcgaaGreatTaFollowS
import Derived.Test.YtfbpaonmegmcgaaGreatTbShareS
import Derived.Test.YtfbpaonmegmcgaaGreatTbFairS
set_option linter.all false
set_option maxRecDepth 100000
set_option maxHeartbeats 2000000
namespace Go.PT
open Go.Lom Go.Proofs Go Go.P9
abbrev T3c : Ty := .pr TR (.pr L L)
abbrev C3 : Type := Rn × List Int × List Int
abbrev sh3a : SV := S [(3, .box 0 (.v TF)), (5, .box 1 (.v T3c)), (7, .v I), (9, .v L), (11, .box 2 (.v TF)), (12, .v I)]
abbrev sh3ae : SV := S [(3, .box 0 (.v TF)), (5, .box 1 (.v T3c)), (7, .v I), (9, .v L), (11, .box 2 (.v TF))]
abbrev lc3a : LC2 := ⟨0, sh3a, 3, fun (f, c, n, l, x, i, _) Q => ((0 <= i /\ i <= l.length) /\ l.length <= 9223372036854775807 /\ (∀ y ∈ l, 0 <= y) /\ 0 <= x.1 /\ x.1 + (l.drop i.toNat).sum <= 2199023255552) /\ ∀ z : Int, z = x.1 + (l.drop i.toNat).sum -> Q (.exit 0) (stS 3 sh3ae (f, c, n, l, (z, x.2), ()))⟩
theorem v3a (f : P9.Fd) (c : C3) (n : Int) (l : List Int) (x : P9.Fd) (i : Int) (Q : AX -> St -> Prop) : (xloop2 Tryz.prog { nm := true } 5 3 0 lc3a (fun _ => some (sh3ae, 3)) (fun (_, _, _, l, _, i, _) => mL l i) (f, c, n, l, x, i, ()) Q) =
 (fork (decide (i < (↑(l.length) : Int))) (req (decide ((0 : Int) <= i /\ i < (↑(l.length) : Int))) (req (inR IntKind.i64 (x.1 + List.getD l (Int.toNat i) (0 : Int))) (req (inR IntKind.i64 (i + 1)) (P9.mL l (i + 1) < P9.mL l
 i /\ LC2.spec Go.PT.lc3a (f, c, n, l, (x.1 + List.getD l (Int.toNat i) (0 : Int), x.2), i + 1, ()) Q)))) (Q (AX.exit 0) (stS 3 Go.PT.sh3ae (f, c, n, l, x, ())))) := by kernel_rfl
abbrev sh3b : SV := S [(7, .v I), (9, .v L), (10, .v E), (11, .box 0 (.v TF)), (14, .v L), (15, .v I)]
abbrev sh3be : SV := S [(7, .v I), (9, .v L), (10, .v E), (11, .box 0 (.v TF))]
def ex3b : Ex2
 | .ret => some (S [(6, .v .b)], 0)
 | _ => some (sh3be, 1)
abbrev lc3b : LC2 := ⟨0, sh3b, 1, fun (n, l, g, x, cs, i, _) Q => ((0 <= i /\ i <= cs.length /\ cs.length <= 9223372036854775807) /\ ∀ y ∈ cs, 0 <= y) /\ Q (.exit 2) (stS 1 sh3be (n, l, g, x, ()))⟩
theorem v3b (n : Int) (l : List Int) (g : Int) (x : P9.Fd) (cs : List Int) (i : Int) (Q : AX -> St -> Prop) : (xloop2 Tryz.prog { nm := true } 5 3 1 lc3b ex3b (fun (_, _, _, _, cs, i, _) => mL cs i) (n, l, g, x, cs, i, ()) Q) =
 (fork (decide (i < (↑(cs.length) : Int))) (req (decide ((0 : Int) <= i /\ i < (↑(cs.length) : Int))) (fork (decide (List.getD cs (Int.toNat i) (0 : Int) < (0 : Int))) (Q AX.ret (stS 0 (P9.S [(6, SV.v Ty.b)]) (false, ())))
 (req (inR IntKind.i64 (i + 1)) (P9.mL cs (i + 1) < P9.mL cs i /\ LC2.spec Go.PT.lc3b (n, l, g, x, cs, i + 1, ()) Q)))) (Q (AX.exit 2) (stS 1 Go.PT.sh3be (n, l, g, x, ())))) := by kernel_rfl
abbrev fcOwn : FC := ⟨[], [.b], fun _ K => K (true, ())⟩
abbrev fc3 : FC := ⟨[.v TF, .v L, .v T3c], [.b], fun (f, w, c, _) K => (bigF f /\ w.length <= 9223372036854775807 /\ bigR c.1 /\ c.2.1.length <= 9223372036854775807 /\ c.2.2.length <= 9223372036854775807) /\ K (true, ())⟩
theorem v3F (f : P9.Fd) (w : List Int) (c : C3) (K : dens [.b] -> Prop) : (xfn1 Tryz.prog { nm := true, f := [(4, fcCap), (5, P7.fcSh), (6, fcOwn), (7, fcPlanE), (8, fcFollow), (9, fcSum)], l2 := [(3, 0, lc3a), (3, 1, lc3b)] } 5 3 fc3 (f, w, c, ()) K) =
 (P9.bigF f /\ w.length <= 9223372036854775807 /\ ∀ (r : List Int) (e : Int), P7.shareR w (P9.capR f) = (r, e) -> fork (P9.chkE f != (0 : Int)) (K (true, ())) (fork (e != (0 : Int)) (K (true, ())) (req (inR IntKind.i64 (f.1 +
 P9.capR f)) (fork (decide (f.1 + P9.capR f > (1099511627776 : Int))) (K (true, ())) ((((0 : SV.den (SV.slot 12 (SV.v P9.I))) <= (0 : Int) /\ (0 : Int) <= (↑(r.length) : SV.den (SV.slot 12 (SV.v P9.I)))) /\ r.length <=
 9223372036854775807 /\ (∀ (y : Ty.den P9.I), y ∈ r -> (0 : Ty.den P9.I) <= y) /\ (0 : Ty.den P9.I) <= f.1 /\ f.1 + List.sum (List.drop 0 r) <= (2199023255552 : Ty.den P9.I)) /\ ∀ (z : Int), z = f.1 + List.sum (List.drop 0 r) ->
 P9.bigF (z, f.2) /\ fork ((P9.leastR (z, f.2)).2.2 != (0 : Int)) (K (false, ())) (req (inR IntKind.i64 (f.1 + P9.capR f)) (fork (z != f.1 + P9.capR f) (K (false, ())) ((P9.bigF (z, f.2) /\ P9.bigC ((P9.leastR (z, f.2)).1,
 c)) /\ (((0 : SV.den (SV.slot 15 (SV.v P9.I))) <= (0 : Int) /\ (0 : Int) <= (↑(List.length (P9.folR (z, f.2) ((P9.leastR (z, f.2)).1, c))) : SV.den (SV.slot 15 (SV.v P9.I))) /\ List.length (P9.folR (z, f.2) ((P9.leastR (z,
 f.2)).1, c)) <= 9223372036854775807) /\ ∀ (y : Ty.den P9.I), y ∈ P9.folR (z, f.2) ((P9.leastR (z, f.2)).1, c) -> (0 : Ty.den P9.I) <= y) /\ fork (P9.folE (z, f.2) ((P9.leastR (z, f.2)).1, c) != (0 : Int)) (fork (P9.folE (z,
 f.2) ((P9.leastR (z, f.2)).1, c) != (92 : Int)) (fork (P9.folE (z, f.2) ((P9.leastR (z, f.2)).1, c) != (94 : Int)) (K (false, ())) (req (inR IntKind.i64 (z - 1)) (P9.bigF (z - 1, f.2) /\ fork (P9.capR f == (0 : Int))
 ((r.length <= 9223372036854775807 /\ P9.fitS (0 : Int) r) /\ fork (List.sum r == P9.capR f) (K (true, ())) (K (false, ()))) (fork ((P9.leastR (z - 1, f.2)).2.2 == (4 : Int)) ((r.length <= 9223372036854775807 /\ P9.fitS (0 :
 Int) r) /\ fork (List.sum r == P9.capR f) (K (true, ())) (K (false, ()))) (K (false, ())))))) (req (inR IntKind.i64 (z - 1)) (P9.bigF (z - 1, f.2) /\ fork (P9.capR f == (0 : Int)) ((r.length <= 9223372036854775807 /\ P9.fitS
 (0 : Int) r) /\ fork (List.sum r == P9.capR f) (K (true, ())) (K (false, ()))) (fork ((P9.leastR (z - 1, f.2)).2.2 == (4 : Int)) ((r.length <= 9223372036854775807 /\ P9.fitS (0 : Int) r) /\ fork (List.sum r == P9.capR f) (K
 (true, ())) (K (false, ()))) (K (false, ())))))) (req (inR IntKind.i64 (z - 1)) (P9.bigF (z - 1, f.2) /\ fork (P9.capR f == (0 : Int)) ((r.length <= 9223372036854775807 /\ P9.fitS (0 : Int) r) /\ fork (List.sum r == P9.capR
 f) (K (true, ())) (K (false, ()))) (fork ((P9.leastR (z - 1, f.2)).2.2 == (4 : Int)) ((r.length <= 9223372036854775807 /\ P9.fitS (0 : Int) r) /\ fork (List.sum r == P9.capR f) (K (true, ())) (K (false, ()))) (K (false,
 ()))))))))))))) := by kernel_rfl
end Go.PT
