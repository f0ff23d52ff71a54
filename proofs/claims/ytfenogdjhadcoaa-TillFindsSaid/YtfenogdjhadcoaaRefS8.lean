/- Payments of the reference, and the statements: states and what is to be shown, reduced. No conditions. -/
import Derived.Test.YtfenogdjhadcoaaPayS
import Derived.Test.YtfenogdjhadcoaaWorksT
set_option linter.all false
set_option maxRecDepth 100000
set_option maxHeartbeats 2000000
namespace Go.P8
open Go.Lom Go.Proofs Go
def conv (x : Int) : Int := if x >= 1073741824 then -1 else x
def tabF (l : List (Int × Int)) (i n : Nat) : List Int := (List.range' i n).map fun s : Nat => conv (few l (s : Int))
def tabL (l : List (Int × Int)) (sum : Int) : List Int := tabF l 0 (sum + 1).toNat
abbrev fc78 (c : Nat) : FC := ⟨[.v L, .v L, .v I, .v I], [L], fun x K => (okC x.1 x.2.1 /\ (0 <= x.2.2.1 /\ x.2.2.1 <= x.1.length /\ x.1.length - x.2.2.1 < c) /\ 0 <= x.2.2.2.1 /\ x.2.2.2.1 <= 2000) /\ ∀ r, r = tabL (lst x.1 x.2.1 x.2.2.1) x.2.2.2.1 -> K (r, ())⟩
abbrev sh46b : SV := S [(0, .v L), (1, .v L), (2, .v I), (8, .v I), (9, .own 0 I), (10, .v I), (11, .v L), (12, .v I)]
abbrev sh46be : SV := S [(0, .v L), (1, .v L), (2, .v I), (8, .v I), (9, .own 0 I), (10, .v I), (12, .v I)]
abbrev lc46b : LC2 := ⟨0, sh46b, 1, fun (cs, hv, s, ms, o, i, rs, n, _) Q => (okC cs hv /\ (0 <= i /\ i < cs.length) /\ (0 <= s /\ s <= 2000) /\ rs = tabL (lst cs hv (i + 1)) s /\ (ms = fewI cs hv (i, s) /\ ms < 1073741824) /\ (0 <= n /\ n <= hv.getD i.toNat 0) /\ hasN (few (lst cs hv (i + 1))) (cs.getD i.toNat 0) s ms (min n (manyI cs hv (i, s) - 1))) /\
 ∀ r : Int, r = topN (few (lst cs hv (i + 1))) (cs.getD i.toNat 0) s ms (min n (manyI cs hv (i, s) - 1)).toNat -> Q (.exit 2) (stS 1 sh46be (cs, hv, s, ms, o, i, r, ()))⟩
abbrev sh46 : SV := S [(0, .v L), (1, .v L), (2, .v I), (8, .v I), (9, .own 0 I), (10, .v I)]
abbrev sh46e : SV := S [(9, .own 0 I)]
abbrev lc46 : LC2 := ⟨0, sh46, 1, fun (cs, hv, s, ms, o, i, _) Q => (okC cs hv /\ (0 <= i /\ i <= cs.length) /\ (0 <= s /\ s <= 2000) /\ (ms = fewI cs hv (i, s) /\ ms < 1073741824) /\ (o.length : Int) <= i) /\
 ∀ r, r = o ++ payL (lst cs hv i) s -> Q (.exit 0) (stS 1 sh46e (r, ()))⟩
theorem v46L (cs hv : List Int) (s ms : Int) (o : List Int) (i : Int) (Q : AX -> St -> Prop) : (xloop2 Try.prog { nm := true, f := [(78, fc78 9)], l2 := [(46, 1, lc46b)] } 5 46 0 lc46 (fun _ => some (sh46e, 1)) (fun (cs, _, _, _, _, i, _) => mL cs i) (cs, hv, s, ms, o, i, ()) Q) =
 (fork (decide (i < (↑(cs.length) : Int))) (req (inR IntKind.i64 (i + 1)) ((okC cs hv /\ ((0 : AT.den (AT.v I)) <= i + 1 /\ i + 1 <= (↑(cs.length) : AT.den (AT.v I)) /\ (↑(cs.length) : AT.den (AT.v I)) - (i + 1) < (↑9 : AT.den
 (AT.v I))) /\ (0 : AT.den (AT.v I)) <= s /\ s <= (2000 : AT.den (AT.v I))) /\ ∀ (r : List Int), r = tabL (lst cs hv (i + 1)) s -> req (decide ((0 : Int) <= i /\ i < (↑(hv.length) : Int))) (req (decide (0 + o.length <= o.length))
 ((okC cs hv /\ ((0 : SV.den (SV.slot 10 (SV.v I))) <= i /\ i < (↑(cs.length) : SV.den (SV.slot 10 (SV.v I)))) /\ ((0 : SV.den (SV.slot 2 (SV.v I))) <= s /\ s <= (2000 : SV.den (SV.slot 2 (SV.v I)))) /\ r = tabL (lst cs hv (i +
 1)) s /\ (ms = fewI cs hv (i, s) /\ ms < (1073741824 : SV.den (SV.slot 8 (SV.v I)))) /\ ((0 : SV.den (SV.slot 12 (SV.v I))) <= List.getD hv (Int.toNat i) (0 : Int) /\ List.getD hv (Int.toNat i) (0 : Int) <= List.getD hv
 (Int.toNat i) (0 : Ty.den I)) /\ hasN (few (lst cs hv (i + 1))) (List.getD cs (Int.toNat i) (0 : Ty.den I)) s ms (Min.min (List.getD hv (Int.toNat i) (0 : Int)) (manyI cs hv (i, s) - 1))) /\ ∀ (r : Int), r = topN (few (lst
 cs hv (i + 1))) (List.getD cs (Int.toNat i) (0 : Ty.den I)) s ms (Int.toNat (Min.min (List.getD hv (Int.toNat i) (0 : Int)) (manyI cs hv (i, s) - (1 : SV.den (SV.slot 12 (SV.v I)))))) -> req (decide (0 + List.length (seg 0
 (o.length) o) <= List.length (seg 0 (o.length) o))) (req (fitsN (List.length (seg 0 (o.length) o) + 1) 8) (∀ (ys : List (Ty.den (Ty.i IntKind.i64))), ys = seg 0 (List.length (seg 0 (o.length) o)) (seg 0 (o.length) o) ++
 [r] -> req (decide ((0 : Int) <= i /\ i < (↑(cs.length) : Int))) (req (inR IntKind.i64 (r * List.getD cs (Int.toNat i) (0 : Int))) (req (inR IntKind.i64 (s - r * List.getD cs (Int.toNat i) (0 : Int))) (req (inR IntKind.i64
 (ms - r)) (req (inR IntKind.i64 (i + 1)) (req (decide (0 + (List.length (seg 0 (o.length) o) + 1) <= ys.length)) (mL cs (i + 1) < mL cs i /\ LC2.spec lc46 (cs, hv, s - r * List.getD cs (Int.toNat i) (0 : Int), ms - r, seg 0
 (List.length (seg 0 (o.length) o) + 1) ys, i + 1, ()) Q)))))))))))) (req (decide (0 + o.length <= o.length)) (Q (AX.exit 0) (stS 1 sh46e (seg 0 (o.length) o, ()))))) := by kernel_rfl
abbrev fcFrom' : FC := ⟨[.v I, .v I, .v I], [.b], fun x K => ∀ b : Bool, b = decide (x.1 <= x.2.1 /\ x.2.1 <= x.2.2.1) -> K (b, ())⟩
abbrev fcWorks : FC := ⟨[], [.b], fun _ K => K (true, ())⟩
structure okD (d : Dr) : Prop where
 a : d.1.length <= big
 b : d.2.length <= big
end Go.P8
