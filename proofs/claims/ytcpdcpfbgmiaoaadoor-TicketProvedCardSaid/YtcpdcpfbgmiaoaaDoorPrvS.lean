/- TicketProved: states and what is to be shown, reduced. No conditions. -/
import Derived.Test.YtcpdcpfbgmiaoaaDoorPropT
import Derived.Test.YtcpdcpfbgmiaoaaDoorRefA
import Derived.Test.YtcpdcpfbgmiaoaaDoorOnceS
import Derived.Test.YtcpdcpfbgmiaoaaDoorPropN
set_option linter.all false
set_option maxRecDepth 100000
set_option maxHeartbeats 2000000
namespace Go.P3
open Go.Lom Go.Proofs Go
abbrev P2 : Ty := .pr I I
abbrev sh12b : SV := S [(0, .v I), (5, .box 3 (.v P2)), (7, .box 0 (rollC 1 2)), (8, .v LK), (9, .v LE), (12, .v I), (15, .v L), (17, .v I)]
abbrev sh12bx : SV := S [(0, .v I), (5, .box 3 (.v P2)), (7, .box 0 (rollC 1 2)), (8, .v LK), (9, .v LE), (12, .v I), (15, .v L)]
abbrev lc12b : LC2 := ⟨0, sh12b, 4, fun (wt, wh, r, t, x, i, l, k, _) Q => (l.length <= 1000 /\ 1 <= k /\ (∀ j : Nat, 1 <= j -> j < l.length -> 1 <= l.getD j 0 /\ l.getD j 0 <= l.getD (j - 1) 0 - 1) /\ (∀ j : Nat, j < l.length -> 1 <= l.getD j 0 /\ l.getD j 0 <= 256)) /\
 Q (.exit 2) (stS 4 sh12bx (wt, wh, r, t, x, i, l, ()))⟩
theorem v12B (wt a b w d0 : Int) (ts : List Tk) (es : List Ev) (rb : Bool) (t : List Tk) (x : List Ev) (i : Int) (l : List Int) (k : Int) (Q : AX -> St -> Prop) : (xloop2 Tryd.prog { f := [(28, fcFrom)] } 5 12 1 lc12b (fun _ => some (sh12bx, 4)) (fun (_, _, _, _, _, _, l, k, _) => mL l k) (wt, (a, b), (w, d0, ts, es, rb, ()), t, x, i, l, k, ()) Q) =
 (fork (decide (k < (↑(l.length) : Int))) (req (decide ((0 : Int) <= k /\ k < (↑(l.length) : Int))) (req (inR IntKind.i64 (k - 1)) (req (decide ((0 : Int) <= k - 1 /\ k - 1 < (↑(l.length) : Int))) (req (inR IntKind.i64
 (List.getD l (Int.toNat (k - 1)) (0 : Int) - 1)) (fork (!decide ((1 : Int) <= List.getD l (Int.toNat k) (0 : Int) /\ List.getD l (Int.toNat k) (0 : Int) <= List.getD l (Int.toNat (k - 1)) (0 : Int) - 1)) (req (decide (0 +
 ts.length <= ts.length)) (req (decide (0 + es.length <= es.length)) (Q AX.ret (stS 4 sh12bx (wt, (a, b), (w, d0, seg 0 (ts.length) ts, seg 0 (es.length) es, rb, ()), t, x, i, l, ()))))) (req (inR IntKind.i64 (k + 1)) (req
 (decide (0 + ts.length <= ts.length)) (req (decide (0 + es.length <= es.length)) (mL l (k + 1) < mL l k /\ LC2.spec lc12b (wt, (a, b), (w, d0, seg 0 (ts.length) ts, seg 0 (es.length) es, rb, ()), t, x, i, l, k + 1, ())
 Q))))))))) (req (decide (0 + ts.length <= ts.length)) (req (decide (0 + es.length <= es.length)) (Q (AX.exit 2) (stS 4 sh12bx (wt, (a, b), (w, d0, seg 0 (ts.length) ts, seg 0 (es.length) es, rb, ()), t, x, i, l, ())))))) := by kernel_rfl
abbrev sh12 : SV := S [(0, .v I), (5, .box 3 (.v P2)), (7, .box 0 (rollC 1 2)), (8, .v LK), (9, .v LE), (12, .v I)]
abbrev sh12x : SV := S [(0, .v I), (5, .box 0 (.v P2)), (8, .v LK), (9, .v LE)]
abbrev lc12 : LC2 := ⟨0, sh12, 4, fun (wt, wh, r, t, x, i, _) Q => (okR (r.1, r.2.1, r.2.2.1, r.2.2.2.1) /\ r.2.2.2.2.1 = true /\ t = r.2.2.1 /\ 0 <= i /\ i <= t.length) /\
 Q (.exit 0) (stS 1 sh12x (wt, wh, t, x, ()))⟩
theorem v12L (wt a b w d0 : Int) (ts : List Tk) (es : List Ev) (t : List Tk) (x : List Ev) (i : Int) (Q : AX -> St -> Prop) : (xloop2 Tryd.prog { nm := true, f := [(14, fcCodeN)], f2 := [(44, fcLine)], l2 := [(12, 1, lc12b)] } 5 12 0 lc12 (fun _ => some (sh12x, 1)) (fun (_, _, _, t, _, i, _) => mL t i) (wt, (a, b), (w, d0, ts, es, true, ()), t, x, i, ()) Q) =
 (fork (decide (i < (↑(t.length) : Int))) (req (decide ((0 : Int) <= i /\ i < (↑(t.length) : Int))) (((1 : AT.den (AT.v I)) <= (List.getD t (Int.toNat i) (0, [], 0, [], 0, 0)).1 /\ (List.getD t (Int.toNat i) (0, [], 0, [], 0,
 0)).1 <= (99999999 : AT.den (AT.v I))) /\ ∀ (s : List UInt8), s = codeS ((List.getD t (Int.toNat i) (0, [], 0, [], 0, 0)).1) -> req (decide (0 + ts.length <= ts.length)) (req (decide (0 + es.length <= es.length)) ((okR (w, d0,
 seg 0 (ts.length) ts, seg 0 (es.length) es) /\ true = true) /\ ∀ (s_1 : List Int) (e : Int), (s_1, e) = lineI (w, d0, seg 0 (ts.length) ts, seg 0 (es.length) es) s -> fork (e != (0 : Int)) (Q AX.ret (stS 1 sh12x (wt, (a, b),
 t, x, ()))) (fork ((↑(s_1.length) : Int) == (0 : Int)) (Q AX.ret (stS 1 sh12x (wt, (a, b), t, x, ()))) (req (decide ((0 : Int) <= (0 : Int) /\ (0 : Int) < (↑(s_1.length) : Int))) (req (inR IntKind.i64 (i + 1)) (fork
 (List.getD s_1 0 (0 : Int) != i + 1) (Q AX.ret (stS 1 sh12x (wt, (a, b), t, x, ()))) (req (decide (0 + List.length (seg 0 (ts.length) ts) <= List.length (seg 0 (ts.length) ts))) (req (decide (0 + List.length (seg 0
 (es.length) es) <= List.length (seg 0 (es.length) es))) ((s_1.length <= 1000 /\ (1 : SV.den (SV.slot 17 (SV.v I))) <= (1 : Int) /\ (∀ (j : Nat), 1 <= j -> j < s_1.length -> (1 : Ty.den I) <= List.getD s_1 j (0 : Ty.den I) /\
 List.getD s_1 j (0 : Ty.den I) <= List.getD s_1 (j - 1) (0 : Ty.den I) - (1 : Ty.den I)) /\ ∀ (j : Nat), j < s_1.length -> (1 : Ty.den I) <= List.getD s_1 j (0 : Ty.den I) /\ List.getD s_1 j (0 : Ty.den I) <= (256 : Ty.den I))
 /\ req (inR IntKind.i64 ((↑(s_1.length) : Int) - 1)) (req (decide ((0 : Int) <= (↑(s_1.length) : Int) - 1 /\ (↑(s_1.length) : Int) - 1 < (↑(s_1.length) : Int))) (req (inR IntKind.i64 (List.getD s_1 (Int.toNat ((↑(s_1.length)
 : Int) - 1)) (0 : Int) - 1)) (req (decide ((0 : Int) <= List.getD s_1 (Int.toNat ((↑(s_1.length) : Int) - 1)) (0 : Int) - 1 /\ List.getD s_1 (Int.toNat ((↑(s_1.length) : Int) - 1)) (0 : Int) - 1 < (↑(t.length) : Int)))
 (fork ((((((List.getD t (Int.toNat (List.getD s_1 (Int.toNat ((↑(s_1.length) : Int) - 1)) (0 : Int) - 1)) (0, [], 0, [], 0, 0)).2).2).2).2).2 != (0 : Int)) (Q AX.ret (stS 1 sh12x (wt, (a, b), t, x, ()))) (req (inR
 IntKind.i64 (i + 1)) (req (decide (0 + List.length (seg 0 (List.length (seg 0 (ts.length) ts)) (seg 0 (ts.length) ts)) <= List.length (seg 0 (List.length (seg 0 (ts.length) ts)) (seg 0 (ts.length) ts)))) (req (decide (0 +
 List.length (seg 0 (List.length (seg 0 (es.length) es)) (seg 0 (es.length) es)) <= List.length (seg 0 (List.length (seg 0 (es.length) es)) (seg 0 (es.length) es)))) (mL t (i + 1) < mL t i /\ LC2.spec lc12 (wt, (a, b), (w,
 d0, seg 0 (List.length (seg 0 (List.length (seg 0 (ts.length) ts)) (seg 0 (ts.length) ts))) (seg 0 (List.length (seg 0 (ts.length) ts)) (seg 0 (ts.length) ts)), seg 0 (List.length (seg 0 (List.length (seg 0 (es.length)
 es)) (seg 0 (es.length) es))) (seg 0 (List.length (seg 0 (es.length) es)) (seg 0 (es.length) es)), true, ()), t, x, i + 1, ()) Q))))))))))))))))))) (Q (AX.exit 0) (stS 1 sh12x (wt, (a, b), t, x, ())))) := by kernel_rfl
abbrev fcProved : FC := ⟨[.v I, .v LC', .v P2], [.b], fun x K => okLs x.2.1 /\ K (true, ())⟩
theorem v12N (wt : Int) (l : List Cl) (a b : Int) (K : dens [.b] -> Prop) : (xfn1 Tryd.prog { f := [(49, fcWith), (21, fcWorks)] } 5 12 fcProved (wt, l, (a, b), ()) K) =
 (fork (!decide ((0 : Int) <= wt /\ wt <= (1000 : Int))) (K (true, ())) False) := by kernel_rfl
theorem v12F (wt : Int) (l : List Cl) (a b : Int) (K : dens [.b] -> Prop) : (xfn1 Tryd.prog { nm := true, f := [(14, fcCodeN), (26, fcRingN), (28, fcFrom), (21, fcWorks), (42, fcProp)], f2 := [(41, fcAfter), (30, fcTix), (38, fcEvs), (44, fcLine)], l2 := [(12, 0, lc12)] } 5 12 fcProved (wt, l, (a, b), ()) K) =
 (((0 : SV.den (SV.v I)) <= wt /\ wt <= (1000 : SV.den (SV.v I)) /\ okLs l) /\ ∀ (w1 d1 : Int) (ts1 : List Tk) (es1 : List Ev), (w1, d1, ts1, es1) = List.foldl stepI (wt, (0 : Int), [], []) (List.take 60 l) -> req (decide (0 +
 ts1.length <= ts1.length)) (req (decide (0 + es1.length <= es1.length)) ((List.length (seg 0 (ts1.length) ts1) <= 256 /\ ∀ (t : Ty.den T6), t ∈ seg 0 (ts1.length) ts1 -> List.length (t.2.2.2.1) <= 100) /\ ∀ (l : List Tk), l =
 seg 0 (ts1.length) ts1 -> req (decide (0 + List.length (seg 0 (ts1.length) ts1) <= List.length (seg 0 (ts1.length) ts1))) (req (decide (0 + List.length (seg 0 (es1.length) es1) <= List.length (seg 0 (es1.length) es1)))
 (List.length (seg 0 (List.length (seg 0 (es1.length) es1)) (seg 0 (es1.length) es1)) <= 1000 /\ ∀ (l_1 : List Ev), l_1 = seg 0 (List.length (seg 0 (es1.length) es1)) (seg 0 (es1.length) es1) -> (okTk l /\ roomL l_1) /\ ∀ (b :
 Bool) (e : Int), (b, e) = properI wt l l_1 -> fork (e != (0 : Int)) (K (false, ())) (fork (!b) (K (false, ())) (req (decide (0 + List.length (seg 0 (List.length (seg 0 (ts1.length) ts1)) (seg 0 (ts1.length) ts1)) <=
 List.length (seg 0 (List.length (seg 0 (ts1.length) ts1)) (seg 0 (ts1.length) ts1)))) (req (decide (0 + List.length (seg 0 (List.length (seg 0 (es1.length) es1)) (seg 0 (es1.length) es1)) <= List.length (seg 0 (List.length
 (seg 0 (es1.length) es1)) (seg 0 (es1.length) es1)))) ((okR (w1, d1, seg 0 (List.length (seg 0 (List.length (seg 0 (ts1.length) ts1)) (seg 0 (ts1.length) ts1))) (seg 0 (List.length (seg 0 (ts1.length) ts1)) (seg 0
 (ts1.length) ts1)), seg 0 (List.length (seg 0 (List.length (seg 0 (es1.length) es1)) (seg 0 (es1.length) es1))) (seg 0 (List.length (seg 0 (es1.length) es1)) (seg 0 (es1.length) es1))) /\ true = true /\ l = seg 0
 (List.length (seg 0 (List.length (seg 0 (ts1.length) ts1)) (seg 0 (ts1.length) ts1))) (seg 0 (List.length (seg 0 (ts1.length) ts1)) (seg 0 (ts1.length) ts1)) /\ (0 : SV.den (SV.slot 12 (SV.v I))) <= (0 : Int) /\ (0 : Int) <=
 (↑(l.length) : SV.den (SV.slot 12 (SV.v I)))) /\ fork ((↑(l_1.length) : Int) == (0 : Int)) (fork ((↑(l.length) : Int) == (0 : Int)) (K (true, ())) (K (false, ()))) (fork ((↑(l.length) : Int) == (0 : Int)) (fork
 ((↑(l.length) : Int) == (0 : Int)) (K (true, ())) (K (false, ()))) (((0 : AT.den (AT.v I)) < (↑(l_1.length) : Int) /\ (↑(l_1.length) : Int) <= (99999999 : AT.den (AT.v I))) /\ ∀ (r : Int), (0 : Int) <= r -> r < (↑(l_1.length)
 : Int) -> req (decide ((0 : Int) <= (0 : Int) /\ (0 : Int) <= r /\ r <= (↑(l_1.length) : Int))) (req (inR IntKind.i64 (r + 1)) (req (decide ((0 : Int) <= r + 1 /\ r + 1 <= (↑(l_1.length) : Int) /\ (↑(l_1.length) : Int) <=
 (↑(l_1.length) : Int))) (req (fitsN (0 + List.length (List.drop 0 (List.take (Int.toNat r) l_1))) 40) (∀ (ys : List (Ty.den (Ty.pr (Ty.i IntKind.i64) (Ty.pr (Ty.i IntKind.i64) (Ty.pr (Ty.i IntKind.i64) (Ty.pr (Ty.i
 IntKind.i64) (Ty.i IntKind.i64))))))), ys = [] ++ List.drop 0 (List.take (Int.toNat r) l_1) -> req (decide (0 + (0 + List.length (List.drop 0 (List.take (Int.toNat r) l_1))) <= ys.length)) (req (fitsN (0 + List.length
 (List.drop 0 (List.take (Int.toNat r) l_1)) + List.length (List.drop (Int.toNat (r + 1)) (List.take (l_1.length) l_1))) 40) (∀ (ys_1 : List (Ty.den (Ty.pr (Ty.i IntKind.i64) (Ty.pr (Ty.i IntKind.i64) (Ty.pr (Ty.i
 IntKind.i64) (Ty.pr (Ty.i IntKind.i64) (Ty.i IntKind.i64))))))), ys_1 = seg 0 (0 + List.length (List.drop 0 (List.take (Int.toNat r) l_1))) ys ++ List.drop (Int.toNat (r + 1)) (List.take (l_1.length) l_1) -> req (decide (0
 + (0 + List.length (List.drop 0 (List.take (Int.toNat r) l_1)) + List.length (List.drop (Int.toNat (r + 1)) (List.take (l_1.length) l_1))) <= ys_1.length)) ((okTk l /\ roomL (seg 0 (0 + List.length (List.drop 0 (List.take
 (Int.toNat r) l_1)) + List.length (List.drop (Int.toNat (r + 1)) (List.take (l_1.length) l_1))) ys_1)) /\ ∀ (b : Bool) (e : Int), (b, e) = properI wt l (seg 0 (0 + List.length (List.drop 0 (List.take (Int.toNat r) l_1)) +
 List.length (List.drop (Int.toNat (r + 1)) (List.take (l_1.length) l_1))) ys_1) -> ((0 : AT.den (AT.v I)) < (↑(l.length) : Int) /\ (↑(l.length) : Int) <= (99999999 : AT.den (AT.v I))) /\ ∀ (r : Int), (0 : Int) <= r -> r <
 (↑(l.length) : Int) -> req (fitsN (0 + l.length) 72) (∀ (ys : List (Ty.den (Ty.pr (Ty.i IntKind.i64) (Ty.pr Ty.s (Ty.pr (Ty.i IntKind.i64) (Ty.pr (Ty.sl (Ty.i IntKind.i64)) (Ty.pr (Ty.i IntKind.i64) (Ty.i
 IntKind.i64)))))))), ys = [] ++ l -> req (decide ((0 : Int) <= r /\ r < (↑(0 + l.length) : Int))) (req (decide (Int.toNat r < ys.length)) (((0 : AT.den (AT.v I)) < (4 : Int) /\ (4 : Int) <= (99999999 : AT.den (AT.v I))) /\ ∀
 (r_1 : Int), (0 : Int) <= r_1 -> r_1 < (4 : Int) -> AV.int IntKind.i64 ((List.getD ys (Int.toNat r) (0, [], 0, [], 0, 0)).2.2.1) = AV.int IntKind.i64 ((List.getD ys (Int.toNat r) (0, [], 0, [], 0, 0)).2.2.1) /\ req (inR
 IntKind.i64 ((List.getD ys (Int.toNat r) (0, [], 0, [], 0, 0)).2.2.1 + r_1)) (((0 : AT.den (AT.v I)) < (5 : Int) /\ (5 : Int) <= (99999999 : AT.den (AT.v I))) /\ ∀ (r_2 : Int), (0 : Int) <= r_2 -> r_2 < (5 : Int) -> req (inR
 IntKind.i64 ((1 : Int) + r_2)) (req (decide ((0 : Int) <= r /\ r < (↑(0 + l.length) : Int))) (req (decide (Int.toNat r < ys.length)) (∀ (ys_2 : List (Ty.den (Ty.pr (Ty.i IntKind.i64) (Ty.pr Ty.s (Ty.pr (Ty.i IntKind.i64)
 (Ty.pr (Ty.sl (Ty.i IntKind.i64)) (Ty.pr (Ty.i IntKind.i64) (Ty.i IntKind.i64)))))))), ys_2 = List.set ys (Int.toNat r) ((List.getD ys (Int.toNat r) (0, [], 0, [], 0, 0)).1, (List.getD ys (Int.toNat r) (0, [], 0, [], 0,
 0)).2.1, (1 : Int) + r_2, (List.getD ys (Int.toNat r) (0, [], 0, [], 0, 0)).2.2.2) -> req (decide (0 + (0 + l.length) <= ys_2.length)) ((okTk (seg 0 (0 + l.length) ys_2) /\ roomL l_1) /\ ∀ (b_1 : Bool) (e_1 : Int), (b_1, e_1)
 = properI wt (seg 0 (0 + l.length) ys_2) l_1 -> fork (e == (0 : Int)) (fork (e_1 == (0 : Int)) (fork (!b) (fork (!b_1) (K (true, ())) (req (decide ((0 : Int) <= r /\ r < (↑(l.length) : Int))) (fork ((1 : Int) + r_2 ==
 (List.getD l (Int.toNat r) (0, [], 0, [], 0, 0)).2.2.1) (K (true, ())) (K (false, ()))))) (K (false, ()))) (K (false, ()))) (K (false, ())))))))))))))))))))))))))))) := by kernel_rfl
end Go.P3
