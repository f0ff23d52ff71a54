/- Rolls by the reference: to divide, what can be asked, calls of the statements, TicketRolls: states and what is to be shown, reduced. No conditions. -/
import Derived.Test.YtcpdcpfbgmiaoaaDoorRefA
set_option linter.all false
set_option maxRecDepth 100000
set_option maxHeartbeats 2000000
namespace Go.P3
open Go.Lom Go.Proofs Go
abbrev sh39 : SV := S [(0, .v LT), (1, .v .s), (5, .v I)]
abbrev lc39 : LC2 := ⟨0, sh39, 0, fun (l, s, i, _) Q => sIx (fun t => decide (t = s)) l l.length i Q⟩
theorem v39L (l : List Tx) (s : Tx) (i : Int) (Q : AX -> St -> Prop) : (xloop2 Tryd.prog {} 5 39 0 lc39 ex141 (fun (l, _, i, _) => mL l i) (l, s, i, ()) Q) =
 (fork (decide (i < (↑(l.length) : Int))) (req (decide ((0 : Int) <= i /\ i < (↑(l.length) : Int))) (fork (List.getD l (Int.toNat i) [] == s) (Q AX.ret (stS 0 shR4i (i, ()))) (req (inR IntKind.i64 (i + 1)) (mL l (i + 1) < mL
 l i /\ LC2.spec lc39 (l, s, i + 1, ()) Q)))) (Q (AX.exit 0) (stS 0 SV.nil ()))) := by kernel_rfl
abbrev fcSeekT : FC := ⟨[.v LT, .v .s], [I], fun x K => x.1.length <= big /\ ∀ r : Int, r = firstIx (fun t => decide (t = x.2.1)) x.1 0 -> K (r, ())⟩
theorem v39F (l : List Tx) (s : Tx) (K : dens [I] -> Prop) : (xfn1 Tryd.prog { l2 := [(39, 0, lc39)] } 5 39 fcSeekT (l, s, ()) K) =
 (((0 : Int) <= (0 : Int) /\ (0 : Int) <= (↑(l.length) : Int) /\ (↑(l.length) : Int) = (↑(l.length) : Int) /\ l.length <= 9223372036854775807) /\ ((List.any (List.drop 0 l) fun t => decide (t = s)) = false -> K ((-1 : Int), ())) /\
 ((List.any (List.drop 0 l) fun t => decide (t = s)) = true -> K (firstIx (fun t => decide (t = s)) (List.drop 0 l) (0 : Int), ()))) := by kernel_rfl
abbrev sh73a : SV := S [(0, .box 0 refL), (3, .v LT), (4, .v LL), (5, .v I), (14, .v I), (16, .v .b), (17, .v I)]
abbrev sh73ae : SV := S [(0, .box 0 refL), (3, .v LT), (4, .v LL), (5, .v I), (14, .v I), (16, .v .b)]
abbrev lc73a : LC2 := ⟨3, sh73a, 3, fun (r, ps, eds, d, i, ok, k, _) Q => (0 <= k /\ (ok = true -> k <= ps.length) /\ r.2.2.1.length <= 256 /\ (∀ p ∈ ps, p.length <= big) /\ ps.length <= big) /\
 ∀ b : Bool, b = (ok && newsB (rT r.2.2.1) ps (ps.length - k.toNat) k.toNat) -> Q (.exit 0) (stS 3 sh73ae (r, ps, eds, d, i, b, ()))⟩
theorem v73A (w d0 d i k : Int) (ts : List Tk) (es : List Ev) (ps : List Tx) (eds : List (List Int)) (ok : Bool) (Q : AX -> St -> Prop) : (xloop2 Tryd.prog { f := [(39, fcSeekT)], f2 := [(91, fcNewW)] } 5 73 0 lc73a (fun _ => some (sh73ae, 3)) (fun (_, ps, _, _, _, _, k, _) => mL ps k) ((w, d0, ts, es, ()), ps, eds, d, i, ok, k, ()) Q) =
 (fork ok (fork (decide (k < (↑(ps.length) : Int))) (req (decide ((0 : Int) <= k /\ k < (↑(ps.length) : Int))) (req (decide (ts.length = ts.length)) (req (decide (es.length = es.length)) ((ts.length <= 256 /\ List.length
 (List.getD ps (Int.toNat k) []) <= 9223372036854775807) /\ ∀ (b : Bool), b = (wordB (List.getD ps (Int.toNat k) []) && !List.any ts (named (List.getD ps (Int.toNat k) []))) -> fork b (req (decide ((0 : Int) <= k /\ k <
 (↑(ps.length) : Int))) (ps.length <= 9223372036854775807 /\ ∀ (r : Int), r = firstIx (fun t => decide (t = List.getD ps (Int.toNat k) [])) ps (0 : Int) -> req (inR IntKind.i64 (k + 1)) (req (decide (ts.length = ts.length))
 (req (decide (es.length = es.length)) (mL ps (k + 1) < mL ps k /\ LC2.spec lc73a ((w, d0, ts, es, ()), ps, eds, d, i, r == k, k + 1, ()) Q))))) (req (inR IntKind.i64 (k + 1)) (req (decide (ts.length = ts.length)) (req
 (decide (es.length = es.length)) (mL ps (k + 1) < mL ps k /\ LC2.spec lc73a ((w, d0, ts, es, ()), ps, eds, d, i, false, k + 1, ()) Q)))))))) (req (decide (ts.length = ts.length)) (req (decide (es.length = es.length)) (Q
 (AX.exit 0) (stS 3 sh73ae ((w, d0, ts, es, ()), ps, eds, d, i, ok, ())))))) (req (decide (ts.length = ts.length)) (req (decide (es.length = es.length)) (Q (AX.exit 0) (stS 3 sh73ae ((w, d0, ts, es, ()), ps, eds, d, i, ok,
 ())))))) := by kernel_rfl
abbrev sh73b : SV := S [(0, .box 0 refL), (3, .v LT), (4, .v LL), (5, .v I), (14, .v I), (16, .v .b), (18, .v I)]
abbrev lc73b : LC2 := ⟨3, sh73b, 3, fun (r, ps, eds, d, i, ok, k, _) Q => (0 <= k /\ (ok = true -> k <= eds.length) /\ eds.length <= big) /\
 ∀ b : Bool, b = (ok && allE eds k) -> Q (.exit 2) (stS 3 sh73ae (r, ps, eds, d, i, b, ()))⟩
theorem v73B (w d0 d i k : Int) (ts : List Tk) (es : List Ev) (ps : List Tx) (eds : List (List Int)) (ok : Bool) (Q : AX -> St -> Prop) : (xloop2 Tryd.prog { f := [(60, fcEdge 0)] } 5 73 1 lc73b (fun _ => some (sh73ae, 3)) (fun (_, _, eds, _, _, _, k, _) => mL eds k) ((w, d0, ts, es, ()), ps, eds, d, i, ok, k, ()) Q) =
 (fork ok (fork (decide (k < (↑(eds.length) : Int))) (req (decide ((0 : Int) <= k /\ k < (↑(eds.length) : Int))) (req (inR IntKind.i64 (k + 1)) (req (decide (ts.length = ts.length)) (req (decide (es.length = es.length)) (mL
 eds (k + 1) < mL eds k /\ LC2.spec lc73b ((w, d0, ts, es, ()), ps, eds, d, i, inB (0 : Int) (List.getD eds (Int.toNat k) []), k + 1, ()) Q))))) (req (decide (ts.length = ts.length)) (req (decide (es.length = es.length)) (Q
 (AX.exit 2) (stS 3 sh73ae ((w, d0, ts, es, ()), ps, eds, d, i, ok, ())))))) (req (decide (ts.length = ts.length)) (req (decide (es.length = es.length)) (Q (AX.exit 2) (stS 3 sh73ae ((w, d0, ts, es, ()), ps, eds, d, i, ok,
 ())))))) := by kernel_rfl
abbrev refO : SV := A [.v I, .v I, .own 3 T6, .lst 2 E5]
abbrev sh73c : SV := S [(0, .box 0 refO), (3, .v LT), (4, .v LL), (5, .v I), (14, .v I), (19, .own 4 .s), (20, .v I)]
abbrev sh73ce : SV := S [(0, .box 0 refO), (3, .v LT), (5, .v I), (14, .v I), (19, .own 4 .s)]
abbrev lc73c : LC2 := ⟨3, sh73c, 5, fun (r, ps, eds, d, i, cs, k, _) Q => (0 <= k /\ k <= ps.length /\ ps.length <= 4 /\ eds.length = ps.length /\ eds.all (inB 0) = true /\ (r.2.2.1.length : Int) + (ps.length - k) <= 256 /\ (cs.length : Int) <= k /\ 0 <= i /\ i <= 256) /\
 Q (.exit 4) (stS 5 sh73ce ((r.1, r.2.1, addsI r.2.2.1 ps eds (i + 1) (ps.length - k.toNat) k.toNat, r.2.2.2), ps, d, i, cs ++ codesI (ps.length - k.toNat) ((r.2.2.1.length : Int) + 1), ()))⟩
theorem v73C (w d0 d i k : Int) (ts : List Tk) (es : List Ev) (ps : List Tx) (eds : List (List Int)) (cs : List Tx) (Q : AX -> St -> Prop) : (xloop2 Tryd.prog { nm := true, f := [(106, fcId), (51, fcCodeX)] } 5 73 2 lc73c (fun _ => some (sh73ce, 5)) (fun (_, ps, _, _, _, _, k, _) => mL ps k) ((w, d0, ts, es, ()), ps, eds, d, i, cs, k, ()) Q) =
 (fork (decide (k < (↑(ps.length) : Int))) (req (decide ((0 : Int) <= k /\ k < (↑(ps.length) : Int))) (req (decide ((0 : Int) <= k /\ k < (↑(eds.length) : Int))) (req (inR IntKind.i64 (i + 1)) (req (inR IntKind.i64
 ((↑(ts.length) : Int) + 1)) (List.length (List.getD eds (Int.toNat k) []) <= 100 /\ ∀ (r : List Int), r = List.getD eds (Int.toNat k) [] -> AV.sl 3 6 0 (ts.length) none = AV.sl 3 6 0 (ts.length) none /\ AV.sl 3 6 0
 (ts.length) none = AV.sl 3 6 0 (ts.length) none /\ req (decide (0 + ts.length <= ts.length)) (req (fitsN (ts.length + 1) 72) (∀ (ys : List (Ty.den (Ty.pr (Ty.i IntKind.i64) (Ty.pr Ty.s (Ty.pr (Ty.i IntKind.i64) (Ty.pr
 (Ty.sl (Ty.i IntKind.i64)) (Ty.pr (Ty.i IntKind.i64) (Ty.i IntKind.i64)))))))), ys = seg 0 (ts.length) ts ++ [((↑(ts.length) : Int) + 1, List.getD ps (Int.toNat k) [], (1 : Int), r, (0 : Int), i + 1)] -> ((0 : AT.den (AT.v
 I)) <= (↑(ts.length) : Int) + 1 /\ (↑(ts.length) : Int) + 1 <= (99999999 : AT.den (AT.v I))) /\ ∀ (s : Tx), s = codeS ((↑(ts.length) : Int) + 1) -> req (decide (0 + cs.length <= cs.length)) (req (fitsN (cs.length + 1) 16) (∀
 (ys_1 : List (Ty.den Ty.s)), ys_1 = seg 0 (cs.length) cs ++ [s] -> req (inR IntKind.i64 (k + 1)) (req (decide (0 + (ts.length + 1) <= ys.length)) (req (decide (es.length = es.length)) (req (decide (0 + (cs.length + 1) <=
 ys_1.length)) (mL ps (k + 1) < mL ps k /\ LC2.spec lc73c ((w, d0, seg 0 (ts.length + 1) ys, es, ()), ps, eds, d, i, seg 0 (cs.length + 1) ys_1, k + 1, ()) Q))))))))))))) (req (decide (0 + ts.length <= ts.length)) (req
 (decide (es.length = es.length)) (req (decide (0 + cs.length <= cs.length)) (Q (AX.exit 4) (stS 5 sh73ce ((w, d0, seg 0 (ts.length) ts, es, ()), ps, d, i, seg 0 (cs.length) cs, ()))))))) := by kernel_rfl
abbrev fcRV : FC2 := ⟨A [.box 0 (refC 1 2), .v .s, .v L, .v LT, .v LL, .v I], 3, A [.box 0 (refC 3 4), .any, .any, .any, .any, .any, .v LT, .v I], 5, fun ((w, d0, ts, es, _), c, h, ps, eds, d, _) K => (okR (w, d0, ts, es) /\ roomy es /\ (∀ p ∈ ps, p.length <= big) /\ ps.length <= big /\ eds.length <= big) /\
 ∀ (w1 d1 : Int) (ts1 : List Tk) (es1 : List Ev) (x : List Tx) (e : Int), ((w1, d1, ts1, es1), x, e) = divideI (w, d0, ts, es) c h ps eds d -> K ((w1, d1, ts1, es1, ()), (), (), (), (), (), x, e, ())⟩
theorem v73F (w d0 d : Int) (ts : List Tk) (es : List Ev) (c : Tx) (h : List Int) (ps : List Tx) (eds : List (List Int)) (K : fcRV.post.den -> Prop) : (xfn2 Tryd.prog { TR with l2 := [(73, 0, lc73a), (73, 1, lc73b), (73, 2, lc73c)] } 6 73 fcRV ((w, d0, ts, es, ()), c, h, ps, eds, d, ()) K) =
 (req (decide (ts.length = ts.length)) (req (decide (es.length = es.length)) (okR (w, d0, ts, es) /\ ∀ (i e : Int), e = bringE (w, d0, ts, es) c d -> (e = (0 : Int) -> i = (numberI c).1 - 1) -> fork (e != (0 : Int)) (fork (e
 != (0 : Int)) (req (decide (0 + ts.length <= ts.length)) (req (decide (0 + es.length <= es.length)) (K ((w, d0, seg 0 (ts.length) ts, seg 0 (es.length) es, ()), (), (), (), (), (), [], e, ())))) (req (decide (ts.length =
 ts.length)) (req (decide (es.length = es.length)) (((0 : SV.den (SV.slot 17 (SV.v I))) <= (0 : Int) /\ (decide ((2 : Int) <= (↑(ps.length) : Int) /\ (↑(ps.length) : Int) <= (4 : Int)) = true -> (0 : Int) <= (↑(ps.length) :
 SV.den (SV.slot 17 (SV.v I)))) /\ ts.length <= 256 /\ (∀ (p : Ty.den Ty.s), p ∈ ps -> p.length <= 9223372036854775807) /\ ps.length <= 9223372036854775807) /\ ∀ (b : Bool), b = (decide ((2 : Int) <= (↑(ps.length) : Int) /\
 (↑(ps.length) : Int) <= (4 : Int)) && newsB (rT ts) ps (ps.length) 0) -> fork (!b) (req (decide (0 + ts.length <= ts.length)) (req (decide (0 + es.length <= es.length)) (K ((w, d0, seg 0 (ts.length) ts, seg 0 (es.length) es,
 ()), (), (), (), (), (), [], (33 : Int), ())))) (req (decide (ts.length = ts.length)) (req (decide (es.length = es.length)) (((0 : SV.den (SV.slot 18 (SV.v I))) <= (0 : Int) /\ (((↑(eds.length) : Int) == (↑(ps.length) :
 Int)) = true -> (0 : Int) <= (↑(eds.length) : SV.den (SV.slot 18 (SV.v I)))) /\ eds.length <= 9223372036854775807) /\ ∀ (b : Bool), b = ((↑(eds.length) : Int) == (↑(ps.length) : Int) && allE eds (0 : Int)) -> fork (!b) (req
 (decide (0 + ts.length <= ts.length)) (req (decide (0 + es.length <= es.length)) (K ((w, d0, seg 0 (ts.length) ts, seg 0 (es.length) es, ()), (), (), (), (), (), [], (31 : Int), ())))) (req (inR IntKind.i64 ((↑(ts.length) :
 Int) + (↑(ps.length) : Int))) (fork (decide ((↑(ts.length) : Int) + (↑(ps.length) : Int) > (256 : Int))) (req (decide (0 + ts.length <= ts.length)) (req (decide (0 + es.length <= es.length)) (K ((w, d0, seg 0 (ts.length)
 ts, seg 0 (es.length) es, ()), (), (), (), (), (), [], (6 : Int), ())))) (req (decide ((0 : Int) <= (0 : Int) /\ (0 : Int) < (↑(ts.length) : Int))) (req (decide (0 < ts.length)) (req (decide ((0 : Int) <= (0 : Int) /\ (0 :
 Int) < (↑(ts.length) : Int))) (req (decide (0 < ts.length)) (∀ (ys : List (Ty.den T6)), ys = List.set ts 0 ((List.getD ts 0 (0, [], 0, [], 0, 0)).1, (List.getD ts 0 (0, [], 0, [], 0, 0)).2.1, (3 : Int), (List.getD ts 0
 (0, [], 0, [], 0, 0)).2.2.2.1, (0 : Int), (List.getD ts 0 (0, [], 0, [], 0, 0)).2.2.2.2.2) -> req (decide (0 + ts.length <= ys.length)) (req (decide (es.length = es.length)) (((0 : SV.den (SV.slot 20 (SV.v I))) <= (0 : Int)
 /\ (0 : Int) <= (↑(ps.length) : SV.den (SV.slot 20 (SV.v I))) /\ ps.length <= 4 /\ eds.length = ps.length /\ List.all eds (inB (0 : Int)) = true /\ (↑(List.length (seg 0 (ts.length) ys)) : Int) + ((↑(ps.length) : Int) - 0) <=
 (256 : Int) /\ (0 : Int) <= (0 : Int) /\ (0 : SV.den (SV.slot 14 (SV.v I))) <= (0 : Int) /\ (0 : Int) <= (256 : SV.den (SV.slot 14 (SV.v I)))) /\ req (inR IntKind.i64 (1 : Int)) (fork (decide ((↑(ps.length) : Int) > (0 : Int)))
 (AV.sl 2 5 0 (es.length) none = AV.sl 2 5 0 (es.length) none /\ req (decide (0 + es.length <= es.length)) (req (fitsN (es.length + 1) 40) (∀ (ys_1 : List (Ty.den (Ty.pr (Ty.i IntKind.i64) (Ty.pr (Ty.i IntKind.i64) (Ty.pr
 (Ty.i IntKind.i64) (Ty.pr (Ty.i IntKind.i64) (Ty.i IntKind.i64))))))), ys_1 = seg 0 (es.length) es ++ [((5 : Int), d, (1 : Int), (↑(List.length (addsI (seg 0 (ts.length) ys) ps eds ((0 : Int) + 1) (ps.length) 0)) : Int),
 (↑(ps.length) : Int))] -> req (decide (0 + List.length (addsI (seg 0 (ts.length) ys) ps eds ((0 : Int) + 1) (ps.length) 0) <= List.length (addsI (seg 0 (ts.length) ys) ps eds ((0 : Int) + 1) (ps.length) 0))) (req (decide (0
 + (es.length + 1) <= ys_1.length)) (req (decide (0 + List.length ([] ++ codesI (ps.length) ((↑(List.length (seg 0 (ts.length) ys)) : Int) + 1)) <= List.length ([] ++ codesI (ps.length) ((↑(List.length (seg 0 (ts.length)
 ys)) : Int) + 1)))) (K ((w, d, seg 0 (List.length (addsI (seg 0 (ts.length) ys) ps eds ((0 : Int) + 1) (ps.length) 0)) (addsI (seg 0 (ts.length) ys) ps eds ((0 : Int) + 1) (ps.length) 0), seg 0 (es.length + 1) ys_1, ()),
 (), (), (), (), (), seg 0 (List.length ([] ++ codesI (ps.length) ((↑(List.length (seg 0 (ts.length) ys)) : Int) + 1))) ([] ++ codesI (ps.length) ((↑(List.length (seg 0 (ts.length) ys)) : Int) + 1)), (0 : Int), ())))))))
 (AV.sl 2 5 0 (es.length) none = AV.sl 2 5 0 (es.length) none /\ req (decide (0 + es.length <= es.length)) (req (fitsN (es.length + 1) 40) (∀ (ys_1 : List (Ty.den (Ty.pr (Ty.i IntKind.i64) (Ty.pr (Ty.i IntKind.i64) (Ty.pr
 (Ty.i IntKind.i64) (Ty.pr (Ty.i IntKind.i64) (Ty.i IntKind.i64))))))), ys_1 = seg 0 (es.length) es ++ [((5 : Int), d, (1 : Int), (0 : Int), (↑(ps.length) : Int))] -> req (decide (0 + List.length (addsI (seg 0 (ts.length)
 ys) ps eds ((0 : Int) + 1) (ps.length) 0) <= List.length (addsI (seg 0 (ts.length) ys) ps eds ((0 : Int) + 1) (ps.length) 0))) (req (decide (0 + (es.length + 1) <= ys_1.length)) (req (decide (0 + List.length ([] ++ codesI
 (ps.length) ((↑(List.length (seg 0 (ts.length) ys)) : Int) + 1)) <= List.length ([] ++ codesI (ps.length) ((↑(List.length (seg 0 (ts.length) ys)) : Int) + 1)))) (K ((w, d, seg 0 (List.length (addsI (seg 0 (ts.length) ys)
 ps eds ((0 : Int) + 1) (ps.length) 0)) (addsI (seg 0 (ts.length) ys) ps eds ((0 : Int) + 1) (ps.length) 0), seg 0 (es.length + 1) ys_1, ()), (), (), (), (), (), seg 0 (List.length ([] ++ codesI (ps.length) ((↑(List.length
 (seg 0 (ts.length) ys)) : Int) + 1))) ([] ++ codesI (ps.length) ((↑(List.length (seg 0 (ts.length) ys)) : Int) + 1)), (0 : Int), ())))))))))))))))))))))))) (req (decide ((0 : Int) <= i /\ i < (↑(ts.length) : Int))) (req
 (decide (Int.toNat i < ts.length)) (fork ((List.getD ts (Int.toNat i) (0, [], 0, [], 0, 0)).2.2.1 == (2 : Int)) (req (decide (0 + ts.length <= ts.length)) (req (decide (0 + es.length <= es.length)) (K ((w, d0, seg 0
 (ts.length) ts, seg 0 (es.length) es, ()), (), (), (), (), (), [], (36 : Int), ())))) (req (decide ((0 : Int) <= i /\ i < (↑(ts.length) : Int))) (req (decide (Int.toNat i < ts.length)) (∀ (n e : Int), (n, e) = fitE
 ((List.getD ts (Int.toNat i) (0, [], 0, [], 0, 0)).2.2.2.1) h -> fork (e != (0 : Int)) (req (decide (0 + ts.length <= ts.length)) (req (decide (0 + es.length <= es.length)) (K ((w, d0, seg 0 (ts.length) ts, seg 0 (es.length)
 es, ()), (), (), (), (), (), [], e, ())))) (req (decide (ts.length = ts.length)) (req (decide (es.length = es.length)) (((0 : SV.den (SV.slot 17 (SV.v I))) <= (0 : Int) /\ (decide ((2 : Int) <= (↑(ps.length) : Int) /\
 (↑(ps.length) : Int) <= (4 : Int)) = true -> (0 : Int) <= (↑(ps.length) : SV.den (SV.slot 17 (SV.v I)))) /\ ts.length <= 256 /\ (∀ (p : Ty.den Ty.s), p ∈ ps -> p.length <= 9223372036854775807) /\ ps.length <= 9223372036854775807) /\
 ∀ (b : Bool), b = (decide ((2 : Int) <= (↑(ps.length) : Int) /\ (↑(ps.length) : Int) <= (4 : Int)) && newsB (rT ts) ps (ps.length) 0) -> fork (!b) (req (decide (0 + ts.length <= ts.length)) (req (decide (0 + es.length <=
 es.length)) (K ((w, d0, seg 0 (ts.length) ts, seg 0 (es.length) es, ()), (), (), (), (), (), [], (33 : Int), ())))) (req (decide (ts.length = ts.length)) (req (decide (es.length = es.length)) (((0 : SV.den (SV.slot 18
 (SV.v I))) <= (0 : Int) /\ (((↑(eds.length) : Int) == (↑(ps.length) : Int)) = true -> (0 : Int) <= (↑(eds.length) : SV.den (SV.slot 18 (SV.v I)))) /\ eds.length <= 9223372036854775807) /\ ∀ (b : Bool), b = ((↑(eds.length) : Int)
 == (↑(ps.length) : Int) && allE eds (0 : Int)) -> fork (!b) (req (decide (0 + ts.length <= ts.length)) (req (decide (0 + es.length <= es.length)) (K ((w, d0, seg 0 (ts.length) ts, seg 0 (es.length) es, ()), (), (), (), (),
 (), [], (31 : Int), ())))) (req (inR IntKind.i64 ((↑(ts.length) : Int) + (↑(ps.length) : Int))) (fork (decide ((↑(ts.length) : Int) + (↑(ps.length) : Int) > (256 : Int))) (req (decide (0 + ts.length <= ts.length)) (req
 (decide (0 + es.length <= es.length)) (K ((w, d0, seg 0 (ts.length) ts, seg 0 (es.length) es, ()), (), (), (), (), (), [], (6 : Int), ())))) (req (decide ((0 : Int) <= i /\ i < (↑(ts.length) : Int))) (req (decide (Int.toNat
 i < ts.length)) (req (decide ((0 : Int) <= i /\ i < (↑(ts.length) : Int))) (req (decide (Int.toNat i < ts.length)) (∀ (ys : List (Ty.den T6)), ys = List.set ts (Int.toNat i) ((List.getD ts (Int.toNat i) (0, [], 0, [], 0,
 0)).1, (List.getD ts (Int.toNat i) (0, [], 0, [], 0, 0)).2.1, (3 : Int), (List.getD ts (Int.toNat i) (0, [], 0, [], 0, 0)).2.2.2.1, (0 : Int), (List.getD ts (Int.toNat i) (0, [], 0, [], 0, 0)).2.2.2.2.2) -> req (decide (0
 + ts.length <= ys.length)) (req (decide (es.length = es.length)) (((0 : SV.den (SV.slot 20 (SV.v I))) <= (0 : Int) /\ (0 : Int) <= (↑(ps.length) : SV.den (SV.slot 20 (SV.v I))) /\ ps.length <= 4 /\ eds.length = ps.length /\
 List.all eds (inB (0 : Int)) = true /\ (↑(List.length (seg 0 (ts.length) ys)) : Int) + ((↑(ps.length) : Int) - 0) <= (256 : Int) /\ (0 : Int) <= (0 : Int) /\ (0 : SV.den (SV.slot 14 (SV.v I))) <= i /\ i <= (256 : SV.den (SV.slot
 14 (SV.v I)))) /\ req (inR IntKind.i64 (i + 1)) (fork (decide ((↑(ps.length) : Int) > (0 : Int))) (AV.sl 2 5 0 (es.length) none = AV.sl 2 5 0 (es.length) none /\ req (decide (0 + es.length <= es.length)) (req (fitsN
 (es.length + 1) 40) (∀ (ys_1 : List (Ty.den (Ty.pr (Ty.i IntKind.i64) (Ty.pr (Ty.i IntKind.i64) (Ty.pr (Ty.i IntKind.i64) (Ty.pr (Ty.i IntKind.i64) (Ty.i IntKind.i64))))))), ys_1 = seg 0 (es.length) es ++ [((5 : Int), d,
 i + 1, (↑(List.length (addsI (seg 0 (ts.length) ys) ps eds (i + 1) (ps.length) 0)) : Int), (↑(ps.length) : Int))] -> req (decide (0 + List.length (addsI (seg 0 (ts.length) ys) ps eds (i + 1) (ps.length) 0) <= List.length
 (addsI (seg 0 (ts.length) ys) ps eds (i + 1) (ps.length) 0))) (req (decide (0 + (es.length + 1) <= ys_1.length)) (req (decide (0 + List.length ([] ++ codesI (ps.length) ((↑(List.length (seg 0 (ts.length) ys)) : Int) + 1))
 <= List.length ([] ++ codesI (ps.length) ((↑(List.length (seg 0 (ts.length) ys)) : Int) + 1)))) (K ((w, d, seg 0 (List.length (addsI (seg 0 (ts.length) ys) ps eds (i + 1) (ps.length) 0)) (addsI (seg 0 (ts.length) ys) ps
 eds (i + 1) (ps.length) 0), seg 0 (es.length + 1) ys_1, ()), (), (), (), (), (), seg 0 (List.length ([] ++ codesI (ps.length) ((↑(List.length (seg 0 (ts.length) ys)) : Int) + 1))) ([] ++ codesI (ps.length) ((↑(List.length
 (seg 0 (ts.length) ys)) : Int) + 1)), (0 : Int), ()))))))) (AV.sl 2 5 0 (es.length) none = AV.sl 2 5 0 (es.length) none /\ req (decide (0 + es.length <= es.length)) (req (fitsN (es.length + 1) 40) (∀ (ys_1 : List (Ty.den
 (Ty.pr (Ty.i IntKind.i64) (Ty.pr (Ty.i IntKind.i64) (Ty.pr (Ty.i IntKind.i64) (Ty.pr (Ty.i IntKind.i64) (Ty.i IntKind.i64))))))), ys_1 = seg 0 (es.length) es ++ [((5 : Int), d, i + 1, (0 : Int), (↑(ps.length) : Int))] ->
 req (decide (0 + List.length (addsI (seg 0 (ts.length) ys) ps eds (i + 1) (ps.length) 0) <= List.length (addsI (seg 0 (ts.length) ys) ps eds (i + 1) (ps.length) 0))) (req (decide (0 + (es.length + 1) <= ys_1.length)) (req
 (decide (0 + List.length ([] ++ codesI (ps.length) ((↑(List.length (seg 0 (ts.length) ys)) : Int) + 1)) <= List.length ([] ++ codesI (ps.length) ((↑(List.length (seg 0 (ts.length) ys)) : Int) + 1)))) (K ((w, d, seg 0
 (List.length (addsI (seg 0 (ts.length) ys) ps eds (i + 1) (ps.length) 0)) (addsI (seg 0 (ts.length) ys) ps eds (i + 1) (ps.length) 0), seg 0 (es.length + 1) ys_1, ()), (), (), (), (), (), seg 0 (List.length ([] ++ codesI
 (ps.length) ((↑(List.length (seg 0 (ts.length) ys)) : Int) + 1))) ([] ++ codesI (ps.length) ((↑(List.length (seg 0 (ts.length) ys)) : Int) + 1)), (0 : Int), ())))))))))))))))))))))))))))))))) := by kernel_rfl
end Go.P3
