/- Rolls: what can be asked of a roll, and calls of the statements: states and what is to be shown, reduced. No conditions. -/
import Derived.Test.YtcpdcpfbgmiaoaaDoorRollD
set_option linter.all false
set_option maxRecDepth 100000
set_option maxHeartbeats 2000000
namespace Go.P3
open Go.Lom Go.Proofs Go
abbrev rollL : SV := A [.v I, .v I, .lst 1 T6, .lst 2 E5, .v .b]
abbrev sh48 : SV := S [(0, .box 0 rollL), (1, .v .s), (21, .sls 1 6), (22, .v I), (23, .v I)]
abbrev sh48e : SV := SB [] (A [.blk 0 rollL])
abbrev sh48r : SV := SB [(4, .v .s), (5, .v I)] (A [.blk 0 rollL])
def ex48 : Ex2
 | .ret => some (sh48r, 3)
 | _ => some (sh48e, 3)
abbrev lc48 : LC2 := ⟨3, sh48, 3, fun (r, p, n, m, i, _) Q => (n = r.2.2.1.length /\ m = r.2.2.1.length /\ 0 <= i /\ i <= r.2.2.1.length /\ r.2.2.1.length <= 256 /\ ∀ t ∈ r.2.2.1, 0 <= t.1 /\ t.1 <= 99999999) /\
 ((r.2.2.1.drop i.toNat).any (fun t => named p t && liveB t) = false -> Q (.exit 0) (stS 3 sh48e (r, ()))) /\
 ((r.2.2.1.drop i.toNat).any (fun t => named p t && liveB t) = true -> Q .ret (stS 3 sh48r ((liveK (r.2.2.1.drop i.toNat) p).1, 0, r, ())))⟩
theorem v48L (w d0 : Int) (ts : List Tk) (es : List Ev) (b : Bool) (p : Tx) (m i : Int) (Q : AX -> St -> Prop) : (xloop2 Tryd.prog { f := [(50, fcCodeX)] } 5 48 0 lc48 ex48 (fun (r, _, _, _, i, _) => mL r.2.2.1 i) ((w, d0, ts, es, b, ()), p, ts.length, m, i, ()) Q) =
 (fork (decide (i < m)) (req (decide ((0 : Int) <= i /\ i < (↑(ts.length) : Int))) (req (decide (Int.toNat i < ts.length)) (fork ((List.getD ts (Int.toNat i) (0, [], 0, [], 0, 0)).2.1 == p) (fork ((List.getD ts (Int.toNat i)
 (0, [], 0, [], 0, 0)).2.2.1 == (1 : Int)) (((0 : AT.den (AT.v I)) <= (List.getD ts (Int.toNat i) (0, [], 0, [], 0, 0)).1 /\ (List.getD ts (Int.toNat i) (0, [], 0, [], 0, 0)).1 <= (99999999 : AT.den (AT.v I))) /\ ∀ (s : Tx), s
 = codeS ((List.getD ts (Int.toNat i) (0, [], 0, [], 0, 0)).1) -> req (decide (ts.length = ts.length)) (req (decide (es.length = es.length)) (Q AX.ret (stS 3 sh48r (s, (0 : Int), (w, d0, ts, es, b, ()), ()))))) (fork
 ((List.getD ts (Int.toNat i) (0, [], 0, [], 0, 0)).2.2.1 == (2 : Int)) (((0 : AT.den (AT.v I)) <= (List.getD ts (Int.toNat i) (0, [], 0, [], 0, 0)).1 /\ (List.getD ts (Int.toNat i) (0, [], 0, [], 0, 0)).1 <= (99999999 :
 AT.den (AT.v I))) /\ ∀ (s : Tx), s = codeS ((List.getD ts (Int.toNat i) (0, [], 0, [], 0, 0)).1) -> req (decide (ts.length = ts.length)) (req (decide (es.length = es.length)) (Q AX.ret (stS 3 sh48r (s, (0 : Int), (w, d0,
 ts, es, b, ()), ()))))) (req (inR IntKind.i64 (i + 1)) (req (decide (ts.length = ts.length)) (req (decide (es.length = es.length)) (mL ts (i + 1) < mL ts i /\ LC2.spec lc48 ((w, d0, ts, es, b, ()), p, ts.length, m, i + 1,
 ()) Q)))))) (req (inR IntKind.i64 (i + 1)) (req (decide (ts.length = ts.length)) (req (decide (es.length = es.length)) (mL ts (i + 1) < mL ts i /\ LC2.spec lc48 ((w, d0, ts, es, b, ()), p, ts.length, m, i + 1, ()) Q)))))))
 (req (decide (ts.length = ts.length)) (req (decide (es.length = es.length)) (Q (AX.exit 0) (stS 3 sh48e ((w, d0, ts, es, b, ()), ())))))) := by kernel_rfl
abbrev fcLive : FC2 := ⟨A [.box 0 (rollC 1 2), .v .s], 3, A [.box 0 (rollC 3 4), .any, .v .s, .v I], 5, fun ((w, d0, ts, es, rdy, _), p, _) K => (okR (w, d0, ts, es) /\ rdy = true) /\
 ∀ (s : Tx) (e : Int), (s, e) = liveI (w, d0, ts, es) p -> K ((w, d0, ts, es, true, ()), (), s, e, ())⟩
theorem v48F (w d0 : Int) (ts : List Tk) (es : List Ev) (p : Tx) (K : fcLive.post.den -> Prop) : (xfn2 Tryd.prog { l2 := [(48, 0, lc48)] } 5 48 fcLive ((w, d0, ts, es, true, ()), p, ()) K) =
 (req (decide (ts.length = ts.length)) (req (decide (es.length = es.length)) ((ts.length = ts.length /\ (↑(ts.length) : Int) = (↑(ts.length) : SV.den (SV.slot 22 (SV.v I))) /\ (0 : SV.den (SV.slot 23 (SV.v I))) <= (0 : Int) /\
 (0 : Int) <= (↑(ts.length) : SV.den (SV.slot 23 (SV.v I))) /\ ts.length <= 256 /\ ∀ (t : Ty.den T6), t ∈ ts -> (0 : Ty.den I) <= t.1 /\ t.1 <= (99999999 : Ty.den I)) /\ ((List.any (List.drop 0 ts) fun t => named p t && liveB t) =
 false -> req (decide (0 + ts.length <= ts.length)) (req (decide (0 + es.length <= es.length)) (K ((w, d0, seg 0 (ts.length) ts, seg 0 (es.length) es, true, ()), (), [], (4 : Int), ())))) /\ ((List.any (List.drop 0 ts) fun t
 => named p t && liveB t) = true -> req (decide (0 + ts.length <= ts.length)) (req (decide (0 + es.length <= es.length)) (K ((w, d0, seg 0 (ts.length) ts, seg 0 (es.length) es, true, ()), (), (liveK (List.drop 0 ts) p).1, (0
 : SV.den (SV.slot 5 (SV.v I))), ()))))))) := by kernel_rfl
abbrev sh44 : SV := S [(0, .box 0 rollL), (6, .v I), (8, .own 3 I)]
abbrev sh44e : SV := SB [(8, .own 3 I)] (A [.blk 0 rollL])
abbrev lc44 : LC2 := ⟨3, sh44, 4, fun (r, n, o, _) Q => (0 <= n /\ n <= r.2.2.1.length /\ r.2.2.1.length <= 256 /\ (o.length : Int) + n <= 256 /\ ∀ i : Int, 1 <= i -> i <= r.2.2.1.length -> 0 <= (tkI r.2.2.1 i).2.2.2.2.2 /\ (tkI r.2.2.1 i).2.2.2.2.2 <= i - 1) /\
 Q (.exit 0) (stS 4 sh44e (o ++ lineK r.2.2.1 n.toNat n, r, ()))⟩
theorem v44L (w d0 : Int) (ts : List Tk) (es : List Ev) (b : Bool) (n : Int) (o : List Int) (Q : AX -> St -> Prop) : (xloop2 Tryd.prog { nm := true } 5 44 0 lc44 (fun _ => some (sh44e, 4)) (fun (_, n, _) => n.toNat) ((w, d0, ts, es, b, ()), n, o, ()) Q) =
 (fork (decide (n > (0 : Int))) (req (decide (0 + o.length <= o.length)) (req (fitsN (o.length + 1) 8) (∀ (ys : List (Ty.den (Ty.i IntKind.i64))), ys = seg 0 (o.length) o ++ [n] -> req (inR IntKind.i64 (n - 1)) (req (decide
 ((0 : Int) <= n - 1 /\ n - 1 < (↑(ts.length) : Int))) (req (decide (Int.toNat (n - 1) < ts.length)) (req (decide (ts.length = ts.length)) (req (decide (es.length = es.length)) (req (decide (0 + (o.length + 1) <= ys.length))
 (Int.toNat ((((((List.getD ts (Int.toNat (n - 1)) (0, [], 0, [], 0, 0)).2).2).2).2).2) < Int.toNat n /\ LC2.spec lc44 ((w, d0, ts, es, b, ()), (((((List.getD ts (Int.toNat (n - 1)) (0, [], 0, [], 0, 0)).2).2).2).2).2, seg
 0 (o.length + 1) ys, ()) Q))))))))) (req (decide (0 + o.length <= o.length)) (req (decide (ts.length = ts.length)) (req (decide (es.length = es.length)) (Q (AX.exit 0) (stS 4 sh44e (seg 0 (o.length) o, (w, d0, ts, es, b,
 ()), ()))))))) := by kernel_rfl
abbrev fcLine : FC2 := ⟨A [.box 0 (rollC 1 2), .v .s], 3, A [.box 0 (rollC 3 4), .any, .v L, .v I], 5, fun ((w, d0, ts, es, rdy, _), p, _) K => (okR (w, d0, ts, es) /\ rdy = true) /\
 ∀ (s : List Int) (e : Int), (s, e) = lineI (w, d0, ts, es) p -> K ((w, d0, ts, es, true, ()), (), s, e, ())⟩
theorem v44F (w d0 : Int) (ts : List Tk) (es : List Ev) (p : Tx) (K : fcLine.post.den -> Prop) : (xfn2 Tryd.prog { f := [(16, fcNumX)], l2 := [(44, 0, lc44)] } 5 44 fcLine ((w, d0, ts, es, true, ()), p, ()) K) =
 (∀ (r e : Int), (r, e) = numberI p -> fork (e != (0 : Int)) (req (decide (0 + ts.length <= ts.length)) (req (decide (0 + es.length <= es.length)) (K ((w, d0, seg 0 (ts.length) ts, seg 0 (es.length) es, true, ()), (), [], e,
 ())))) (fork (decide (r > (↑(ts.length) : Int))) (req (decide (0 + ts.length <= ts.length)) (req (decide (0 + es.length <= es.length)) (K ((w, d0, seg 0 (ts.length) ts, seg 0 (es.length) es, true, ()), (), [], (4 : Int),
 ())))) (req (decide (ts.length = ts.length)) (req (decide (es.length = es.length)) (((0 : SV.den (SV.slot 6 (SV.v I))) <= r /\ r <= (↑(ts.length) : SV.den (SV.slot 6 (SV.v I))) /\ ts.length <= 256 /\ (0 : Int) + r <= (256 : Int)
 /\ ∀ (i : Int), (1 : Int) <= i -> i <= (↑(ts.length) : Int) -> (0 : Int) <= (tkI ts i).2.2.2.2.2 /\ (tkI ts i).2.2.2.2.2 <= i - 1) /\ req (decide (0 + ts.length <= ts.length)) (req (decide (0 + es.length <= es.length)) (req (decide
 (0 + List.length ([] ++ lineK ts (Int.toNat r) r) <= List.length ([] ++ lineK ts (Int.toNat r) r))) (K ((w, d0, seg 0 (ts.length) ts, seg 0 (es.length) es, true, ()), (), seg 0 (List.length ([] ++ lineK ts (Int.toNat r)
 r)) ([] ++ lineK ts (Int.toNat r) r), (0 : Int), ()))))))))) := by kernel_rfl
abbrev sh30 : SV := S [(0, .box 0 rollL), (3, .own 3 T6), (13, .sls 1 6), (14, .v I), (15, .v I)]
abbrev sh30e : SV := SB [(3, .own 3 T6)] (A [.blk 0 rollL])
abbrev lc30 : LC2 := ⟨3, sh30, 4, fun (r, o, n, m, i, _) Q => (n = r.2.2.1.length /\ m = r.2.2.1.length /\ 0 <= i /\ i <= r.2.2.1.length /\ r.2.2.1.length <= 256 /\ o = r.2.2.1.take i.toNat /\ ∀ t ∈ r.2.2.1, t.2.2.2.1.length <= 100) /\
 Q (.exit 0) (stS 4 sh30e (r.2.2.1, r, ()))⟩
theorem v30L (w d0 : Int) (ts : List Tk) (es : List Ev) (b : Bool) (o : List Tk) (m i : Int) (Q : AX -> St -> Prop) : (xloop2 Tryd.prog { nm := true, f := [(64, fcId)] } 5 30 0 lc30 (fun _ => some (sh30e, 4)) (fun (r, _, _, _, i, _) => mL r.2.2.1 i) ((w, d0, ts, es, b, ()), o, ts.length, m, i, ()) Q) =
 (fork (decide (i < m)) (req (decide ((0 : Int) <= i /\ i < (↑(ts.length) : Int))) (req (decide (Int.toNat i < ts.length)) (List.length ((List.getD ts (Int.toNat i) (0, [], 0, [], 0, 0)).2.2.2.1) <= 100 /\ ∀ (r : List Int), r
 = (List.getD ts (Int.toNat i) (0, [], 0, [], 0, 0)).2.2.2.1 -> req (decide (0 + o.length <= o.length)) (req (fitsN (o.length + 1) 72) (∀ (ys : List (Ty.den (Ty.pr (Ty.i IntKind.i64) (Ty.pr Ty.s (Ty.pr (Ty.i IntKind.i64)
 (Ty.pr (Ty.sl (Ty.i IntKind.i64)) (Ty.pr (Ty.i IntKind.i64) (Ty.i IntKind.i64)))))))), ys = seg 0 (o.length) o ++ [((List.getD ts (Int.toNat i) (0, [], 0, [], 0, 0)).1, (List.getD ts (Int.toNat i) (0, [], 0, [], 0,
 0)).2.1, (List.getD ts (Int.toNat i) (0, [], 0, [], 0, 0)).2.2.1, r, (List.getD ts (Int.toNat i) (0, [], 0, [], 0, 0)).2.2.2.2)] -> req (inR IntKind.i64 (i + 1)) (req (decide (ts.length = ts.length)) (req (decide
 (es.length = es.length)) (req (decide (0 + (o.length + 1) <= ys.length)) (mL ts (i + 1) < mL ts i /\ LC2.spec lc30 ((w, d0, ts, es, b, ()), seg 0 (o.length + 1) ys, ts.length, m, i + 1, ()) Q))))))))) (req (decide (0 +
 o.length <= o.length)) (req (decide (ts.length = ts.length)) (req (decide (es.length = es.length)) (Q (AX.exit 0) (stS 4 sh30e (seg 0 (o.length) o, (w, d0, ts, es, b, ()), ()))))))) := by kernel_rfl
abbrev fcTix : FC2 := ⟨A [.box 0 (rollC 1 2)], 3, A [.box 0 (rollC 3 4), .v (.sl T6)], 5, fun ((w, d0, ts, es, rdy, _), _) K => (ts.length <= 256 /\ ∀ t ∈ ts, t.2.2.2.1.length <= 100) /\
 ∀ (l : List Tk), l = ts -> K ((w, d0, ts, es, rdy, ()), l, ())⟩
theorem v30F (w d0 : Int) (ts : List Tk) (es : List Ev) (b : Bool) (K : fcTix.post.den -> Prop) : (xfn2 Tryd.prog { l2 := [(30, 0, lc30)] } 5 30 fcTix ((w, d0, ts, es, b, ()), ()) K) =
 (req (decide (ts.length = ts.length)) (req (decide (es.length = es.length)) ((ts.length = ts.length /\ (↑(ts.length) : Int) = (↑(ts.length) : SV.den (SV.slot 14 (SV.v I))) /\ (0 : SV.den (SV.slot 15 (SV.v I))) <= (0 : Int) /\
 (0 : Int) <= (↑(ts.length) : SV.den (SV.slot 15 (SV.v I))) /\ ts.length <= 256 /\ [] = List.take 0 ts /\ ∀ (t : Ty.den T6), t ∈ ts -> List.length (t.2.2.2.1) <= 100) /\ req (decide (0 + ts.length <= ts.length)) (req (decide (0 +
 es.length <= es.length)) (req (decide (0 + ts.length <= ts.length)) (K ((w, d0, seg 0 (ts.length) ts, seg 0 (es.length) es, b, ()), seg 0 (ts.length) ts, ()))))))) := by kernel_rfl
abbrev fcEvs : FC2 := ⟨A [.box 0 (rollC 1 2)], 3, A [.box 0 (rollC 3 4), .v (.sl E5)], 5, fun ((w, d0, ts, es, rdy, _), _) K => es.length <= 1000 /\
 ∀ (l : List Ev), l = es -> K ((w, d0, ts, es, rdy, ()), l, ())⟩
theorem v38F (w d0 : Int) (ts : List Tk) (es : List Ev) (b : Bool) (K : fcEvs.post.den -> Prop) : (xfn2 Tryd.prog { f2 := [(78, fcClE)] } 5 38 fcEvs ((w, d0, ts, es, b, ()), ()) K) =
 (req (decide (es.length = es.length)) (es.length <= 1000 /\ req (decide (0 + ts.length <= ts.length)) (req (decide (0 + es.length <= es.length)) (req (decide (0 + es.length <= es.length)) (K ((w, d0, seg 0 (ts.length) ts, seg
 0 (es.length) es, b, ()), seg 0 (es.length) es, ())))))) := by kernel_rfl
abbrev CT : Ty := .pr I (.pr I (.pr .s (.pr .s (.pr L (.pr LT LL)))))
structure okCl (c : Cl) : Prop where
 pledge : c.2.2.2.1.length <= big
 names : c.2.2.2.2.2.1.length <= big /\ ∀ p ∈ c.2.2.2.2.2.1, p.length <= big
 edges : c.2.2.2.2.2.2.length <= big
abbrev fcCall : FC2 := ⟨A [.box 0 (rollC 1 2), .v CT], 3, A [.box 0 (rollC 3 4), .any, .v LT, .v L, .v I], 5, fun ((w, d0, ts, es, rdy, _), c, _) K => (okR (w, d0, ts, es) /\ rdy = true /\ fitsN (es.length + 1) 40 = true /\ okCl c) /\
 ∀ (w1 d1 : Int) (ts1 : List Tk) (es1 : List Ev) (tx : List Tx) (l : List Int) (e : Int), ((w1, d1, ts1, es1), tx, l, e) = callI (w, d0, ts, es) c -> K ((w1, d1, ts1, es1, true, ()), (), tx, l, e, ())⟩
theorem v31F (w d0 : Int) (ts : List Tk) (es : List Ev) (k d : Int) (c p : Tx) (h : List Int) (ps : List Tx) (eds : List (List Int)) (K : fcCall.post.den -> Prop) : (xfn2 Tryd.prog { nm := true, f2 := [(86, fcDo), (48, fcLive), (44, fcLine)] } 8 31 fcCall ((w, d0, ts, es, true, ()), (k, d, c, p, h, ps, eds), ()) K) =
 (fork (k == (1 : Int)) (fork ((↑(eds.length) : Int) == (0 : Int)) (AV.int IntKind.i64 d = AV.int IntKind.i64 d /\ AV.str p = AV.str p /\ req (decide (0 + ts.length <= ts.length)) (req (decide (0 + es.length <= es.length))
 (preD w d0 (seg 0 (ts.length) ts) (seg 0 (es.length) es) true (1 : Int) [] [p] [[]] [] [] /\ ∀ (w1 d1 : Int) (ts1 : List Tk) (es1 : List Ev) (c1 : Tx) (h1 : List Int) (ps1 : List Tx) (eds1 : List (List Int)) (dd1 : Int)
 (cs1 : List Tx) (pl1 : Tx) (e : Int), ((w1, d1, ts1, es1), cs1, pl1, e) = doC (1 : Int) (w, d0, seg 0 (ts.length) ts, seg 0 (es.length) es) [] [] [p] [[]] d -> fork ((↑(cs1.length) : Int) == (0 : Int)) (req (decide (0 +
 ts1.length <= ts1.length)) (req (decide (0 + es1.length <= es1.length)) (K ((w1, d1, seg 0 (ts1.length) ts1, seg 0 (es1.length) es1, true, ()), (), [[]], [], e, ())))) (req (decide ((0 : Int) <= (0 : Int) /\ (0 : Int) <
 (↑(cs1.length) : Int))) (req (decide (0 < cs1.length)) (req (decide (0 + ts1.length <= ts1.length)) (req (decide (0 + es1.length <= es1.length)) (K ((w1, d1, seg 0 (ts1.length) ts1, seg 0 (es1.length) es1, true, ()), (),
 [List.getD cs1 0 []], [], e, ()))))))))) (req (decide ((0 : Int) <= (0 : Int) /\ (0 : Int) < (↑(eds.length) : Int))) (AV.int IntKind.i64 d = AV.int IntKind.i64 d /\ AV.str p = AV.str p /\ req (decide (0 + ts.length <=
 ts.length)) (req (decide (0 + es.length <= es.length)) (preD w d0 (seg 0 (ts.length) ts) (seg 0 (es.length) es) true (1 : Int) [] [p] [List.getD eds 0 []] [] [] /\ ∀ (w1 d1 : Int) (ts1 : List Tk) (es1 : List Ev) (c1 : Tx)
 (h1 : List Int) (ps1 : List Tx) (eds1 : List (List Int)) (dd1 : Int) (cs1 : List Tx) (pl1 : Tx) (e : Int), ((w1, d1, ts1, es1), cs1, pl1, e) = doC (1 : Int) (w, d0, seg 0 (ts.length) ts, seg 0 (es.length) es) [] [] [p]
 [List.getD eds 0 []] d -> fork ((↑(cs1.length) : Int) == (0 : Int)) (req (decide (0 + ts1.length <= ts1.length)) (req (decide (0 + es1.length <= es1.length)) (K ((w1, d1, seg 0 (ts1.length) ts1, seg 0 (es1.length) es1, true,
 ()), (), [[]], [], e, ())))) (req (decide ((0 : Int) <= (0 : Int) /\ (0 : Int) < (↑(cs1.length) : Int))) (req (decide (0 < cs1.length)) (req (decide (0 + ts1.length <= ts1.length)) (req (decide (0 + es1.length <= es1.length))
 (K ((w1, d1, seg 0 (ts1.length) ts1, seg 0 (es1.length) es1, true, ()), (), [List.getD cs1 0 []], [], e, ()))))))))))) (fork (k == (2 : Int)) (req (decide (0 + ts.length <= ts.length)) (req (decide (0 + es.length <=
 es.length)) (preD w d0 (seg 0 (ts.length) ts) (seg 0 (es.length) es) true (2 : Int) [] [] [] [] [] /\ ∀ (w1 d1 : Int) (ts1 : List Tk) (es1 : List Ev) (c1 : Tx) (h1 : List Int) (ps1 : List Tx) (eds1 : List (List Int)) (dd1
 : Int) (cs1 : List Tx) (pl1 : Tx) (e : Int), ((w1, d1, ts1, es1), cs1, pl1, e) = doC (2 : Int) (w, d0, seg 0 (ts.length) ts, seg 0 (es.length) es) c [] [] [] d -> req (decide (0 + ts1.length <= ts1.length)) (req (decide (0
 + es1.length <= es1.length)) (K ((w1, d1, seg 0 (ts1.length) ts1, seg 0 (es1.length) es1, true, ()), (), [[]], [], e, ())))))) (fork (k == (3 : Int)) (req (decide (0 + ts.length <= ts.length)) (req (decide (0 + es.length <=
 es.length)) (preD w d0 (seg 0 (ts.length) ts) (seg 0 (es.length) es) true (3 : Int) h [] [] [] [] /\ ∀ (w1 d1 : Int) (ts1 : List Tk) (es1 : List Ev) (c1 : Tx) (h1 : List Int) (ps1 : List Tx) (eds1 : List (List Int)) (dd1 :
 Int) (cs1 : List Tx) (pl1 : Tx) (e : Int), ((w1, d1, ts1, es1), cs1, pl1, e) = doC (3 : Int) (w, d0, seg 0 (ts.length) ts, seg 0 (es.length) es) c h [] [] d -> req (decide (0 + ts1.length <= ts1.length)) (req (decide (0 +
 es1.length <= es1.length)) (K ((w1, d1, seg 0 (ts1.length) ts1, seg 0 (es1.length) es1, true, ()), (), [[]], [], e, ())))))) (fork (k == (4 : Int)) (fork ((↑(eds.length) : Int) == (0 : Int)) (AV.int IntKind.i64 d = AV.int
 IntKind.i64 d /\ AV.str c = AV.str c /\ req (decide (0 + ts.length <= ts.length)) (req (decide (0 + es.length <= es.length)) (preD w d0 (seg 0 (ts.length) ts) (seg 0 (es.length) es) true (4 : Int) [] [] [[]] [] [] /\ ∀ (w1 d1
 : Int) (ts1 : List Tk) (es1 : List Ev) (c1 : Tx) (h1 : List Int) (ps1 : List Tx) (eds1 : List (List Int)) (dd1 : Int) (cs1 : List Tx) (pl1 : Tx) (e : Int), ((w1, d1, ts1, es1), cs1, pl1, e) = doC (4 : Int) (w, d0, seg 0
 (ts.length) ts, seg 0 (es.length) es) c [] [] [[]] d -> fork ((↑(cs1.length) : Int) == (0 : Int)) (req (decide (0 + ts1.length <= ts1.length)) (req (decide (0 + es1.length <= es1.length)) (K ((w1, d1, seg 0 (ts1.length) ts1,
 seg 0 (es1.length) es1, true, ()), (), [[]], [], e, ())))) (req (decide ((0 : Int) <= (0 : Int) /\ (0 : Int) < (↑(cs1.length) : Int))) (req (decide (0 < cs1.length)) (req (decide (0 + ts1.length <= ts1.length)) (req (decide
 (0 + es1.length <= es1.length)) (K ((w1, d1, seg 0 (ts1.length) ts1, seg 0 (es1.length) es1, true, ()), (), [List.getD cs1 0 []], [], e, ()))))))))) (req (decide ((0 : Int) <= (0 : Int) /\ (0 : Int) < (↑(eds.length) : Int)))
 (AV.int IntKind.i64 d = AV.int IntKind.i64 d /\ AV.str c = AV.str c /\ req (decide (0 + ts.length <= ts.length)) (req (decide (0 + es.length <= es.length)) (preD w d0 (seg 0 (ts.length) ts) (seg 0 (es.length) es) true (4 :
 Int) [] [] [List.getD eds 0 []] [] [] /\ ∀ (w1 d1 : Int) (ts1 : List Tk) (es1 : List Ev) (c1 : Tx) (h1 : List Int) (ps1 : List Tx) (eds1 : List (List Int)) (dd1 : Int) (cs1 : List Tx) (pl1 : Tx) (e : Int), ((w1, d1, ts1,
 es1), cs1, pl1, e) = doC (4 : Int) (w, d0, seg 0 (ts.length) ts, seg 0 (es.length) es) c [] [] [List.getD eds 0 []] d -> fork ((↑(cs1.length) : Int) == (0 : Int)) (req (decide (0 + ts1.length <= ts1.length)) (req (decide (0
 + es1.length <= es1.length)) (K ((w1, d1, seg 0 (ts1.length) ts1, seg 0 (es1.length) es1, true, ()), (), [[]], [], e, ())))) (req (decide ((0 : Int) <= (0 : Int) /\ (0 : Int) < (↑(cs1.length) : Int))) (req (decide (0 <
 cs1.length)) (req (decide (0 + ts1.length <= ts1.length)) (req (decide (0 + es1.length <= es1.length)) (K ((w1, d1, seg 0 (ts1.length) ts1, seg 0 (es1.length) es1, true, ()), (), [List.getD cs1 0 []], [], e, ())))))))))))
 (fork (k == (5 : Int)) (req (decide (0 + ts.length <= ts.length)) (req (decide (0 + es.length <= es.length)) (preD w d0 (seg 0 (ts.length) ts) (seg 0 (es.length) es) true (5 : Int) h ps eds [] [] /\ ∀ (w1 d1 : Int) (ts1 :
 List Tk) (es1 : List Ev) (c1 : Tx) (h1 : List Int) (ps1 : List Tx) (eds1 : List (List Int)) (dd1 : Int) (cs1 : List Tx) (pl1 : Tx) (e : Int), ((w1, d1, ts1, es1), cs1, pl1, e) = doC (5 : Int) (w, d0, seg 0 (ts.length) ts,
 seg 0 (es.length) es) c h ps eds d -> req (decide (0 + ts1.length <= ts1.length)) (req (decide (0 + es1.length <= es1.length)) (req (decide (0 + cs1.length <= cs1.length)) (K ((w1, d1, seg 0 (ts1.length) ts1, seg 0
 (es1.length) es1, true, ()), (), seg 0 (cs1.length) cs1, [], e, ()))))))) (fork (k == (6 : Int)) (req (decide (0 + ts.length <= ts.length)) (req (decide (0 + es.length <= es.length)) (preD w d0 (seg 0 (ts.length) ts) (seg 0
 (es.length) es) true (6 : Int) h [] [] [] [] /\ ∀ (w1 d1 : Int) (ts1 : List Tk) (es1 : List Ev) (c1 : Tx) (h1 : List Int) (ps1 : List Tx) (eds1 : List (List Int)) (dd1 : Int) (cs1 : List Tx) (pl1 : Tx) (e : Int), ((w1, d1,
 ts1, es1), cs1, pl1, e) = doC (6 : Int) (w, d0, seg 0 (ts.length) ts, seg 0 (es.length) es) c h [] [] d -> req (decide (0 + ts1.length <= ts1.length)) (req (decide (0 + es1.length <= es1.length)) (K ((w1, d1, seg 0
 (ts1.length) ts1, seg 0 (es1.length) es1, true, ()), (), [pl1], [], e, ())))))) (fork (k == (7 : Int)) (req (decide (0 + ts.length <= ts.length)) (req (decide (0 + es.length <= es.length)) (preD w d0 (seg 0 (ts.length) ts)
 (seg 0 (es.length) es) true (7 : Int) [] [] [] [] [] /\ ∀ (w1 d1 : Int) (ts1 : List Tk) (es1 : List Ev) (c1 : Tx) (h1 : List Int) (ps1 : List Tx) (eds1 : List (List Int)) (dd1 : Int) (cs1 : List Tx) (pl1 : Tx) (e : Int),
 ((w1, d1, ts1, es1), cs1, pl1, e) = doC (7 : Int) (w, d0, seg 0 (ts.length) ts, seg 0 (es.length) es) c [] [] [] d -> req (decide (0 + ts1.length <= ts1.length)) (req (decide (0 + es1.length <= es1.length)) (K ((w1, d1, seg
 0 (ts1.length) ts1, seg 0 (es1.length) es1, true, ()), (), [pl1], [], e, ())))))) (fork (k == (8 : Int)) (req (decide (0 + ts.length <= ts.length)) (req (decide (0 + es.length <= es.length)) ((okR (w, d0, seg 0 (ts.length)
 ts, seg 0 (es.length) es) /\ true = true) /\ ∀ (s : Tx) (e : Int), (s, e) = liveI (w, d0, seg 0 (ts.length) ts, seg 0 (es.length) es) p -> req (decide (0 + List.length (seg 0 (ts.length) ts) <= List.length (seg 0 (ts.length)
 ts))) (req (decide (0 + List.length (seg 0 (es.length) es) <= List.length (seg 0 (es.length) es))) (K ((w, d0, seg 0 (List.length (seg 0 (ts.length) ts)) (seg 0 (ts.length) ts), seg 0 (List.length (seg 0 (es.length) es))
 (seg 0 (es.length) es), true, ()), (), [s], [], e, ())))))) (req (decide (0 + ts.length <= ts.length)) (req (decide (0 + es.length <= es.length)) ((okR (w, d0, seg 0 (ts.length) ts, seg 0 (es.length) es) /\ true = true) /\ ∀
 (s : List Int) (e : Int), (s, e) = lineI (w, d0, seg 0 (ts.length) ts, seg 0 (es.length) es) c -> req (decide (0 + List.length (seg 0 (ts.length) ts) <= List.length (seg 0 (ts.length) ts))) (req (decide (0 + List.length
 (seg 0 (es.length) es) <= List.length (seg 0 (es.length) es))) (K ((w, d0, seg 0 (List.length (seg 0 (ts.length) ts)) (seg 0 (ts.length) ts), seg 0 (List.length (seg 0 (es.length) es)) (seg 0 (es.length) es), true, ()),
 (), [], s, e, ())))))))))))))) := by kernel_rfl
end Go.P3
