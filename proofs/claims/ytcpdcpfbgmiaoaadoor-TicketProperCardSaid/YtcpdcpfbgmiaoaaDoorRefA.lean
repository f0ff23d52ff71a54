/- Rolls by the reference: states and what is to be shown, reduced. No conditions. -/
import Derived.Test.YtcpdcpfbgmiaoaaDoorRollN
set_option linter.all false
set_option maxRecDepth 100000
set_option maxHeartbeats 2000000
namespace Go.P3
open Go.Lom Go.Proofs Go
abbrev refC (i j : Nat) : SV := A [.v I, .v I, .own i T6, .own j E5]
abbrev refL : SV := A [.v I, .v I, .lst 1 T6, .lst 2 E5]
abbrev sh91 : SV := S [(0, .box 0 refL), (1, .v .s), (5, .v I)]
abbrev sh91r : SV := SB [(4, .v .b)] (A [.blk 0 refL])
abbrev sh91e : SV := SB [(1, .v .s)] (A [.blk 0 refL])
def ex91 : Ex2
 | .ret => some (sh91r, 3)
 | _ => some (sh91e, 3)
abbrev lc91 : LC2 := ⟨3, sh91, 3, fun (r, p, i, _) Q => (0 <= i /\ i <= r.2.2.1.length /\ r.2.2.1.length <= 256) /\
 ((r.2.2.1.drop i.toNat).any (named p) = false -> Q (.exit 0) (stS 3 sh91e (p, r, ()))) /\ ((r.2.2.1.drop i.toNat).any (named p) = true -> Q .ret (stS 3 sh91r (false, r, ())))⟩
theorem v91L (w d0 : Int) (ts : List Tk) (es : List Ev) (p : Tx) (i : Int) (Q : AX -> St -> Prop) : (xloop2 Tryd.prog {} 5 91 0 lc91 ex91 (fun (r, _, i, _) => mL r.2.2.1 i) ((w, d0, ts, es, ()), p, i, ()) Q) =
 (fork (decide (i < (↑(ts.length) : Int))) (req (decide ((0 : Int) <= i /\ i < (↑(ts.length) : Int))) (req (decide (Int.toNat i < ts.length)) (fork ((List.getD ts (Int.toNat i) (0, [], 0, [], 0, 0)).2.1 == p) (req (decide
 (ts.length = ts.length)) (req (decide (es.length = es.length)) (Q AX.ret (stS 3 sh91r (false, (w, d0, ts, es, ()), ()))))) (req (inR IntKind.i64 (i + 1)) (req (decide (ts.length = ts.length)) (req (decide (es.length =
 es.length)) (mL ts (i + 1) < mL ts i /\ LC2.spec lc91 ((w, d0, ts, es, ()), p, i + 1, ()) Q))))))) (req (decide (ts.length = ts.length)) (req (decide (es.length = es.length)) (Q (AX.exit 0) (stS 3 sh91e (p, (w, d0, ts, es,
 ()), ())))))) := by kernel_rfl
abbrev fcNewW : FC2 := ⟨A [.box 0 refL, .v .s], 3, A [.box 0 refL, .any, .v .b], 3, fun (r, p, _) K => (r.2.2.1.length <= 256 /\ p.length <= big) /\ ∀ b : Bool, b = (wordB p && !r.2.2.1.any (named p)) -> K (r, (), b, ())⟩
theorem v91F (w d0 : Int) (ts : List Tk) (es : List Ev) (p : Tx) (K : fcNewW.post.den -> Prop) : (xfn2 Tryd.prog { f := [(105, fcWord)], l2 := [(91, 0, lc91)] } 5 91 fcNewW ((w, d0, ts, es, ()), p, ()) K) =
 (req (decide (ts.length = ts.length)) (req (decide (es.length = es.length)) (((0 : SV.den (SV.slot 5 (SV.v I))) <= (0 : Int) /\ (0 : Int) <= (↑(ts.length) : SV.den (SV.slot 5 (SV.v I))) /\ ts.length <= 256) /\ (List.any
 (List.drop 0 ts) (named p) = false -> p.length <= 9223372036854775807 /\ req (decide (ts.length = ts.length)) (req (decide (es.length = es.length)) (K ((w, d0, ts, es, ()), (), wordB p, ())))) /\ (List.any (List.drop 0 ts)
 (named p) = true -> req (decide (ts.length = ts.length)) (req (decide (es.length = es.length)) (K ((w, d0, ts, es, ()), (), false, ()))))))) := by kernel_rfl
abbrev fcBrg : FC2 := ⟨A [.box 0 refL, .v .s, .v I], 3, A [.box 0 refL, .any, .any, .v I, .v I], 3, fun ((w, d0, ts, es, _), c, d, _) K => okR (w, d0, ts, es) /\ ∀ (i e : Int), e = bringE (w, d0, ts, es) c d -> (e = 0 -> i = (numberI c).1 - 1) -> K ((w, d0, ts, es, ()), (), (), i, e, ())⟩
theorem v94F (w d0 d : Int) (ts : List Tk) (es : List Ev) (c : Tx) (K : fcBrg.post.den -> Prop) : (xfn2 Tryd.prog { f := [(28, fcFrom), (17, fcNumX)] } 5 94 fcBrg ((w, d0, ts, es, ()), c, d, ()) K) =
 (fork (!decide (d0 <= d /\ d <= (36500 : Int))) (req (decide (ts.length = ts.length)) (req (decide (es.length = es.length)) (K ((w, d0, ts, es, ()), (), (), (0 : Int), (34 : Int), ())))) (∀ (r e : Int), (r, e) = numberI c ->
 fork (e != (0 : Int)) (req (decide (ts.length = ts.length)) (req (decide (es.length = es.length)) (K ((w, d0, ts, es, ()), (), (), (0 : Int), e, ())))) (fork (decide (r > (↑(ts.length) : Int))) (req (decide (ts.length =
 ts.length)) (req (decide (es.length = es.length)) (K ((w, d0, ts, es, ()), (), (), (0 : Int), (4 : Int), ())))) (req (inR IntKind.i64 (r - 1)) (req (decide ((0 : Int) <= r - 1 /\ r - 1 < (↑(ts.length) : Int))) (req (decide
 (Int.toNat (r - 1) < ts.length)) (fork ((((List.getD ts (Int.toNat (r - 1)) (0, [], 0, [], 0, 0)).2).2).1 != (1 : Int)) (fork ((((List.getD ts (Int.toNat (r - 1)) (0, [], 0, [], 0, 0)).2).2).1 != (2 : Int)) (req (decide
 (ts.length = ts.length)) (req (decide (es.length = es.length)) (K ((w, d0, ts, es, ()), (), (), (0 : Int), (35 : Int), ())))) (req (inR IntKind.i64 (r - 1)) (req (decide (ts.length = ts.length)) (req (decide (es.length =
 es.length)) (K ((w, d0, ts, es, ()), (), (), r - 1, (0 : Int), ())))))) (req (inR IntKind.i64 (r - 1)) (req (decide (ts.length = ts.length)) (req (decide (es.length = es.length)) (K ((w, d0, ts, es, ()), (), (), r - 1, (0
 : Int), ())))))))))))) := by kernel_rfl
abbrev fcFit3 : FC := ⟨[.v L, .v L], [I, I], fun x K => ∀ n e : Int, (n, e) = fitE x.1 x.2.1 -> K (n, e, ())⟩
abbrev TR : Tb := { nm := true, f := [(28, fcFrom), (60, fcEdge 0), (106, fcId), (51, fcCodeX), (23, fcFit3)], f2 := [(91, fcNewW), (94, fcBrg)] }
abbrev roomy (es : List Ev) : Prop := fitsN (es.length + 1) 40 = true
abbrev fcRI : FC2 := ⟨A [.box 0 (refC 1 2), .v .s, .v L, .v I], 3, A [.box 0 (refC 3 4), .any, .any, .any, .v .s, .v I], 5, fun ((w, d0, ts, es, _), p, g, d, _) K => (okR (w, d0, ts, es) /\ roomy es /\ p.length <= big) /\
 ∀ (w1 d1 : Int) (ts1 : List Tk) (es1 : List Ev) (x : Tx) (e : Int), ((w1, d1, ts1, es1), x, e) = issueI (w, d0, ts, es) p g d -> K ((w1, d1, ts1, es1, ()), (), (), (), x, e, ())⟩
theorem v69F (w d0 d : Int) (ts : List Tk) (es : List Ev) (p : Tx) (g : List Int) (K : fcRI.post.den -> Prop) : (xfn2 Tryd.prog TR 6 69 fcRI ((w, d0, ts, es, ()), p, g, d, ()) K) =
 (fork (!decide (d0 <= d /\ d <= (36500 : Int))) (req (decide (0 + ts.length <= ts.length)) (req (decide (0 + es.length <= es.length)) (K ((w, d0, seg 0 (ts.length) ts, seg 0 (es.length) es, ()), (), (), (), [], (34 : Int),
 ())))) (req (decide (ts.length = ts.length)) (req (decide (es.length = es.length)) ((ts.length <= 256 /\ p.length <= 9223372036854775807) /\ ∀ (b : Bool), b = (wordB p && !List.any ts (named p)) -> fork (!b) (req (decide (0 +
 ts.length <= ts.length)) (req (decide (0 + es.length <= es.length)) (K ((w, d0, seg 0 (ts.length) ts, seg 0 (es.length) es, ()), (), (), (), [], (33 : Int), ())))) (fork (!inB (0 : Int) g) (req (decide (0 + ts.length <=
 ts.length)) (req (decide (0 + es.length <= es.length)) (K ((w, d0, seg 0 (ts.length) ts, seg 0 (es.length) es, ()), (), (), (), [], (31 : Int), ())))) (fork (decide ((↑(ts.length) : Int) >= (256 : Int))) (req (decide (0 +
 ts.length <= ts.length)) (req (decide (0 + es.length <= es.length)) (K ((w, d0, seg 0 (ts.length) ts, seg 0 (es.length) es, ()), (), (), (), [], (6 : Int), ())))) (req (inR IntKind.i64 ((↑(ts.length) : Int) + 1)) (g.length
 <= 100 /\ ∀ (r : List Int), r = g -> AV.sl 1 6 0 (ts.length) none = AV.sl 1 6 0 (ts.length) none /\ AV.sl 1 6 0 (ts.length) none = AV.sl 1 6 0 (ts.length) none /\ req (decide (0 + ts.length <= ts.length)) (req (fitsN (ts.length
 + 1) 72) (∀ (ys : List (Ty.den (Ty.pr (Ty.i IntKind.i64) (Ty.pr Ty.s (Ty.pr (Ty.i IntKind.i64) (Ty.pr (Ty.sl (Ty.i IntKind.i64)) (Ty.pr (Ty.i IntKind.i64) (Ty.i IntKind.i64)))))))), ys = seg 0 (ts.length) ts ++
 [((↑(ts.length) : Int) + 1, p, (1 : Int), r, (0 : Int), (0 : Int))] -> ((0 : AT.den (AT.v I)) <= (↑(ts.length) : Int) + 1 /\ (↑(ts.length) : Int) + 1 <= (99999999 : AT.den (AT.v I))) /\ ∀ (s : Tx), s = codeS ((↑(ts.length) :
 Int) + 1) -> AV.sl 2 5 0 (es.length) none = AV.sl 2 5 0 (es.length) none /\ req (decide (0 + es.length <= es.length)) (req (fitsN (es.length + 1) 40) (∀ (ys_1 : List (Ty.den (Ty.pr (Ty.i IntKind.i64) (Ty.pr (Ty.i
 IntKind.i64) (Ty.pr (Ty.i IntKind.i64) (Ty.pr (Ty.i IntKind.i64) (Ty.i IntKind.i64))))))), ys_1 = seg 0 (es.length) es ++ [((1 : Int), d, (0 : Int), (↑(ts.length + 1) : Int), (1 : Int))] -> req (decide (0 + (ts.length + 1)
 <= ys.length)) (req (decide (0 + (es.length + 1) <= ys_1.length)) (K ((w, d, seg 0 (ts.length + 1) ys, seg 0 (es.length + 1) ys_1, ()), (), (), (), s, (0 : Int), ()))))))))))))))) := by kernel_rfl
abbrev fcRB : FC2 := ⟨A [.box 0 (refC 1 2), .v .s, .v I], 3, A [.box 0 (refC 3 4), .any, .any, .v I], 5, fun ((w, d0, ts, es, _), c, d, _) K => (okR (w, d0, ts, es) /\ roomy es) /\
 ∀ (w1 d1 : Int) (ts1 : List Tk) (es1 : List Ev) (e : Int), ((w1, d1, ts1, es1), e) = blockI (w, d0, ts, es) c d -> K ((w1, d1, ts1, es1, ()), (), (), e, ())⟩
theorem v70F (w d0 d : Int) (ts : List Tk) (es : List Ev) (c : Tx) (K : fcRB.post.den -> Prop) : (xfn2 Tryd.prog TR 6 70 fcRB ((w, d0, ts, es, ()), c, d, ()) K) =
 (req (decide (ts.length = ts.length)) (req (decide (es.length = es.length)) (okR (w, d0, ts, es) /\ ∀ (i e : Int), e = bringE (w, d0, ts, es) c d -> (e = (0 : Int) -> i = (numberI c).1 - 1) -> fork (e != (0 : Int)) (req
 (decide (0 + ts.length <= ts.length)) (req (decide (0 + es.length <= es.length)) (K ((w, d0, seg 0 (ts.length) ts, seg 0 (es.length) es, ()), (), (), e, ())))) (req (decide ((0 : Int) <= i /\ i < (↑(ts.length) : Int))) (req
 (decide (Int.toNat i < ts.length)) (fork ((List.getD ts (Int.toNat i) (0, [], 0, [], 0, 0)).2.2.1 == (2 : Int)) (req (decide (0 + ts.length <= ts.length)) (req (decide (0 + es.length <= es.length)) (K ((w, d0, seg 0
 (ts.length) ts, seg 0 (es.length) es, ()), (), (), (36 : Int), ())))) (req (decide ((0 : Int) <= i /\ i < (↑(ts.length) : Int))) (req (decide (Int.toNat i < ts.length)) (req (decide ((0 : Int) <= i /\ i < (↑(ts.length) :
 Int))) (req (decide (Int.toNat i < ts.length)) (∀ (ys : List (Ty.den T6)), ys = List.set ts (Int.toNat i) ((List.getD ts (Int.toNat i) (0, [], 0, [], 0, 0)).1, (List.getD ts (Int.toNat i) (0, [], 0, [], 0, 0)).2.1, (2 :
 Int), (List.getD ts (Int.toNat i) (0, [], 0, [], 0, 0)).2.2.2.1, d, (List.getD ts (Int.toNat i) (0, [], 0, [], 0, 0)).2.2.2.2.2) -> req (inR IntKind.i64 (i + 1)) (AV.sl 2 5 0 (es.length) none = AV.sl 2 5 0 (es.length) none
 /\ req (decide (0 + es.length <= es.length)) (req (fitsN (es.length + 1) 40) (∀ (ys_1 : List (Ty.den (Ty.pr (Ty.i IntKind.i64) (Ty.pr (Ty.i IntKind.i64) (Ty.pr (Ty.i IntKind.i64) (Ty.pr (Ty.i IntKind.i64) (Ty.i
 IntKind.i64))))))), ys_1 = seg 0 (es.length) es ++ [((2 : Int), d, i + 1, (0 : Int), (0 : Int))] -> req (decide (0 + ts.length <= ys.length)) (req (decide (0 + (es.length + 1) <= ys_1.length)) (K ((w, d, seg 0 (ts.length)
 ys, seg 0 (es.length + 1) ys_1, ()), (), (), (0 : Int), ()))))))))))))))))) := by kernel_rfl
abbrev fcRF : FC2 := ⟨A [.box 0 (refC 1 2), .v .s, .v L, .v I], 3, A [.box 0 (refC 3 4), .any, .any, .any, .v I], 5, fun ((w, d0, ts, es, _), c, h, d, _) K => (okR (w, d0, ts, es) /\ roomy es) /\
 ∀ (w1 d1 : Int) (ts1 : List Tk) (es1 : List Ev) (e : Int), ((w1, d1, ts1, es1), e) = freeI (w, d0, ts, es) c h d -> K ((w1, d1, ts1, es1, ()), (), (), (), e, ())⟩
theorem v71F (w d0 d : Int) (ts : List Tk) (es : List Ev) (c : Tx) (h : List Int) (K : fcRF.post.den -> Prop) : (xfn2 Tryd.prog TR 6 71 fcRF ((w, d0, ts, es, ()), c, h, d, ()) K) =
 (req (decide (ts.length = ts.length)) (req (decide (es.length = es.length)) (okR (w, d0, ts, es) /\ ∀ (i e : Int), e = bringE (w, d0, ts, es) c d -> (e = (0 : Int) -> i = (numberI c).1 - 1) -> fork (e != (0 : Int)) (req
 (decide (0 + ts.length <= ts.length)) (req (decide (0 + es.length <= es.length)) (K ((w, d0, seg 0 (ts.length) ts, seg 0 (es.length) es, ()), (), (), (), e, ())))) (req (decide ((0 : Int) <= i /\ i < (↑(ts.length) : Int)))
 (req (decide (Int.toNat i < ts.length)) (fork ((List.getD ts (Int.toNat i) (0, [], 0, [], 0, 0)).2.2.1 != (2 : Int)) (req (decide (0 + ts.length <= ts.length)) (req (decide (0 + es.length <= es.length)) (K ((w, d0, seg 0
 (ts.length) ts, seg 0 (es.length) es, ()), (), (), (), (37 : Int), ())))) (req (decide ((0 : Int) <= i /\ i < (↑(ts.length) : Int))) (req (decide (Int.toNat i < ts.length)) (∀ (n e : Int), (n, e) = fitE ((List.getD ts
 (Int.toNat i) (0, [], 0, [], 0, 0)).2.2.2.1) h -> fork (e != (0 : Int)) (req (decide (0 + ts.length <= ts.length)) (req (decide (0 + es.length <= es.length)) (K ((w, d0, seg 0 (ts.length) ts, seg 0 (es.length) es, ()), (),
 (), (), e, ())))) (req (decide ((0 : Int) <= i /\ i < (↑(ts.length) : Int))) (req (decide (Int.toNat i < ts.length)) (req (decide ((0 : Int) <= i /\ i < (↑(ts.length) : Int))) (req (decide (Int.toNat i < ts.length)) (∀ (ys :
 List (Ty.den T6)), ys = List.set ts (Int.toNat i) ((List.getD ts (Int.toNat i) (0, [], 0, [], 0, 0)).1, (List.getD ts (Int.toNat i) (0, [], 0, [], 0, 0)).2.1, (1 : Int), (List.getD ts (Int.toNat i) (0, [], 0, [], 0,
 0)).2.2.2.1, (0 : Int), (List.getD ts (Int.toNat i) (0, [], 0, [], 0, 0)).2.2.2.2.2) -> req (inR IntKind.i64 (i + 1)) (AV.sl 2 5 0 (es.length) none = AV.sl 2 5 0 (es.length) none /\ req (decide (0 + es.length <= es.length))
 (req (fitsN (es.length + 1) 40) (∀ (ys_1 : List (Ty.den (Ty.pr (Ty.i IntKind.i64) (Ty.pr (Ty.i IntKind.i64) (Ty.pr (Ty.i IntKind.i64) (Ty.pr (Ty.i IntKind.i64) (Ty.i IntKind.i64))))))), ys_1 = seg 0 (es.length) es ++ [((3
 : Int), d, i + 1, (0 : Int), (0 : Int))] -> req (decide (0 + ts.length <= ys.length)) (req (decide (0 + (es.length + 1) <= ys_1.length)) (K ((w, d, seg 0 (ts.length) ys, seg 0 (es.length + 1) ys_1, ()), (), (), (), (0 :
 Int), ())))))))))))))))))))) := by kernel_rfl
abbrev fcRR : FC2 := ⟨A [.box 0 (refC 1 2), .v .s, .v L, .v I], 3, A [.box 0 (refC 3 4), .any, .any, .any, .v .s, .v I], 5, fun ((w, d0, ts, es, _), c, g, d, _) K => (okR (w, d0, ts, es) /\ roomy es) /\
 ∀ (w1 d1 : Int) (ts1 : List Tk) (es1 : List Ev) (x : Tx) (e : Int), ((w1, d1, ts1, es1), x, e) = replaceI (w, d0, ts, es) c g d -> K ((w1, d1, ts1, es1, ()), (), (), (), x, e, ())⟩
theorem v72F (w d0 d : Int) (ts : List Tk) (es : List Ev) (c : Tx) (g : List Int) (K : fcRR.post.den -> Prop) : (xfn2 Tryd.prog TR 6 72 fcRR ((w, d0, ts, es, ()), c, g, d, ()) K) =
 (req (decide (ts.length = ts.length)) (req (decide (es.length = es.length)) (okR (w, d0, ts, es) /\ ∀ (i e : Int), e = bringE (w, d0, ts, es) c d -> (e = (0 : Int) -> i = (numberI c).1 - 1) -> fork (e != (0 : Int)) (req
 (decide (0 + ts.length <= ts.length)) (req (decide (0 + es.length <= es.length)) (K ((w, d0, seg 0 (ts.length) ts, seg 0 (es.length) es, ()), (), (), (), [], e, ())))) (req (decide ((0 : Int) <= i /\ i < (↑(ts.length) :
 Int))) (req (decide (Int.toNat i < ts.length)) (fork ((List.getD ts (Int.toNat i) (0, [], 0, [], 0, 0)).2.2.1 != (2 : Int)) (req (decide (0 + ts.length <= ts.length)) (req (decide (0 + es.length <= es.length)) (K ((w, d0,
 seg 0 (ts.length) ts, seg 0 (es.length) es, ()), (), (), (), [], (37 : Int), ())))) (req (inR IntKind.i64 (d - (List.getD ts (Int.toNat i) (0, [], 0, [], 0, 0)).2.2.2.2.1)) (fork (decide (d - (List.getD ts (Int.toNat i)
 (0, [], 0, [], 0, 0)).2.2.2.2.1 < w)) (req (decide (0 + ts.length <= ts.length)) (req (decide (0 + es.length <= es.length)) (K ((w, d0, seg 0 (ts.length) ts, seg 0 (es.length) es, ()), (), (), (), [], (37 : Int), ()))))
 (fork (!inB (0 : Int) g) (req (decide (0 + ts.length <= ts.length)) (req (decide (0 + es.length <= es.length)) (K ((w, d0, seg 0 (ts.length) ts, seg 0 (es.length) es, ()), (), (), (), [], (31 : Int), ())))) (fork (decide
 ((↑(ts.length) : Int) >= (256 : Int))) (req (decide (0 + ts.length <= ts.length)) (req (decide (0 + es.length <= es.length)) (K ((w, d0, seg 0 (ts.length) ts, seg 0 (es.length) es, ()), (), (), (), [], (6 : Int), ())))) (req
 (decide ((0 : Int) <= i /\ i < (↑(ts.length) : Int))) (req (decide (Int.toNat i < ts.length)) (req (decide ((0 : Int) <= i /\ i < (↑(ts.length) : Int))) (req (decide (Int.toNat i < ts.length)) (∀ (ys : List (Ty.den T6)), ys =
 List.set ts (Int.toNat i) ((List.getD ts (Int.toNat i) (0, [], 0, [], 0, 0)).1, (List.getD ts (Int.toNat i) (0, [], 0, [], 0, 0)).2.1, (3 : Int), (List.getD ts (Int.toNat i) (0, [], 0, [], 0, 0)).2.2.2.1, (0 : Int),
 (List.getD ts (Int.toNat i) (0, [], 0, [], 0, 0)).2.2.2.2.2) -> req (decide ((0 : Int) <= i /\ i < (↑(ts.length) : Int))) (req (decide (Int.toNat i < ys.length)) (req (inR IntKind.i64 (i + 1)) (req (inR IntKind.i64
 ((↑(ts.length) : Int) + 1)) (g.length <= 100 /\ ∀ (r : List Int), r = g -> AV.sl 1 6 0 (ts.length) none = AV.sl 1 6 0 (ts.length) none /\ AV.sl 1 6 0 (ts.length) none = AV.sl 1 6 0 (ts.length) none /\ req (decide (0 +
 ts.length <= ys.length)) (req (fitsN (ts.length + 1) 72) (∀ (ys_1 : List (Ty.den (Ty.pr (Ty.i IntKind.i64) (Ty.pr Ty.s (Ty.pr (Ty.i IntKind.i64) (Ty.pr (Ty.sl (Ty.i IntKind.i64)) (Ty.pr (Ty.i IntKind.i64) (Ty.i
 IntKind.i64)))))))), ys_1 = seg 0 (ts.length) ys ++ [((↑(ts.length) : Int) + 1, (List.getD ys (Int.toNat i) (0, [], 0, [], 0, 0)).2.1, (1 : Int), r, (0 : Int), i + 1)] -> ((0 : AT.den (AT.v I)) <= (↑(ts.length) : Int) + 1 /\
 (↑(ts.length) : Int) + 1 <= (99999999 : AT.den (AT.v I))) /\ ∀ (s : Tx), s = codeS ((↑(ts.length) : Int) + 1) -> req (inR IntKind.i64 (i + 1)) (AV.sl 2 5 0 (es.length) none = AV.sl 2 5 0 (es.length) none /\ req (decide (0 +
 es.length <= es.length)) (req (fitsN (es.length + 1) 40) (∀ (ys : List (Ty.den (Ty.pr (Ty.i IntKind.i64) (Ty.pr (Ty.i IntKind.i64) (Ty.pr (Ty.i IntKind.i64) (Ty.pr (Ty.i IntKind.i64) (Ty.i IntKind.i64))))))), ys = seg 0
 (es.length) es ++ [((4 : Int), d, i + 1, (↑(ts.length + 1) : Int), (1 : Int))] -> req (decide (0 + (ts.length + 1) <= ys_1.length)) (req (decide (0 + (es.length + 1) <= ys.length)) (K ((w, d, seg 0 (ts.length + 1) ys_1, seg
 0 (es.length + 1) ys, ()), (), (), (), s, (0 : Int), ()))))))))))))))))))))))))))) := by kernel_rfl
abbrev fcRD : FC2 := ⟨A [.box 0 (refC 1 2), .v .s, .v L, .v I], 3, A [.box 0 (refC 3 4), .any, .any, .any, .v .s, .v I], 5, fun ((w, d0, ts, es, _), c, h, d, _) K => (okR (w, d0, ts, es) /\ roomy es) /\
 ∀ (w1 d1 : Int) (ts1 : List Tk) (es1 : List Ev) (x : Tx) (e : Int), ((w1, d1, ts1, es1), x, e) = redeemI (w, d0, ts, es) c h d -> K ((w1, d1, ts1, es1, ()), (), (), (), x, e, ())⟩
theorem v74F (w d0 d : Int) (ts : List Tk) (es : List Ev) (c : Tx) (h : List Int) (K : fcRD.post.den -> Prop) : (xfn2 Tryd.prog TR 6 74 fcRD ((w, d0, ts, es, ()), c, h, d, ()) K) =
 (req (decide (ts.length = ts.length)) (req (decide (es.length = es.length)) (okR (w, d0, ts, es) /\ ∀ (i e : Int), e = bringE (w, d0, ts, es) c d -> (e = (0 : Int) -> i = (numberI c).1 - 1) -> fork (e != (0 : Int)) (fork (e
 != (0 : Int)) (req (decide (0 + ts.length <= ts.length)) (req (decide (0 + es.length <= es.length)) (K ((w, d0, seg 0 (ts.length) ts, seg 0 (es.length) es, ()), (), (), (), [], e, ())))) (req (decide ((0 : Int) <= (0 : Int)
 /\ (0 : Int) < (↑(ts.length) : Int))) (req (decide (0 < ts.length)) (req (decide ((0 : Int) <= (0 : Int) /\ (0 : Int) < (↑(ts.length) : Int))) (req (decide (0 < ts.length)) (∀ (ys : List (Ty.den T6)), ys = List.set ts 0
 ((List.getD ts 0 (0, [], 0, [], 0, 0)).1, (List.getD ts 0 (0, [], 0, [], 0, 0)).2.1, (4 : Int), (List.getD ts 0 (0, [], 0, [], 0, 0)).2.2.2.1, (0 : Int), (List.getD ts 0 (0, [], 0, [], 0, 0)).2.2.2.2.2) -> AV.sl 2 5 0
 (es.length) none = AV.sl 2 5 0 (es.length) none /\ req (decide (0 + es.length <= es.length)) (req (fitsN (es.length + 1) 40) (∀ (ys_1 : List (Ty.den (Ty.pr (Ty.i IntKind.i64) (Ty.pr (Ty.i IntKind.i64) (Ty.pr (Ty.i
 IntKind.i64) (Ty.pr (Ty.i IntKind.i64) (Ty.i IntKind.i64))))))), ys_1 = seg 0 (es.length) es ++ [((6 : Int), d, (1 : Int), (0 : Int), (0 : Int))] -> req (decide ((0 : Int) <= (0 : Int) /\ (0 : Int) < (↑(ts.length) : Int)))
 (req (decide (0 < ys.length)) (req (decide (0 + ts.length <= ys.length)) (req (decide (0 + (es.length + 1) <= ys_1.length)) (K ((w, d, seg 0 (ts.length) ys, seg 0 (es.length + 1) ys_1, ()), (), (), (), (List.getD ys 0 (0,
 [], 0, [], 0, 0)).2.1, (0 : Int), ()))))))))))))) (req (decide ((0 : Int) <= i /\ i < (↑(ts.length) : Int))) (req (decide (Int.toNat i < ts.length)) (fork ((List.getD ts (Int.toNat i) (0, [], 0, [], 0, 0)).2.2.1 == (2 :
 Int)) (req (decide (0 + ts.length <= ts.length)) (req (decide (0 + es.length <= es.length)) (K ((w, d0, seg 0 (ts.length) ts, seg 0 (es.length) es, ()), (), (), (), [], (36 : Int), ())))) (req (decide ((0 : Int) <= i /\ i <
 (↑(ts.length) : Int))) (req (decide (Int.toNat i < ts.length)) (∀ (n e : Int), (n, e) = fitE ((List.getD ts (Int.toNat i) (0, [], 0, [], 0, 0)).2.2.2.1) h -> fork (e != (0 : Int)) (req (decide (0 + ts.length <= ts.length))
 (req (decide (0 + es.length <= es.length)) (K ((w, d0, seg 0 (ts.length) ts, seg 0 (es.length) es, ()), (), (), (), [], e, ())))) (req (decide ((0 : Int) <= i /\ i < (↑(ts.length) : Int))) (req (decide (Int.toNat i <
 ts.length)) (req (decide ((0 : Int) <= i /\ i < (↑(ts.length) : Int))) (req (decide (Int.toNat i < ts.length)) (∀ (ys : List (Ty.den T6)), ys = List.set ts (Int.toNat i) ((List.getD ts (Int.toNat i) (0, [], 0, [], 0, 0)).1,
 (List.getD ts (Int.toNat i) (0, [], 0, [], 0, 0)).2.1, (4 : Int), (List.getD ts (Int.toNat i) (0, [], 0, [], 0, 0)).2.2.2.1, (0 : Int), (List.getD ts (Int.toNat i) (0, [], 0, [], 0, 0)).2.2.2.2.2) -> req (inR IntKind.i64
 (i + 1)) (AV.sl 2 5 0 (es.length) none = AV.sl 2 5 0 (es.length) none /\ req (decide (0 + es.length <= es.length)) (req (fitsN (es.length + 1) 40) (∀ (ys_1 : List (Ty.den (Ty.pr (Ty.i IntKind.i64) (Ty.pr (Ty.i IntKind.i64)
 (Ty.pr (Ty.i IntKind.i64) (Ty.pr (Ty.i IntKind.i64) (Ty.i IntKind.i64))))))), ys_1 = seg 0 (es.length) es ++ [((6 : Int), d, i + 1, (0 : Int), (0 : Int))] -> req (decide ((0 : Int) <= i /\ i < (↑(ts.length) : Int))) (req
 (decide (Int.toNat i < ys.length)) (req (decide (0 + ts.length <= ys.length)) (req (decide (0 + (es.length + 1) <= ys_1.length)) (K ((w, d, seg 0 (ts.length) ys, seg 0 (es.length + 1) ys_1, ()), (), (), (), (List.getD ys
 (Int.toNat i) (0, [], 0, [], 0, 0)).2.1, (0 : Int), ())))))))))))))))))))))) := by kernel_rfl
abbrev fcRG : FC2 := ⟨A [.box 0 (refC 1 2), .v .s, .v I], 3, A [.box 0 (refC 3 4), .any, .any, .v .s, .v I], 5, fun ((w, d0, ts, es, _), c, d, _) K => (okR (w, d0, ts, es) /\ roomy es) /\
 ∀ (w1 d1 : Int) (ts1 : List Tk) (es1 : List Ev) (x : Tx) (e : Int), ((w1, d1, ts1, es1), x, e) = forfeitI (w, d0, ts, es) c d -> K ((w1, d1, ts1, es1, ()), (), (), x, e, ())⟩
theorem v75F (w d0 d : Int) (ts : List Tk) (es : List Ev) (c : Tx) (K : fcRG.post.den -> Prop) : (xfn2 Tryd.prog TR 6 75 fcRG ((w, d0, ts, es, ()), c, d, ()) K) =
 (req (decide (ts.length = ts.length)) (req (decide (es.length = es.length)) (okR (w, d0, ts, es) /\ ∀ (i e : Int), e = bringE (w, d0, ts, es) c d -> (e = (0 : Int) -> i = (numberI c).1 - 1) -> fork (e != (0 : Int)) (req
 (decide (0 + ts.length <= ts.length)) (req (decide (0 + es.length <= es.length)) (K ((w, d0, seg 0 (ts.length) ts, seg 0 (es.length) es, ()), (), (), [], e, ())))) (req (decide ((0 : Int) <= i /\ i < (↑(ts.length) : Int)))
 (req (decide (Int.toNat i < ts.length)) (fork ((List.getD ts (Int.toNat i) (0, [], 0, [], 0, 0)).2.2.1 == (2 : Int)) (req (decide (0 + ts.length <= ts.length)) (req (decide (0 + es.length <= es.length)) (K ((w, d0, seg 0
 (ts.length) ts, seg 0 (es.length) es, ()), (), (), [], (36 : Int), ())))) (req (decide ((0 : Int) <= i /\ i < (↑(ts.length) : Int))) (req (decide (Int.toNat i < ts.length)) (req (decide ((0 : Int) <= i /\ i < (↑(ts.length) :
 Int))) (req (decide (Int.toNat i < ts.length)) (∀ (ys : List (Ty.den T6)), ys = List.set ts (Int.toNat i) ((List.getD ts (Int.toNat i) (0, [], 0, [], 0, 0)).1, (List.getD ts (Int.toNat i) (0, [], 0, [], 0, 0)).2.1, (5 :
 Int), (List.getD ts (Int.toNat i) (0, [], 0, [], 0, 0)).2.2.2.1, (0 : Int), (List.getD ts (Int.toNat i) (0, [], 0, [], 0, 0)).2.2.2.2.2) -> req (inR IntKind.i64 (i + 1)) (AV.sl 2 5 0 (es.length) none = AV.sl 2 5 0
 (es.length) none /\ req (decide (0 + es.length <= es.length)) (req (fitsN (es.length + 1) 40) (∀ (ys_1 : List (Ty.den (Ty.pr (Ty.i IntKind.i64) (Ty.pr (Ty.i IntKind.i64) (Ty.pr (Ty.i IntKind.i64) (Ty.pr (Ty.i IntKind.i64)
 (Ty.i IntKind.i64))))))), ys_1 = seg 0 (es.length) es ++ [((7 : Int), d, i + 1, (0 : Int), (0 : Int))] -> req (decide ((0 : Int) <= i /\ i < (↑(ts.length) : Int))) (req (decide (Int.toNat i < ys.length)) (req (decide (0 +
 ts.length <= ys.length)) (req (decide (0 + (es.length + 1) <= ys_1.length)) (K ((w, d, seg 0 (ts.length) ys, seg 0 (es.length + 1) ys_1, ()), (), (), (List.getD ys (Int.toNat i) (0, [], 0, [], 0, 0)).2.1, (0 : Int),
 ()))))))))))))))))))) := by kernel_rfl
end Go.P3
