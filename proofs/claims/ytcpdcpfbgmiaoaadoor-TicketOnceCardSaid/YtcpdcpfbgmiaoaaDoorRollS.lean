/- Rolls: a call of a roll: states and what is to be shown, reduced. No conditions. -/
import Derived.Test.YtcpdcpfbgmiaoaaDoorRollL
set_option linter.unusedSimpArgs false
set_option linter.unusedVariables false
set_option linter.constructorNameAsVariable false
set_option maxRecDepth 100000
set_option maxHeartbeats 2000000
namespace Go.P3
open Go.Lom Go.Proofs Go

abbrev rollC (i j : Nat) : SV := A [.v I, .v I, .own i T6, .own j E5, .v .b]
abbrev clC (k : Nat) : SV := A [.v .s, .v L, .v LT, .v LL, .v I, .own k .s, .v .s]
abbrev preDo : SV := A [.box 0 (rollC 1 2), .v I, .box 3 (clC 4)]
abbrev postDo : SV := A [.box 0 (rollC 5 6), .any, .box 3 (clC 7), .v I]
abbrev fcNumX : FC := ⟨[.v .s], [I, I], fun x K => ∀ r e : Int, (r, e) = numberI x.1 → K (r, e, ())⟩
abbrev fcCodeX : FC := ⟨[.v I], [.s], fun x K => (0 ≤ x.1 ∧ x.1 ≤ 99999999) ∧ ∀ s : Tx, s = codeS x.1 → K (s, ())⟩
abbrev fcFitX : FC := ⟨[.v L, .v L], [I, .b], fun x K => x.1.length ≤ 9223372036854775807 ∧ ∀ n : Int, K (n, (fitI x.1 x.2.1).2, ())⟩
abbrev TB : Tb := { nm := true, f := [(16, fcNumX), (49, fcWith), (133, fcWord), (138, fcHad), (57, fcEdge 0), (58, fcEdge (-1)), (59, fcFitX), (64, fcId), (50, fcCodeX)], f2 := [(107, fcClT)] }
/-- What a call of a roll needs. -/
structure preD (w d0 : Int) (ts : List Tk) (es : List Ev) (rdy : Bool) (k : Int) (h : List Int) (ps : List Tx) (eds : List (List Int)) (cs : List Tx) (pl : Tx) : Prop where
  roll : okR (w, d0, ts, es)
  ready : rdy = true
  room : fitsN (es.length + 1) 40 = true
  code : cs = []
  pledge : pl = []
  names : ps.length ≤ big ∧ ∀ p ∈ ps, p.length ≤ big
  edges : eds.length ≤ big
  kind : 1 ≤ k ∧ k ≤ 7
  one : k = 1 → 1 ≤ ps.length
  two : (k = 1 ∨ k = 4) → 1 ≤ eds.length
abbrev fcDo : FC2 := ⟨preDo, 5, postDo, 8, fun ((w, d0, ts, es, rdy, _), k, (c, h, ps, eds, d, cs, pl, _), _) K => preD w d0 ts es rdy k h ps eds cs pl ∧
  ∀ (w1 d1 : Int) (ts1 : List Tk) (es1 : List Ev) (c1 : Tx) (h1 : List Int) (ps1 : List Tx) (eds1 : List (List Int)) (dd1 : Int) (cs1 : List Tx) (pl1 : Tx) (e : Int), ((w1, d1, ts1, es1), cs1, pl1, e) = doC k (w, d0, ts, es) c h ps eds d →
    K ((w1, d1, ts1, es1, true, ()), (), (c1, h1, ps1, eds1, dd1, cs1, pl1, ()), e, ())⟩
theorem v86_1 (wt dy d : Int) (ts : List Tk) (es : List Ev) (c : Tx) (h : List Int) (ps : List Tx) (eds : List (List Int)) (K : postDo.den → Prop) : (xfn2 Tryd.prog TB 8 86 fcDo ((wt, dy, ts, es, true, ()), 1, (c, h, ps, eds, d, [], [], ()), ()) K) =
  (req (decide ((0 : Int) ≤ (0 : Int) ∧ (0 : Int) ≤ (↑(es.length) : Int) ∧ (↑(es.length) : Int) ≤ (↑(es.length) : Int) ∧ (↑(es.length) : Int) ≤ (↑(es.length) : Int))) (req (decide (ts.length = ts.length)) (ts.length ≤ 1000
 ∧ fork (decide ((0 : Int) ≤ d ∧ d ≤ (36500 : Int))) (fork (!decide (d ≥ dy)) (req (decide (0 + ts.length ≤ ts.length)) (req (decide (0 + es.length ≤ es.length)) (K ((wt, dy, seg 0 (ts.length) ts, seg 0 (es.length) es,
 true, ()), (), ([], [], [], [], (0 : Int), [], [], ()), (34 : Int), ())))) (req (decide ((0 : Int) ≤ (0 : Int) ∧ (0 : Int) < (↑(ps.length) : Int))) (List.length (List.getD ps 0 []) ≤ 9223372036854775807 ∧ fork (wordB
 (List.getD ps 0 [])) (req (decide ((0 : Int) ≤ (0 : Int) ∧ (0 : Int) < (↑(ps.length) : Int))) (req (decide (0 + ts.length ≤ ts.length)) (List.length (seg 0 (ts.length) ts) ≤ 9223372036854775807 ∧ fork (!!List.any (seg 0
 (ts.length) ts) (named (List.getD ps 0 []))) (req (decide (0 + ts.length ≤ ts.length)) (req (decide (0 + es.length ≤ es.length)) (K ((wt, dy, seg 0 (ts.length) ts, seg 0 (es.length) es, true, ()), (), ([], [], [], [], (0
 : Int), [], [], ()), (33 : Int), ())))) (req (decide ((0 : Int) ≤ (0 : Int) ∧ (0 : Int) < (↑(eds.length) : Int))) (fork (!inB (0 : Int) (List.getD eds 0 [])) (req (decide (0 + ts.length ≤ ts.length)) (req (decide (0 +
 es.length ≤ es.length)) (K ((wt, dy, seg 0 (ts.length) ts, seg 0 (es.length) es, true, ()), (), ([], [], [], [], (0 : Int), [], [], ()), (31 : Int), ())))) (req (inR IntKind.i64 ((↑(ts.length) : Int) + 1)) (fork (!decide
 ((↑(ts.length) : Int) + 1 ≤ (256 : Int))) (req (decide (0 + ts.length ≤ ts.length)) (req (decide (0 + es.length ≤ es.length)) (K ((wt, dy, seg 0 (ts.length) ts, seg 0 (es.length) es, true, ()), (), ([], [], [], [], (0 :
 Int), [], [], ()), (6 : Int), ())))) (req (decide ((0 : Int) ≤ (0 : Int) ∧ (0 : Int) < (↑(ps.length) : Int))) (req (decide ((0 : Int) ≤ (0 : Int) ∧ (0 : Int) < (↑(eds.length) : Int))) (req (inR IntKind.i64 ((↑(ts.length)
 : Int) + 1)) (List.length (List.getD eds 0 []) ≤ 100 ∧ ∀ (r : List Int), r = List.getD eds 0 [] → AV.sl 10 6 0 (ts.length) none = AV.sl 10 6 0 (ts.length) none ∧ AV.sl 10 6 0 (ts.length) none = AV.sl 10 6 0 (ts.length)
 none ∧ req (decide (0 + ts.length ≤ ts.length)) (req (fitsN (ts.length + 1) 72) (∀ (ys : List (Ty.den (Ty.pr (Ty.i IntKind.i64) (Ty.pr Ty.s (Ty.pr (Ty.i IntKind.i64) (Ty.pr (Ty.sl (Ty.i IntKind.i64)) (Ty.pr (Ty.i
 IntKind.i64) (Ty.i IntKind.i64)))))))), ys = seg 0 (ts.length) ts ++ [((↑(ts.length) : Int) + 1, List.getD ps 0 [], (1 : Int), r, (0 : Int), (0 : Int))] → ((0 : AT.den (AT.v I)) ≤ (↑(ts.length) : Int) + 1 ∧ (↑(ts.length)
 : Int) + 1 ≤ (99999999 : AT.den (AT.v I))) ∧ ∀ (s : Tx), s = codeS ((↑(ts.length) : Int) + 1) → AV.sl 4 1 0 0 none = AV.sl 4 1 0 0 none ∧ AV.sl 4 1 0 0 none = AV.sl 4 1 0 0 none ∧ ∀ (ys_1 : List (Ty.den Ty.s)), ys_1 = []
 ++ [s] → req (inR IntKind.i64 ((↑(ts.length + 1) : Int) - (↑(ts.length) : Int))) (fork (decide ((↑(ts.length + 1) : Int) - (↑(ts.length) : Int) > (0 : Int))) (req (decide (0 + es.length ≤ es.length)) (req (fitsN
 (es.length + 1) 40) (∀ (ys_2 : List (Ty.den (Ty.pr (Ty.i IntKind.i64) (Ty.pr (Ty.i IntKind.i64) (Ty.pr (Ty.i IntKind.i64) (Ty.pr (Ty.i IntKind.i64) (Ty.i IntKind.i64))))))), ys_2 = seg 0 (es.length) es ++ [((1 : SV.den
 (SV.v I)), d, (0 : Int), (↑(ts.length + 1) : Int), (↑(ts.length + 1) : Int) - (↑(ts.length) : Int))] → req (decide (0 + (ts.length + 1) ≤ ys.length)) (req (decide (0 + (es.length + 1) ≤ ys_2.length)) (req (decide (1 ≤
 ys_1.length)) (K ((wt, d, seg 0 (ts.length + 1) ys, seg 0 (es.length + 1) ys_2, true, ()), (), (c, h, ps, eds, d, seg 0 1 ys_1, [], ()), (0 : Int), ()))))))) (req (decide (0 + es.length ≤ es.length)) (req (fitsN
 (es.length + 1) 40) (∀ (ys_2 : List (Ty.den (Ty.pr (Ty.i IntKind.i64) (Ty.pr (Ty.i IntKind.i64) (Ty.pr (Ty.i IntKind.i64) (Ty.pr (Ty.i IntKind.i64) (Ty.i IntKind.i64))))))), ys_2 = seg 0 (es.length) es ++ [((1 : SV.den
 (SV.v I)), d, (0 : Int), (0 : Int), (0 : Int))] → req (decide (0 + (ts.length + 1) ≤ ys.length)) (req (decide (0 + (es.length + 1) ≤ ys_2.length)) (req (decide (1 ≤ ys_1.length)) (K ((wt, d, seg 0 (ts.length + 1) ys, seg
 0 (es.length + 1) ys_2, true, ()), (), (c, h, ps, eds, d, seg 0 1 ys_1, [], ()), (0 : Int), ()))))))))))))))))))))) (req (decide (0 + ts.length ≤ ts.length)) (req (decide (0 + es.length ≤ es.length)) (K ((wt, dy, seg 0
 (ts.length) ts, seg 0 (es.length) es, true, ()), (), ([], [], [], [], (0 : Int), [], [], ()), (33 : Int), ()))))))) (req (decide (0 + ts.length ≤ ts.length)) (req (decide (0 + es.length ≤ es.length)) (K ((wt, dy, seg 0
 (ts.length) ts, seg 0 (es.length) es, true, ()), (), ([], [], [], [], (0 : Int), [], [], ()), (34 : Int), ()))))))) := by kernel_rfl
theorem v86_2 (wt dy d : Int) (ts : List Tk) (es : List Ev) (c : Tx) (h : List Int) (ps : List Tx) (eds : List (List Int)) (K : postDo.den → Prop) : (xfn2 Tryd.prog TB 8 86 fcDo ((wt, dy, ts, es, true, ()), 2, (c, h, ps, eds, d, [], [], ()), ()) K) =
  (req (decide ((0 : Int) ≤ (0 : Int) ∧ (0 : Int) ≤ (↑(es.length) : Int) ∧ (↑(es.length) : Int) ≤ (↑(es.length) : Int) ∧ (↑(es.length) : Int) ≤ (↑(es.length) : Int))) (req (decide (ts.length = ts.length)) (ts.length ≤ 1000
 ∧ fork (decide ((0 : Int) ≤ d ∧ d ≤ (36500 : Int))) (fork (!decide (d ≥ dy)) (req (decide (0 + ts.length ≤ ts.length)) (req (decide (0 + es.length ≤ es.length)) (K ((wt, dy, seg 0 (ts.length) ts, seg 0 (es.length) es,
 true, ()), (), ([], [], [], [], (0 : Int), [], [], ()), (34 : Int), ())))) (∀ (r e : Int), (r, e) = numberI c → fork (!e == (0 : Int)) (req (decide (0 + ts.length ≤ ts.length)) (req (decide (0 + es.length ≤ es.length)) (K
 ((wt, dy, seg 0 (ts.length) ts, seg 0 (es.length) es, true, ()), (), ([], [], [], [], (0 : Int), [], [], ()), e, ())))) (fork (!decide (r ≤ (↑(ts.length) : Int))) (req (decide (0 + ts.length ≤ ts.length)) (req (decide (0
 + es.length ≤ es.length)) (K ((wt, dy, seg 0 (ts.length) ts, seg 0 (es.length) es, true, ()), (), ([], [], [], [], (0 : Int), [], [], ()), (4 : Int), ())))) (req (inR IntKind.i64 (r - 1)) (req (decide ((0 : Int) ≤ r - 1 ∧
 r - 1 < (↑(ts.length) : Int))) (req (decide (Int.toNat (r - 1) < ts.length)) (fork ((((List.getD ts (Int.toNat (r - 1)) (0, [], 0, [], 0, 0)).2).2).1 == (1 : Int)) (req (decide (Int.toNat (r - 1) < ts.length)) (fork
 (!(((List.getD ts (Int.toNat (r - 1)) (0, [], 0, [], 0, 0)).2).2).1 != (2 : Int)) (req (decide (0 + ts.length ≤ ts.length)) (req (decide (0 + es.length ≤ es.length)) (K ((wt, dy, seg 0 (ts.length) ts, seg 0 (es.length)
 es, true, ()), (), ([], [], [], [], (0 : Int), [], [], ()), (36 : Int), ())))) (req (decide (Int.toNat (r - 1) < ts.length)) (∀ (ys : List (Ty.den T6)), ys = List.set ts (Int.toNat (r - 1)) ((List.getD ts (Int.toNat (r -
 1)) (0, [], 0, [], 0, 0)).1, ((List.getD ts (Int.toNat (r - 1)) (0, [], 0, [], 0, 0)).2).1, (2 : Int), (((List.getD ts (Int.toNat (r - 1)) (0, [], 0, [], 0, 0)).2).2).2) → req (decide (Int.toNat (r - 1) < ys.length)) (∀
 (ys_1 : List (Ty.den T6)), ys_1 = List.set ys (Int.toNat (r - 1)) ((List.getD ys (Int.toNat (r - 1)) (0, [], 0, [], 0, 0)).1, ((List.getD ys (Int.toNat (r - 1)) (0, [], 0, [], 0, 0)).2).1, (((List.getD ys (Int.toNat (r -
 1)) (0, [], 0, [], 0, 0)).2).2).1, ((((List.getD ys (Int.toNat (r - 1)) (0, [], 0, [], 0, 0)).2).2).2).1, d, (((((List.getD ys (Int.toNat (r - 1)) (0, [], 0, [], 0, 0)).2).2).2).2).2) → req (inR IntKind.i64 ((↑(ts.length)
 : Int) - (↑(ts.length) : Int))) (fork (decide ((↑(ts.length) : Int) - (↑(ts.length) : Int) > (0 : Int))) (req (decide (0 + es.length ≤ es.length)) (req (fitsN (es.length + 1) 40) (∀ (ys : List (Ty.den (Ty.pr (Ty.i
 IntKind.i64) (Ty.pr (Ty.i IntKind.i64) (Ty.pr (Ty.i IntKind.i64) (Ty.pr (Ty.i IntKind.i64) (Ty.i IntKind.i64))))))), ys = seg 0 (es.length) es ++ [((2 : SV.den (SV.v I)), d, r, (↑(ts.length) : Int), (↑(ts.length) : Int) -
 (↑(ts.length) : Int))] → req (decide (0 + ts.length ≤ ys_1.length)) (req (decide (0 + (es.length + 1) ≤ ys.length)) (K ((wt, d, seg 0 (ts.length) ys_1, seg 0 (es.length + 1) ys, true, ()), (), (c, h, ps, eds, d, [], [],
 ()), (0 : Int), ())))))) (req (decide (0 + es.length ≤ es.length)) (req (fitsN (es.length + 1) 40) (∀ (ys : List (Ty.den (Ty.pr (Ty.i IntKind.i64) (Ty.pr (Ty.i IntKind.i64) (Ty.pr (Ty.i IntKind.i64) (Ty.pr (Ty.i
 IntKind.i64) (Ty.i IntKind.i64))))))), ys = seg 0 (es.length) es ++ [((2 : SV.den (SV.v I)), d, r, (0 : Int), (0 : Int))] → req (decide (0 + ts.length ≤ ys_1.length)) (req (decide (0 + (es.length + 1) ≤ ys.length)) (K
 ((wt, d, seg 0 (ts.length) ys_1, seg 0 (es.length + 1) ys, true, ()), (), (c, h, ps, eds, d, [], [], ()), (0 : Int), ())))))))))))) (req (decide (Int.toNat (r - 1) < ts.length)) (fork (!(((List.getD ts (Int.toNat (r - 1))
 (0, [], 0, [], 0, 0)).2).2).1 == (2 : Int)) (req (decide (0 + ts.length ≤ ts.length)) (req (decide (0 + es.length ≤ es.length)) (K ((wt, dy, seg 0 (ts.length) ts, seg 0 (es.length) es, true, ()), (), ([], [], [], [], (0 :
 Int), [], [], ()), (35 : Int), ())))) (req (decide (Int.toNat (r - 1) < ts.length)) (fork (!(((List.getD ts (Int.toNat (r - 1)) (0, [], 0, [], 0, 0)).2).2).1 != (2 : Int)) (req (decide (0 + ts.length ≤ ts.length)) (req
 (decide (0 + es.length ≤ es.length)) (K ((wt, dy, seg 0 (ts.length) ts, seg 0 (es.length) es, true, ()), (), ([], [], [], [], (0 : Int), [], [], ()), (36 : Int), ())))) (req (decide (Int.toNat (r - 1) < ts.length)) (∀ (ys
 : List (Ty.den T6)), ys = List.set ts (Int.toNat (r - 1)) ((List.getD ts (Int.toNat (r - 1)) (0, [], 0, [], 0, 0)).1, ((List.getD ts (Int.toNat (r - 1)) (0, [], 0, [], 0, 0)).2).1, (2 : Int), (((List.getD ts (Int.toNat (r
 - 1)) (0, [], 0, [], 0, 0)).2).2).2) → req (decide (Int.toNat (r - 1) < ys.length)) (∀ (ys_1 : List (Ty.den T6)), ys_1 = List.set ys (Int.toNat (r - 1)) ((List.getD ys (Int.toNat (r - 1)) (0, [], 0, [], 0, 0)).1,
 ((List.getD ys (Int.toNat (r - 1)) (0, [], 0, [], 0, 0)).2).1, (((List.getD ys (Int.toNat (r - 1)) (0, [], 0, [], 0, 0)).2).2).1, ((((List.getD ys (Int.toNat (r - 1)) (0, [], 0, [], 0, 0)).2).2).2).1, d, (((((List.getD ys
 (Int.toNat (r - 1)) (0, [], 0, [], 0, 0)).2).2).2).2).2) → req (inR IntKind.i64 ((↑(ts.length) : Int) - (↑(ts.length) : Int))) (fork (decide ((↑(ts.length) : Int) - (↑(ts.length) : Int) > (0 : Int))) (req (decide (0 +
 es.length ≤ es.length)) (req (fitsN (es.length + 1) 40) (∀ (ys : List (Ty.den (Ty.pr (Ty.i IntKind.i64) (Ty.pr (Ty.i IntKind.i64) (Ty.pr (Ty.i IntKind.i64) (Ty.pr (Ty.i IntKind.i64) (Ty.i IntKind.i64))))))), ys = seg 0
 (es.length) es ++ [((2 : SV.den (SV.v I)), d, r, (↑(ts.length) : Int), (↑(ts.length) : Int) - (↑(ts.length) : Int))] → req (decide (0 + ts.length ≤ ys_1.length)) (req (decide (0 + (es.length + 1) ≤ ys.length)) (K ((wt, d,
 seg 0 (ts.length) ys_1, seg 0 (es.length + 1) ys, true, ()), (), (c, h, ps, eds, d, [], [], ()), (0 : Int), ())))))) (req (decide (0 + es.length ≤ es.length)) (req (fitsN (es.length + 1) 40) (∀ (ys : List (Ty.den (Ty.pr
 (Ty.i IntKind.i64) (Ty.pr (Ty.i IntKind.i64) (Ty.pr (Ty.i IntKind.i64) (Ty.pr (Ty.i IntKind.i64) (Ty.i IntKind.i64))))))), ys = seg 0 (es.length) es ++ [((2 : SV.den (SV.v I)), d, r, (0 : Int), (0 : Int))] → req (decide
 (0 + ts.length ≤ ys_1.length)) (req (decide (0 + (es.length + 1) ≤ ys.length)) (K ((wt, d, seg 0 (ts.length) ys_1, seg 0 (es.length + 1) ys, true, ()), (), (c, h, ps, eds, d, [], [], ()), (0 : Int),
 ()))))))))))))))))))))) (req (decide (0 + ts.length ≤ ts.length)) (req (decide (0 + es.length ≤ es.length)) (K ((wt, dy, seg 0 (ts.length) ts, seg 0 (es.length) es, true, ()), (), ([], [], [], [], (0 : Int), [], [], ()),
 (34 : Int), ()))))))) := by kernel_rfl
theorem v86_3 (wt dy d : Int) (ts : List Tk) (es : List Ev) (c : Tx) (h : List Int) (ps : List Tx) (eds : List (List Int)) (K : postDo.den → Prop) : (xfn2 Tryd.prog TB 8 86 fcDo ((wt, dy, ts, es, true, ()), 3, (c, h, ps, eds, d, [], [], ()), ()) K) =
  (req (decide ((0 : Int) ≤ (0 : Int) ∧ (0 : Int) ≤ (↑(es.length) : Int) ∧ (↑(es.length) : Int) ≤ (↑(es.length) : Int) ∧ (↑(es.length) : Int) ≤ (↑(es.length) : Int))) (req (decide (ts.length = ts.length)) (ts.length ≤ 1000
 ∧ fork (decide ((0 : Int) ≤ d ∧ d ≤ (36500 : Int))) (fork (!decide (d ≥ dy)) (req (decide (0 + ts.length ≤ ts.length)) (req (decide (0 + es.length ≤ es.length)) (K ((wt, dy, seg 0 (ts.length) ts, seg 0 (es.length) es,
 true, ()), (), ([], [], [], [], (0 : Int), [], [], ()), (34 : Int), ())))) (∀ (r e : Int), (r, e) = numberI c → fork (!e == (0 : Int)) (req (decide (0 + ts.length ≤ ts.length)) (req (decide (0 + es.length ≤ es.length)) (K
 ((wt, dy, seg 0 (ts.length) ts, seg 0 (es.length) es, true, ()), (), ([], [], [], [], (0 : Int), [], [], ()), e, ())))) (fork (!decide (r ≤ (↑(ts.length) : Int))) (req (decide (0 + ts.length ≤ ts.length)) (req (decide (0
 + es.length ≤ es.length)) (K ((wt, dy, seg 0 (ts.length) ts, seg 0 (es.length) es, true, ()), (), ([], [], [], [], (0 : Int), [], [], ()), (4 : Int), ())))) (req (inR IntKind.i64 (r - 1)) (req (decide ((0 : Int) ≤ r - 1 ∧
 r - 1 < (↑(ts.length) : Int))) (req (decide (Int.toNat (r - 1) < ts.length)) (fork ((((List.getD ts (Int.toNat (r - 1)) (0, [], 0, [], 0, 0)).2).2).1 == (1 : Int)) (req (decide (Int.toNat (r - 1) < ts.length)) (fork
 (!(((List.getD ts (Int.toNat (r - 1)) (0, [], 0, [], 0, 0)).2).2).1 == (2 : Int)) (req (decide (0 + ts.length ≤ ts.length)) (req (decide (0 + es.length ≤ es.length)) (K ((wt, dy, seg 0 (ts.length) ts, seg 0 (es.length)
 es, true, ()), (), ([], [], [], [], (0 : Int), [], [], ()), (37 : Int), ())))) (fork (!inB (-1 : Int) h) (req (decide (0 + ts.length ≤ ts.length)) (req (decide (0 + es.length ≤ es.length)) (K ((wt, dy, seg 0 (ts.length)
 ts, seg 0 (es.length) es, true, ()), (), ([], [], [], [], (0 : Int), [], [], ()), (31 : Int), ())))) (req (decide (Int.toNat (r - 1) < ts.length)) (List.length (((((List.getD ts (Int.toNat (r - 1)) (0, [], 0, [], 0,
 0)).2).2).2).1) ≤ 9223372036854775807 ∧ ∀ (n : Int), fork (!(fitI (((((List.getD ts (Int.toNat (r - 1)) (0, [], 0, [], 0, 0)).2).2).2).1) h).2) (req (decide (0 + ts.length ≤ ts.length)) (req (decide (0 + es.length ≤
 es.length)) (K ((wt, dy, seg 0 (ts.length) ts, seg 0 (es.length) es, true, ()), (), ([], [], [], [], (0 : Int), [], [], ()), (32 : Int), ())))) (req (decide (Int.toNat (r - 1) < ts.length)) (∀ (ys : List (Ty.den T6)), ys
 = List.set ts (Int.toNat (r - 1)) ((List.getD ts (Int.toNat (r - 1)) (0, [], 0, [], 0, 0)).1, ((List.getD ts (Int.toNat (r - 1)) (0, [], 0, [], 0, 0)).2).1, (1 : Int), (((List.getD ts (Int.toNat (r - 1)) (0, [], 0, [], 0,
 0)).2).2).2) → req (decide (Int.toNat (r - 1) < ys.length)) (∀ (ys_1 : List (Ty.den T6)), ys_1 = List.set ys (Int.toNat (r - 1)) ((List.getD ys (Int.toNat (r - 1)) (0, [], 0, [], 0, 0)).1, ((List.getD ys (Int.toNat (r -
 1)) (0, [], 0, [], 0, 0)).2).1, (((List.getD ys (Int.toNat (r - 1)) (0, [], 0, [], 0, 0)).2).2).1, ((((List.getD ys (Int.toNat (r - 1)) (0, [], 0, [], 0, 0)).2).2).2).1, (0 : Int), (((((List.getD ys (Int.toNat (r - 1))
 (0, [], 0, [], 0, 0)).2).2).2).2).2) → req (inR IntKind.i64 ((↑(ts.length) : Int) - (↑(ts.length) : Int))) (fork (decide ((↑(ts.length) : Int) - (↑(ts.length) : Int) > (0 : Int))) (req (decide (0 + es.length ≤ es.length))
 (req (fitsN (es.length + 1) 40) (∀ (ys : List (Ty.den (Ty.pr (Ty.i IntKind.i64) (Ty.pr (Ty.i IntKind.i64) (Ty.pr (Ty.i IntKind.i64) (Ty.pr (Ty.i IntKind.i64) (Ty.i IntKind.i64))))))), ys = seg 0 (es.length) es ++ [((3 :
 SV.den (SV.v I)), d, r, (↑(ts.length) : Int), (↑(ts.length) : Int) - (↑(ts.length) : Int))] → req (decide (0 + ts.length ≤ ys_1.length)) (req (decide (0 + (es.length + 1) ≤ ys.length)) (K ((wt, d, seg 0 (ts.length) ys_1,
 seg 0 (es.length + 1) ys, true, ()), (), (c, h, ps, eds, d, [], [], ()), (0 : Int), ())))))) (req (decide (0 + es.length ≤ es.length)) (req (fitsN (es.length + 1) 40) (∀ (ys : List (Ty.den (Ty.pr (Ty.i IntKind.i64) (Ty.pr
 (Ty.i IntKind.i64) (Ty.pr (Ty.i IntKind.i64) (Ty.pr (Ty.i IntKind.i64) (Ty.i IntKind.i64))))))), ys = seg 0 (es.length) es ++ [((3 : SV.den (SV.v I)), d, r, (0 : Int), (0 : Int))] → req (decide (0 + ts.length ≤
 ys_1.length)) (req (decide (0 + (es.length + 1) ≤ ys.length)) (K ((wt, d, seg 0 (ts.length) ys_1, seg 0 (es.length + 1) ys, true, ()), (), (c, h, ps, eds, d, [], [], ()), (0 : Int), ()))))))))))))))) (req (decide
 (Int.toNat (r - 1) < ts.length)) (fork (!(((List.getD ts (Int.toNat (r - 1)) (0, [], 0, [], 0, 0)).2).2).1 == (2 : Int)) (req (decide (0 + ts.length ≤ ts.length)) (req (decide (0 + es.length ≤ es.length)) (K ((wt, dy, seg
 0 (ts.length) ts, seg 0 (es.length) es, true, ()), (), ([], [], [], [], (0 : Int), [], [], ()), (35 : Int), ())))) (req (decide (Int.toNat (r - 1) < ts.length)) (fork (!(((List.getD ts (Int.toNat (r - 1)) (0, [], 0, [],
 0, 0)).2).2).1 == (2 : Int)) (req (decide (0 + ts.length ≤ ts.length)) (req (decide (0 + es.length ≤ es.length)) (K ((wt, dy, seg 0 (ts.length) ts, seg 0 (es.length) es, true, ()), (), ([], [], [], [], (0 : Int), [], [],
 ()), (37 : Int), ())))) (fork (!inB (-1 : Int) h) (req (decide (0 + ts.length ≤ ts.length)) (req (decide (0 + es.length ≤ es.length)) (K ((wt, dy, seg 0 (ts.length) ts, seg 0 (es.length) es, true, ()), (), ([], [], [],
 [], (0 : Int), [], [], ()), (31 : Int), ())))) (req (decide (Int.toNat (r - 1) < ts.length)) (List.length (((((List.getD ts (Int.toNat (r - 1)) (0, [], 0, [], 0, 0)).2).2).2).1) ≤ 9223372036854775807 ∧ ∀ (n : Int), fork
 (!(fitI (((((List.getD ts (Int.toNat (r - 1)) (0, [], 0, [], 0, 0)).2).2).2).1) h).2) (req (decide (0 + ts.length ≤ ts.length)) (req (decide (0 + es.length ≤ es.length)) (K ((wt, dy, seg 0 (ts.length) ts, seg 0
 (es.length) es, true, ()), (), ([], [], [], [], (0 : Int), [], [], ()), (32 : Int), ())))) (req (decide (Int.toNat (r - 1) < ts.length)) (∀ (ys : List (Ty.den T6)), ys = List.set ts (Int.toNat (r - 1)) ((List.getD ts
 (Int.toNat (r - 1)) (0, [], 0, [], 0, 0)).1, ((List.getD ts (Int.toNat (r - 1)) (0, [], 0, [], 0, 0)).2).1, (1 : Int), (((List.getD ts (Int.toNat (r - 1)) (0, [], 0, [], 0, 0)).2).2).2) → req (decide (Int.toNat (r - 1) <
 ys.length)) (∀ (ys_1 : List (Ty.den T6)), ys_1 = List.set ys (Int.toNat (r - 1)) ((List.getD ys (Int.toNat (r - 1)) (0, [], 0, [], 0, 0)).1, ((List.getD ys (Int.toNat (r - 1)) (0, [], 0, [], 0, 0)).2).1, (((List.getD ys
 (Int.toNat (r - 1)) (0, [], 0, [], 0, 0)).2).2).1, ((((List.getD ys (Int.toNat (r - 1)) (0, [], 0, [], 0, 0)).2).2).2).1, (0 : Int), (((((List.getD ys (Int.toNat (r - 1)) (0, [], 0, [], 0, 0)).2).2).2).2).2) → req (inR
 IntKind.i64 ((↑(ts.length) : Int) - (↑(ts.length) : Int))) (fork (decide ((↑(ts.length) : Int) - (↑(ts.length) : Int) > (0 : Int))) (req (decide (0 + es.length ≤ es.length)) (req (fitsN (es.length + 1) 40) (∀ (ys : List
 (Ty.den (Ty.pr (Ty.i IntKind.i64) (Ty.pr (Ty.i IntKind.i64) (Ty.pr (Ty.i IntKind.i64) (Ty.pr (Ty.i IntKind.i64) (Ty.i IntKind.i64))))))), ys = seg 0 (es.length) es ++ [((3 : SV.den (SV.v I)), d, r, (↑(ts.length) : Int),
 (↑(ts.length) : Int) - (↑(ts.length) : Int))] → req (decide (0 + ts.length ≤ ys_1.length)) (req (decide (0 + (es.length + 1) ≤ ys.length)) (K ((wt, d, seg 0 (ts.length) ys_1, seg 0 (es.length + 1) ys, true, ()), (), (c,
 h, ps, eds, d, [], [], ()), (0 : Int), ())))))) (req (decide (0 + es.length ≤ es.length)) (req (fitsN (es.length + 1) 40) (∀ (ys : List (Ty.den (Ty.pr (Ty.i IntKind.i64) (Ty.pr (Ty.i IntKind.i64) (Ty.pr (Ty.i IntKind.i64)
 (Ty.pr (Ty.i IntKind.i64) (Ty.i IntKind.i64))))))), ys = seg 0 (es.length) es ++ [((3 : SV.den (SV.v I)), d, r, (0 : Int), (0 : Int))] → req (decide (0 + ts.length ≤ ys_1.length)) (req (decide (0 + (es.length + 1) ≤
 ys.length)) (K ((wt, d, seg 0 (ts.length) ys_1, seg 0 (es.length + 1) ys, true, ()), (), (c, h, ps, eds, d, [], [], ()), (0 : Int), ())))))))))))))))))))))))) (req (decide (0 + ts.length ≤ ts.length)) (req (decide (0 +
 es.length ≤ es.length)) (K ((wt, dy, seg 0 (ts.length) ts, seg 0 (es.length) es, true, ()), (), ([], [], [], [], (0 : Int), [], [], ()), (34 : Int), ()))))))) := by kernel_rfl
theorem v86_4 (wt dy d : Int) (ts : List Tk) (es : List Ev) (c : Tx) (h : List Int) (ps : List Tx) (eds : List (List Int)) (K : postDo.den → Prop) : (xfn2 Tryd.prog TB 8 86 fcDo ((wt, dy, ts, es, true, ()), 4, (c, h, ps, eds, d, [], [], ()), ()) K) =
  (req (decide ((0 : Int) ≤ (0 : Int) ∧ (0 : Int) ≤ (↑(es.length) : Int) ∧ (↑(es.length) : Int) ≤ (↑(es.length) : Int) ∧ (↑(es.length) : Int) ≤ (↑(es.length) : Int))) (req (decide (ts.length = ts.length)) (ts.length ≤ 1000
 ∧ fork (decide ((0 : Int) ≤ d ∧ d ≤ (36500 : Int))) (fork (!decide (d ≥ dy)) (req (decide (0 + ts.length ≤ ts.length)) (req (decide (0 + es.length ≤ es.length)) (K ((wt, dy, seg 0 (ts.length) ts, seg 0 (es.length) es,
 true, ()), (), ([], [], [], [], (0 : Int), [], [], ()), (34 : Int), ())))) (∀ (r e : Int), (r, e) = numberI c → fork (!e == (0 : Int)) (req (decide (0 + ts.length ≤ ts.length)) (req (decide (0 + es.length ≤ es.length)) (K
 ((wt, dy, seg 0 (ts.length) ts, seg 0 (es.length) es, true, ()), (), ([], [], [], [], (0 : Int), [], [], ()), e, ())))) (fork (!decide (r ≤ (↑(ts.length) : Int))) (req (decide (0 + ts.length ≤ ts.length)) (req (decide (0
 + es.length ≤ es.length)) (K ((wt, dy, seg 0 (ts.length) ts, seg 0 (es.length) es, true, ()), (), ([], [], [], [], (0 : Int), [], [], ()), (4 : Int), ())))) (req (inR IntKind.i64 (r - 1)) (req (decide ((0 : Int) ≤ r - 1 ∧
 r - 1 < (↑(ts.length) : Int))) (req (decide (Int.toNat (r - 1) < ts.length)) (fork ((((List.getD ts (Int.toNat (r - 1)) (0, [], 0, [], 0, 0)).2).2).1 == (1 : Int)) (req (decide (Int.toNat (r - 1) < ts.length)) (fork
 ((((List.getD ts (Int.toNat (r - 1)) (0, [], 0, [], 0, 0)).2).2).1 == (2 : Int)) (req (decide (Int.toNat (r - 1) < ts.length)) (req (inR IntKind.i64 (d - (((((List.getD ts (Int.toNat (r - 1)) (0, [], 0, [], 0,
 0)).2).2).2).2).1)) (fork (!decide (d - (((((List.getD ts (Int.toNat (r - 1)) (0, [], 0, [], 0, 0)).2).2).2).2).1 ≥ wt)) (req (decide (0 + ts.length ≤ ts.length)) (req (decide (0 + es.length ≤ es.length)) (K ((wt, dy, seg
 0 (ts.length) ts, seg 0 (es.length) es, true, ()), (), ([], [], [], [], (0 : Int), [], [], ()), (37 : Int), ())))) (req (decide ((0 : Int) ≤ (0 : Int) ∧ (0 : Int) < (↑(eds.length) : Int))) (fork (!inB (0 : Int) (List.getD
 eds 0 [])) (req (decide (0 + ts.length ≤ ts.length)) (req (decide (0 + es.length ≤ es.length)) (K ((wt, dy, seg 0 (ts.length) ts, seg 0 (es.length) es, true, ()), (), ([], [], [], [], (0 : Int), [], [], ()), (31 : Int),
 ())))) (req (inR IntKind.i64 ((↑(ts.length) : Int) + 1)) (fork (!decide ((↑(ts.length) : Int) + 1 ≤ (256 : Int))) (req (decide (0 + ts.length ≤ ts.length)) (req (decide (0 + es.length ≤ es.length)) (K ((wt, dy, seg 0
 (ts.length) ts, seg 0 (es.length) es, true, ()), (), ([], [], [], [], (0 : Int), [], [], ()), (6 : Int), ())))) (req (decide (Int.toNat (r - 1) < ts.length)) (∀ (ys : List (Ty.den T6)), ys = List.set ts (Int.toNat (r -
 1)) ((List.getD ts (Int.toNat (r - 1)) (0, [], 0, [], 0, 0)).1, ((List.getD ts (Int.toNat (r - 1)) (0, [], 0, [], 0, 0)).2).1, (3 : Int), (((List.getD ts (Int.toNat (r - 1)) (0, [], 0, [], 0, 0)).2).2).2) → req (decide
 (Int.toNat (r - 1) < ys.length)) (∀ (ys_1 : List (Ty.den T6)), ys_1 = List.set ys (Int.toNat (r - 1)) ((List.getD ys (Int.toNat (r - 1)) (0, [], 0, [], 0, 0)).1, ((List.getD ys (Int.toNat (r - 1)) (0, [], 0, [], 0,
 0)).2).1, (((List.getD ys (Int.toNat (r - 1)) (0, [], 0, [], 0, 0)).2).2).1, ((((List.getD ys (Int.toNat (r - 1)) (0, [], 0, [], 0, 0)).2).2).2).1, (0 : Int), (((((List.getD ys (Int.toNat (r - 1)) (0, [], 0, [], 0,
 0)).2).2).2).2).2) → req (decide (Int.toNat (r - 1) < ys_1.length)) (req (decide ((0 : Int) ≤ (0 : Int) ∧ (0 : Int) < (↑(eds.length) : Int))) (req (decide (Int.toNat (r - 1) < ys_1.length)) (req (inR IntKind.i64
 ((↑(ts.length) : Int) + 1)) (List.length (List.getD eds 0 []) ≤ 100 ∧ ∀ (r_1 : List Int), r_1 = List.getD eds 0 [] → AV.sl 10 6 0 (ts.length) none = AV.sl 10 6 0 (ts.length) none ∧ AV.sl 10 6 0 (ts.length) none = AV.sl 10
 6 0 (ts.length) none ∧ req (decide (0 + ts.length ≤ ys_1.length)) (req (fitsN (ts.length + 1) 72) (∀ (ys : List (Ty.den (Ty.pr (Ty.i IntKind.i64) (Ty.pr Ty.s (Ty.pr (Ty.i IntKind.i64) (Ty.pr (Ty.sl (Ty.i IntKind.i64))
 (Ty.pr (Ty.i IntKind.i64) (Ty.i IntKind.i64)))))))), ys = seg 0 (ts.length) ys_1 ++ [((↑(ts.length) : Int) + 1, ((List.getD ys_1 (Int.toNat (r - 1)) (0, [], 0, [], 0, 0)).2).1, (1 : Int), r_1, (0 : Int), (List.getD ys_1
 (Int.toNat (r - 1)) (0, [], 0, [], 0, 0)).1)] → ((0 : AT.den (AT.v I)) ≤ (↑(ts.length) : Int) + 1 ∧ (↑(ts.length) : Int) + 1 ≤ (99999999 : AT.den (AT.v I))) ∧ ∀ (s : Tx), s = codeS ((↑(ts.length) : Int) + 1) → AV.sl 4 1 0
 0 none = AV.sl 4 1 0 0 none ∧ AV.sl 4 1 0 0 none = AV.sl 4 1 0 0 none ∧ ∀ (ys_2 : List (Ty.den Ty.s)), ys_2 = [] ++ [s] → req (inR IntKind.i64 ((↑(ts.length + 1) : Int) - (↑(ts.length) : Int))) (fork (decide ((↑(ts.length
 + 1) : Int) - (↑(ts.length) : Int) > (0 : Int))) (req (decide (0 + es.length ≤ es.length)) (req (fitsN (es.length + 1) 40) (∀ (ys_3 : List (Ty.den (Ty.pr (Ty.i IntKind.i64) (Ty.pr (Ty.i IntKind.i64) (Ty.pr (Ty.i
 IntKind.i64) (Ty.pr (Ty.i IntKind.i64) (Ty.i IntKind.i64))))))), ys_3 = seg 0 (es.length) es ++ [((4 : SV.den (SV.v I)), d, r, (↑(ts.length + 1) : Int), (↑(ts.length + 1) : Int) - (↑(ts.length) : Int))] → req (decide (0 +
 (ts.length + 1) ≤ ys.length)) (req (decide (0 + (es.length + 1) ≤ ys_3.length)) (req (decide (1 ≤ ys_2.length)) (K ((wt, d, seg 0 (ts.length + 1) ys, seg 0 (es.length + 1) ys_3, true, ()), (), (c, h, ps, eds, d, seg 0 1
 ys_2, [], ()), (0 : Int), ()))))))) (req (decide (0 + es.length ≤ es.length)) (req (fitsN (es.length + 1) 40) (∀ (ys_3 : List (Ty.den (Ty.pr (Ty.i IntKind.i64) (Ty.pr (Ty.i IntKind.i64) (Ty.pr (Ty.i IntKind.i64) (Ty.pr
 (Ty.i IntKind.i64) (Ty.i IntKind.i64))))))), ys_3 = seg 0 (es.length) es ++ [((4 : SV.den (SV.v I)), d, r, (0 : Int), (0 : Int))] → req (decide (0 + (ts.length + 1) ≤ ys.length)) (req (decide (0 + (es.length + 1) ≤
 ys_3.length)) (req (decide (1 ≤ ys_2.length)) (K ((wt, d, seg 0 (ts.length + 1) ys, seg 0 (es.length + 1) ys_3, true, ()), (), (c, h, ps, eds, d, seg 0 1 ys_2, [], ()), (0 : Int), ())))))))))))))))))))))))) (req (decide
 (0 + ts.length ≤ ts.length)) (req (decide (0 + es.length ≤ es.length)) (K ((wt, dy, seg 0 (ts.length) ts, seg 0 (es.length) es, true, ()), (), ([], [], [], [], (0 : Int), [], [], ()), (37 : Int), ())))))) (req (decide
 (Int.toNat (r - 1) < ts.length)) (fork (!(((List.getD ts (Int.toNat (r - 1)) (0, [], 0, [], 0, 0)).2).2).1 == (2 : Int)) (req (decide (0 + ts.length ≤ ts.length)) (req (decide (0 + es.length ≤ es.length)) (K ((wt, dy, seg
 0 (ts.length) ts, seg 0 (es.length) es, true, ()), (), ([], [], [], [], (0 : Int), [], [], ()), (35 : Int), ())))) (req (decide (Int.toNat (r - 1) < ts.length)) (fork ((((List.getD ts (Int.toNat (r - 1)) (0, [], 0, [], 0,
 0)).2).2).1 == (2 : Int)) (req (decide (Int.toNat (r - 1) < ts.length)) (req (inR IntKind.i64 (d - (((((List.getD ts (Int.toNat (r - 1)) (0, [], 0, [], 0, 0)).2).2).2).2).1)) (fork (!decide (d - (((((List.getD ts
 (Int.toNat (r - 1)) (0, [], 0, [], 0, 0)).2).2).2).2).1 ≥ wt)) (req (decide (0 + ts.length ≤ ts.length)) (req (decide (0 + es.length ≤ es.length)) (K ((wt, dy, seg 0 (ts.length) ts, seg 0 (es.length) es, true, ()), (),
 ([], [], [], [], (0 : Int), [], [], ()), (37 : Int), ())))) (req (decide ((0 : Int) ≤ (0 : Int) ∧ (0 : Int) < (↑(eds.length) : Int))) (fork (!inB (0 : Int) (List.getD eds 0 [])) (req (decide (0 + ts.length ≤ ts.length))
 (req (decide (0 + es.length ≤ es.length)) (K ((wt, dy, seg 0 (ts.length) ts, seg 0 (es.length) es, true, ()), (), ([], [], [], [], (0 : Int), [], [], ()), (31 : Int), ())))) (req (inR IntKind.i64 ((↑(ts.length) : Int) +
 1)) (fork (!decide ((↑(ts.length) : Int) + 1 ≤ (256 : Int))) (req (decide (0 + ts.length ≤ ts.length)) (req (decide (0 + es.length ≤ es.length)) (K ((wt, dy, seg 0 (ts.length) ts, seg 0 (es.length) es, true, ()), (), ([],
 [], [], [], (0 : Int), [], [], ()), (6 : Int), ())))) (req (decide (Int.toNat (r - 1) < ts.length)) (∀ (ys : List (Ty.den T6)), ys = List.set ts (Int.toNat (r - 1)) ((List.getD ts (Int.toNat (r - 1)) (0, [], 0, [], 0,
 0)).1, ((List.getD ts (Int.toNat (r - 1)) (0, [], 0, [], 0, 0)).2).1, (3 : Int), (((List.getD ts (Int.toNat (r - 1)) (0, [], 0, [], 0, 0)).2).2).2) → req (decide (Int.toNat (r - 1) < ys.length)) (∀ (ys_1 : List (Ty.den
 T6)), ys_1 = List.set ys (Int.toNat (r - 1)) ((List.getD ys (Int.toNat (r - 1)) (0, [], 0, [], 0, 0)).1, ((List.getD ys (Int.toNat (r - 1)) (0, [], 0, [], 0, 0)).2).1, (((List.getD ys (Int.toNat (r - 1)) (0, [], 0, [], 0,
 0)).2).2).1, ((((List.getD ys (Int.toNat (r - 1)) (0, [], 0, [], 0, 0)).2).2).2).1, (0 : Int), (((((List.getD ys (Int.toNat (r - 1)) (0, [], 0, [], 0, 0)).2).2).2).2).2) → req (decide (Int.toNat (r - 1) < ys_1.length))
 (req (decide ((0 : Int) ≤ (0 : Int) ∧ (0 : Int) < (↑(eds.length) : Int))) (req (decide (Int.toNat (r - 1) < ys_1.length)) (req (inR IntKind.i64 ((↑(ts.length) : Int) + 1)) (List.length (List.getD eds 0 []) ≤ 100 ∧ ∀ (r_1
 : List Int), r_1 = List.getD eds 0 [] → AV.sl 10 6 0 (ts.length) none = AV.sl 10 6 0 (ts.length) none ∧ AV.sl 10 6 0 (ts.length) none = AV.sl 10 6 0 (ts.length) none ∧ req (decide (0 + ts.length ≤ ys_1.length)) (req
 (fitsN (ts.length + 1) 72) (∀ (ys : List (Ty.den (Ty.pr (Ty.i IntKind.i64) (Ty.pr Ty.s (Ty.pr (Ty.i IntKind.i64) (Ty.pr (Ty.sl (Ty.i IntKind.i64)) (Ty.pr (Ty.i IntKind.i64) (Ty.i IntKind.i64)))))))), ys = seg 0
 (ts.length) ys_1 ++ [((↑(ts.length) : Int) + 1, ((List.getD ys_1 (Int.toNat (r - 1)) (0, [], 0, [], 0, 0)).2).1, (1 : Int), r_1, (0 : Int), (List.getD ys_1 (Int.toNat (r - 1)) (0, [], 0, [], 0, 0)).1)] → ((0 : AT.den
 (AT.v I)) ≤ (↑(ts.length) : Int) + 1 ∧ (↑(ts.length) : Int) + 1 ≤ (99999999 : AT.den (AT.v I))) ∧ ∀ (s : Tx), s = codeS ((↑(ts.length) : Int) + 1) → AV.sl 4 1 0 0 none = AV.sl 4 1 0 0 none ∧ AV.sl 4 1 0 0 none = AV.sl 4 1
 0 0 none ∧ ∀ (ys_2 : List (Ty.den Ty.s)), ys_2 = [] ++ [s] → req (inR IntKind.i64 ((↑(ts.length + 1) : Int) - (↑(ts.length) : Int))) (fork (decide ((↑(ts.length + 1) : Int) - (↑(ts.length) : Int) > (0 : Int))) (req
 (decide (0 + es.length ≤ es.length)) (req (fitsN (es.length + 1) 40) (∀ (ys_3 : List (Ty.den (Ty.pr (Ty.i IntKind.i64) (Ty.pr (Ty.i IntKind.i64) (Ty.pr (Ty.i IntKind.i64) (Ty.pr (Ty.i IntKind.i64) (Ty.i
 IntKind.i64))))))), ys_3 = seg 0 (es.length) es ++ [((4 : SV.den (SV.v I)), d, r, (↑(ts.length + 1) : Int), (↑(ts.length + 1) : Int) - (↑(ts.length) : Int))] → req (decide (0 + (ts.length + 1) ≤ ys.length)) (req (decide
 (0 + (es.length + 1) ≤ ys_3.length)) (req (decide (1 ≤ ys_2.length)) (K ((wt, d, seg 0 (ts.length + 1) ys, seg 0 (es.length + 1) ys_3, true, ()), (), (c, h, ps, eds, d, seg 0 1 ys_2, [], ()), (0 : Int), ()))))))) (req
 (decide (0 + es.length ≤ es.length)) (req (fitsN (es.length + 1) 40) (∀ (ys_3 : List (Ty.den (Ty.pr (Ty.i IntKind.i64) (Ty.pr (Ty.i IntKind.i64) (Ty.pr (Ty.i IntKind.i64) (Ty.pr (Ty.i IntKind.i64) (Ty.i
 IntKind.i64))))))), ys_3 = seg 0 (es.length) es ++ [((4 : SV.den (SV.v I)), d, r, (0 : Int), (0 : Int))] → req (decide (0 + (ts.length + 1) ≤ ys.length)) (req (decide (0 + (es.length + 1) ≤ ys_3.length)) (req (decide (1 ≤
 ys_2.length)) (K ((wt, d, seg 0 (ts.length + 1) ys, seg 0 (es.length + 1) ys_3, true, ()), (), (c, h, ps, eds, d, seg 0 1 ys_2, [], ()), (0 : Int), ())))))))))))))))))))))))) (req (decide (0 + ts.length ≤ ts.length)) (req
 (decide (0 + es.length ≤ es.length)) (K ((wt, dy, seg 0 (ts.length) ts, seg 0 (es.length) es, true, ()), (), ([], [], [], [], (0 : Int), [], [], ()), (37 : Int), ()))))))))))))))) (req (decide (0 + ts.length ≤ ts.length))
 (req (decide (0 + es.length ≤ es.length)) (K ((wt, dy, seg 0 (ts.length) ts, seg 0 (es.length) es, true, ()), (), ([], [], [], [], (0 : Int), [], [], ()), (34 : Int), ()))))))) := by kernel_rfl
theorem v86_6 (wt dy d : Int) (ts : List Tk) (es : List Ev) (c : Tx) (h : List Int) (ps : List Tx) (eds : List (List Int)) (K : postDo.den → Prop) : (xfn2 Tryd.prog TB 8 86 fcDo ((wt, dy, ts, es, true, ()), 6, (c, h, ps, eds, d, [], [], ()), ()) K) =
  (req (decide ((0 : Int) ≤ (0 : Int) ∧ (0 : Int) ≤ (↑(es.length) : Int) ∧ (↑(es.length) : Int) ≤ (↑(es.length) : Int) ∧ (↑(es.length) : Int) ≤ (↑(es.length) : Int))) (req (decide (ts.length = ts.length)) (ts.length ≤ 1000
 ∧ fork (decide ((0 : Int) ≤ d ∧ d ≤ (36500 : Int))) (fork (!decide (d ≥ dy)) (req (decide (0 + ts.length ≤ ts.length)) (req (decide (0 + es.length ≤ es.length)) (K ((wt, dy, seg 0 (ts.length) ts, seg 0 (es.length) es,
 true, ()), (), ([], [], [], [], (0 : Int), [], [], ()), (34 : Int), ())))) (∀ (r e : Int), (r, e) = numberI c → fork (!e == (0 : Int)) (req (decide (0 + ts.length ≤ ts.length)) (req (decide (0 + es.length ≤ es.length)) (K
 ((wt, dy, seg 0 (ts.length) ts, seg 0 (es.length) es, true, ()), (), ([], [], [], [], (0 : Int), [], [], ()), e, ())))) (fork (!decide (r ≤ (↑(ts.length) : Int))) (req (decide (0 + ts.length ≤ ts.length)) (req (decide (0
 + es.length ≤ es.length)) (K ((wt, dy, seg 0 (ts.length) ts, seg 0 (es.length) es, true, ()), (), ([], [], [], [], (0 : Int), [], [], ()), (4 : Int), ())))) (req (inR IntKind.i64 (r - 1)) (req (decide ((0 : Int) ≤ r - 1 ∧
 r - 1 < (↑(ts.length) : Int))) (req (decide (Int.toNat (r - 1) < ts.length)) (fork ((((List.getD ts (Int.toNat (r - 1)) (0, [], 0, [], 0, 0)).2).2).1 == (1 : Int)) (req (decide (Int.toNat (r - 1) < ts.length)) (fork
 (!(((List.getD ts (Int.toNat (r - 1)) (0, [], 0, [], 0, 0)).2).2).1 != (2 : Int)) (req (decide (0 + ts.length ≤ ts.length)) (req (decide (0 + es.length ≤ es.length)) (K ((wt, dy, seg 0 (ts.length) ts, seg 0 (es.length)
 es, true, ()), (), ([], [], [], [], (0 : Int), [], [], ()), (36 : Int), ())))) (fork (!inB (-1 : Int) h) (req (decide (0 + ts.length ≤ ts.length)) (req (decide (0 + es.length ≤ es.length)) (K ((wt, dy, seg 0 (ts.length)
 ts, seg 0 (es.length) es, true, ()), (), ([], [], [], [], (0 : Int), [], [], ()), (31 : Int), ())))) (req (decide (Int.toNat (r - 1) < ts.length)) (List.length (((((List.getD ts (Int.toNat (r - 1)) (0, [], 0, [], 0,
 0)).2).2).2).1) ≤ 9223372036854775807 ∧ ∀ (n : Int), fork (!(fitI (((((List.getD ts (Int.toNat (r - 1)) (0, [], 0, [], 0, 0)).2).2).2).1) h).2) (req (decide (0 + ts.length ≤ ts.length)) (req (decide (0 + es.length ≤
 es.length)) (K ((wt, dy, seg 0 (ts.length) ts, seg 0 (es.length) es, true, ()), (), ([], [], [], [], (0 : Int), [], [], ()), (32 : Int), ())))) (req (decide (Int.toNat (r - 1) < ts.length)) (∀ (ys : List (Ty.den T6)), ys
 = List.set ts (Int.toNat (r - 1)) ((List.getD ts (Int.toNat (r - 1)) (0, [], 0, [], 0, 0)).1, ((List.getD ts (Int.toNat (r - 1)) (0, [], 0, [], 0, 0)).2).1, (4 : Int), (((List.getD ts (Int.toNat (r - 1)) (0, [], 0, [], 0,
 0)).2).2).2) → req (decide (Int.toNat (r - 1) < ys.length)) (∀ (ys_1 : List (Ty.den T6)), ys_1 = List.set ys (Int.toNat (r - 1)) ((List.getD ys (Int.toNat (r - 1)) (0, [], 0, [], 0, 0)).1, ((List.getD ys (Int.toNat (r -
 1)) (0, [], 0, [], 0, 0)).2).1, (((List.getD ys (Int.toNat (r - 1)) (0, [], 0, [], 0, 0)).2).2).1, ((((List.getD ys (Int.toNat (r - 1)) (0, [], 0, [], 0, 0)).2).2).2).1, (0 : Int), (((((List.getD ys (Int.toNat (r - 1))
 (0, [], 0, [], 0, 0)).2).2).2).2).2) → req (decide (Int.toNat (r - 1) < ys_1.length)) (req (inR IntKind.i64 ((↑(ts.length) : Int) - (↑(ts.length) : Int))) (fork (decide ((↑(ts.length) : Int) - (↑(ts.length) : Int) > (0 :
 Int))) (req (decide (0 + es.length ≤ es.length)) (req (fitsN (es.length + 1) 40) (∀ (ys : List (Ty.den (Ty.pr (Ty.i IntKind.i64) (Ty.pr (Ty.i IntKind.i64) (Ty.pr (Ty.i IntKind.i64) (Ty.pr (Ty.i IntKind.i64) (Ty.i
 IntKind.i64))))))), ys = seg 0 (es.length) es ++ [((6 : SV.den (SV.v I)), d, r, (↑(ts.length) : Int), (↑(ts.length) : Int) - (↑(ts.length) : Int))] → req (decide (0 + ts.length ≤ ys_1.length)) (req (decide (0 + (es.length
 + 1) ≤ ys.length)) (K ((wt, d, seg 0 (ts.length) ys_1, seg 0 (es.length + 1) ys, true, ()), (), (c, h, ps, eds, d, [], ((List.getD ys_1 (Int.toNat (r - 1)) (0, [], 0, [], 0, 0)).2).1, ()), (0 : Int), ())))))) (req (decide
 (0 + es.length ≤ es.length)) (req (fitsN (es.length + 1) 40) (∀ (ys : List (Ty.den (Ty.pr (Ty.i IntKind.i64) (Ty.pr (Ty.i IntKind.i64) (Ty.pr (Ty.i IntKind.i64) (Ty.pr (Ty.i IntKind.i64) (Ty.i IntKind.i64))))))), ys = seg
 0 (es.length) es ++ [((6 : SV.den (SV.v I)), d, r, (0 : Int), (0 : Int))] → req (decide (0 + ts.length ≤ ys_1.length)) (req (decide (0 + (es.length + 1) ≤ ys.length)) (K ((wt, d, seg 0 (ts.length) ys_1, seg 0 (es.length +
 1) ys, true, ()), (), (c, h, ps, eds, d, [], ((List.getD ys_1 (Int.toNat (r - 1)) (0, [], 0, [], 0, 0)).2).1, ()), (0 : Int), ())))))))))))))))) (req (decide (Int.toNat (r - 1) < ts.length)) (fork (!(((List.getD ts
 (Int.toNat (r - 1)) (0, [], 0, [], 0, 0)).2).2).1 == (2 : Int)) (req (decide (0 + ts.length ≤ ts.length)) (req (decide (0 + es.length ≤ es.length)) (K ((wt, dy, seg 0 (ts.length) ts, seg 0 (es.length) es, true, ()), (),
 ([], [], [], [], (0 : Int), [], [], ()), (35 : Int), ())))) (req (decide (Int.toNat (r - 1) < ts.length)) (fork (!(((List.getD ts (Int.toNat (r - 1)) (0, [], 0, [], 0, 0)).2).2).1 != (2 : Int)) (req (decide (0 + ts.length
 ≤ ts.length)) (req (decide (0 + es.length ≤ es.length)) (K ((wt, dy, seg 0 (ts.length) ts, seg 0 (es.length) es, true, ()), (), ([], [], [], [], (0 : Int), [], [], ()), (36 : Int), ())))) (fork (!inB (-1 : Int) h) (req
 (decide (0 + ts.length ≤ ts.length)) (req (decide (0 + es.length ≤ es.length)) (K ((wt, dy, seg 0 (ts.length) ts, seg 0 (es.length) es, true, ()), (), ([], [], [], [], (0 : Int), [], [], ()), (31 : Int), ())))) (req
 (decide (Int.toNat (r - 1) < ts.length)) (List.length (((((List.getD ts (Int.toNat (r - 1)) (0, [], 0, [], 0, 0)).2).2).2).1) ≤ 9223372036854775807 ∧ ∀ (n : Int), fork (!(fitI (((((List.getD ts (Int.toNat (r - 1)) (0, [],
 0, [], 0, 0)).2).2).2).1) h).2) (req (decide (0 + ts.length ≤ ts.length)) (req (decide (0 + es.length ≤ es.length)) (K ((wt, dy, seg 0 (ts.length) ts, seg 0 (es.length) es, true, ()), (), ([], [], [], [], (0 : Int), [],
 [], ()), (32 : Int), ())))) (req (decide (Int.toNat (r - 1) < ts.length)) (∀ (ys : List (Ty.den T6)), ys = List.set ts (Int.toNat (r - 1)) ((List.getD ts (Int.toNat (r - 1)) (0, [], 0, [], 0, 0)).1, ((List.getD ts
 (Int.toNat (r - 1)) (0, [], 0, [], 0, 0)).2).1, (4 : Int), (((List.getD ts (Int.toNat (r - 1)) (0, [], 0, [], 0, 0)).2).2).2) → req (decide (Int.toNat (r - 1) < ys.length)) (∀ (ys_1 : List (Ty.den T6)), ys_1 = List.set ys
 (Int.toNat (r - 1)) ((List.getD ys (Int.toNat (r - 1)) (0, [], 0, [], 0, 0)).1, ((List.getD ys (Int.toNat (r - 1)) (0, [], 0, [], 0, 0)).2).1, (((List.getD ys (Int.toNat (r - 1)) (0, [], 0, [], 0, 0)).2).2).1,
 ((((List.getD ys (Int.toNat (r - 1)) (0, [], 0, [], 0, 0)).2).2).2).1, (0 : Int), (((((List.getD ys (Int.toNat (r - 1)) (0, [], 0, [], 0, 0)).2).2).2).2).2) → req (decide (Int.toNat (r - 1) < ys_1.length)) (req (inR
 IntKind.i64 ((↑(ts.length) : Int) - (↑(ts.length) : Int))) (fork (decide ((↑(ts.length) : Int) - (↑(ts.length) : Int) > (0 : Int))) (req (decide (0 + es.length ≤ es.length)) (req (fitsN (es.length + 1) 40) (∀ (ys : List
 (Ty.den (Ty.pr (Ty.i IntKind.i64) (Ty.pr (Ty.i IntKind.i64) (Ty.pr (Ty.i IntKind.i64) (Ty.pr (Ty.i IntKind.i64) (Ty.i IntKind.i64))))))), ys = seg 0 (es.length) es ++ [((6 : SV.den (SV.v I)), d, r, (↑(ts.length) : Int),
 (↑(ts.length) : Int) - (↑(ts.length) : Int))] → req (decide (0 + ts.length ≤ ys_1.length)) (req (decide (0 + (es.length + 1) ≤ ys.length)) (K ((wt, d, seg 0 (ts.length) ys_1, seg 0 (es.length + 1) ys, true, ()), (), (c,
 h, ps, eds, d, [], ((List.getD ys_1 (Int.toNat (r - 1)) (0, [], 0, [], 0, 0)).2).1, ()), (0 : Int), ())))))) (req (decide (0 + es.length ≤ es.length)) (req (fitsN (es.length + 1) 40) (∀ (ys : List (Ty.den (Ty.pr (Ty.i
 IntKind.i64) (Ty.pr (Ty.i IntKind.i64) (Ty.pr (Ty.i IntKind.i64) (Ty.pr (Ty.i IntKind.i64) (Ty.i IntKind.i64))))))), ys = seg 0 (es.length) es ++ [((6 : SV.den (SV.v I)), d, r, (0 : Int), (0 : Int))] → req (decide (0 +
 ts.length ≤ ys_1.length)) (req (decide (0 + (es.length + 1) ≤ ys.length)) (K ((wt, d, seg 0 (ts.length) ys_1, seg 0 (es.length + 1) ys, true, ()), (), (c, h, ps, eds, d, [], ((List.getD ys_1 (Int.toNat (r - 1)) (0, [], 0,
 [], 0, 0)).2).1, ()), (0 : Int), ()))))))))))))))))))))))))) (req (decide (0 + ts.length ≤ ts.length)) (req (decide (0 + es.length ≤ es.length)) (K ((wt, dy, seg 0 (ts.length) ts, seg 0 (es.length) es, true, ()), (), ([],
 [], [], [], (0 : Int), [], [], ()), (34 : Int), ()))))))) := by kernel_rfl
theorem v86_7 (wt dy d : Int) (ts : List Tk) (es : List Ev) (c : Tx) (h : List Int) (ps : List Tx) (eds : List (List Int)) (K : postDo.den → Prop) : (xfn2 Tryd.prog TB 8 86 fcDo ((wt, dy, ts, es, true, ()), 7, (c, h, ps, eds, d, [], [], ()), ()) K) =
  (req (decide ((0 : Int) ≤ (0 : Int) ∧ (0 : Int) ≤ (↑(es.length) : Int) ∧ (↑(es.length) : Int) ≤ (↑(es.length) : Int) ∧ (↑(es.length) : Int) ≤ (↑(es.length) : Int))) (req (decide (ts.length = ts.length)) (ts.length ≤ 1000
 ∧ fork (decide ((0 : Int) ≤ d ∧ d ≤ (36500 : Int))) (fork (!decide (d ≥ dy)) (req (decide (0 + ts.length ≤ ts.length)) (req (decide (0 + es.length ≤ es.length)) (K ((wt, dy, seg 0 (ts.length) ts, seg 0 (es.length) es,
 true, ()), (), ([], [], [], [], (0 : Int), [], [], ()), (34 : Int), ())))) (∀ (r e : Int), (r, e) = numberI c → fork (!e == (0 : Int)) (req (decide (0 + ts.length ≤ ts.length)) (req (decide (0 + es.length ≤ es.length)) (K
 ((wt, dy, seg 0 (ts.length) ts, seg 0 (es.length) es, true, ()), (), ([], [], [], [], (0 : Int), [], [], ()), e, ())))) (fork (!decide (r ≤ (↑(ts.length) : Int))) (req (decide (0 + ts.length ≤ ts.length)) (req (decide (0
 + es.length ≤ es.length)) (K ((wt, dy, seg 0 (ts.length) ts, seg 0 (es.length) es, true, ()), (), ([], [], [], [], (0 : Int), [], [], ()), (4 : Int), ())))) (req (inR IntKind.i64 (r - 1)) (req (decide ((0 : Int) ≤ r - 1 ∧
 r - 1 < (↑(ts.length) : Int))) (req (decide (Int.toNat (r - 1) < ts.length)) (fork ((((List.getD ts (Int.toNat (r - 1)) (0, [], 0, [], 0, 0)).2).2).1 == (1 : Int)) (req (decide (Int.toNat (r - 1) < ts.length)) (fork
 (!(((List.getD ts (Int.toNat (r - 1)) (0, [], 0, [], 0, 0)).2).2).1 != (2 : Int)) (req (decide (0 + ts.length ≤ ts.length)) (req (decide (0 + es.length ≤ es.length)) (K ((wt, dy, seg 0 (ts.length) ts, seg 0 (es.length)
 es, true, ()), (), ([], [], [], [], (0 : Int), [], [], ()), (36 : Int), ())))) (req (decide (Int.toNat (r - 1) < ts.length)) (∀ (ys : List (Ty.den T6)), ys = List.set ts (Int.toNat (r - 1)) ((List.getD ts (Int.toNat (r -
 1)) (0, [], 0, [], 0, 0)).1, ((List.getD ts (Int.toNat (r - 1)) (0, [], 0, [], 0, 0)).2).1, (5 : Int), (((List.getD ts (Int.toNat (r - 1)) (0, [], 0, [], 0, 0)).2).2).2) → req (decide (Int.toNat (r - 1) < ys.length)) (∀
 (ys_1 : List (Ty.den T6)), ys_1 = List.set ys (Int.toNat (r - 1)) ((List.getD ys (Int.toNat (r - 1)) (0, [], 0, [], 0, 0)).1, ((List.getD ys (Int.toNat (r - 1)) (0, [], 0, [], 0, 0)).2).1, (((List.getD ys (Int.toNat (r -
 1)) (0, [], 0, [], 0, 0)).2).2).1, ((((List.getD ys (Int.toNat (r - 1)) (0, [], 0, [], 0, 0)).2).2).2).1, (0 : Int), (((((List.getD ys (Int.toNat (r - 1)) (0, [], 0, [], 0, 0)).2).2).2).2).2) → req (decide (Int.toNat (r -
 1) < ys_1.length)) (req (inR IntKind.i64 ((↑(ts.length) : Int) - (↑(ts.length) : Int))) (fork (decide ((↑(ts.length) : Int) - (↑(ts.length) : Int) > (0 : Int))) (req (decide (0 + es.length ≤ es.length)) (req (fitsN
 (es.length + 1) 40) (∀ (ys : List (Ty.den (Ty.pr (Ty.i IntKind.i64) (Ty.pr (Ty.i IntKind.i64) (Ty.pr (Ty.i IntKind.i64) (Ty.pr (Ty.i IntKind.i64) (Ty.i IntKind.i64))))))), ys = seg 0 (es.length) es ++ [((7 : SV.den (SV.v
 I)), d, r, (↑(ts.length) : Int), (↑(ts.length) : Int) - (↑(ts.length) : Int))] → req (decide (0 + ts.length ≤ ys_1.length)) (req (decide (0 + (es.length + 1) ≤ ys.length)) (K ((wt, d, seg 0 (ts.length) ys_1, seg 0
 (es.length + 1) ys, true, ()), (), (c, h, ps, eds, d, [], ((List.getD ys_1 (Int.toNat (r - 1)) (0, [], 0, [], 0, 0)).2).1, ()), (0 : Int), ())))))) (req (decide (0 + es.length ≤ es.length)) (req (fitsN (es.length + 1) 40)
 (∀ (ys : List (Ty.den (Ty.pr (Ty.i IntKind.i64) (Ty.pr (Ty.i IntKind.i64) (Ty.pr (Ty.i IntKind.i64) (Ty.pr (Ty.i IntKind.i64) (Ty.i IntKind.i64))))))), ys = seg 0 (es.length) es ++ [((7 : SV.den (SV.v I)), d, r, (0 :
 Int), (0 : Int))] → req (decide (0 + ts.length ≤ ys_1.length)) (req (decide (0 + (es.length + 1) ≤ ys.length)) (K ((wt, d, seg 0 (ts.length) ys_1, seg 0 (es.length + 1) ys, true, ()), (), (c, h, ps, eds, d, [],
 ((List.getD ys_1 (Int.toNat (r - 1)) (0, [], 0, [], 0, 0)).2).1, ()), (0 : Int), ()))))))))))))) (req (decide (Int.toNat (r - 1) < ts.length)) (fork (!(((List.getD ts (Int.toNat (r - 1)) (0, [], 0, [], 0, 0)).2).2).1 ==
 (2 : Int)) (req (decide (0 + ts.length ≤ ts.length)) (req (decide (0 + es.length ≤ es.length)) (K ((wt, dy, seg 0 (ts.length) ts, seg 0 (es.length) es, true, ()), (), ([], [], [], [], (0 : Int), [], [], ()), (35 : Int),
 ())))) (req (decide (Int.toNat (r - 1) < ts.length)) (fork (!(((List.getD ts (Int.toNat (r - 1)) (0, [], 0, [], 0, 0)).2).2).1 != (2 : Int)) (req (decide (0 + ts.length ≤ ts.length)) (req (decide (0 + es.length ≤
 es.length)) (K ((wt, dy, seg 0 (ts.length) ts, seg 0 (es.length) es, true, ()), (), ([], [], [], [], (0 : Int), [], [], ()), (36 : Int), ())))) (req (decide (Int.toNat (r - 1) < ts.length)) (∀ (ys : List (Ty.den T6)), ys
 = List.set ts (Int.toNat (r - 1)) ((List.getD ts (Int.toNat (r - 1)) (0, [], 0, [], 0, 0)).1, ((List.getD ts (Int.toNat (r - 1)) (0, [], 0, [], 0, 0)).2).1, (5 : Int), (((List.getD ts (Int.toNat (r - 1)) (0, [], 0, [], 0,
 0)).2).2).2) → req (decide (Int.toNat (r - 1) < ys.length)) (∀ (ys_1 : List (Ty.den T6)), ys_1 = List.set ys (Int.toNat (r - 1)) ((List.getD ys (Int.toNat (r - 1)) (0, [], 0, [], 0, 0)).1, ((List.getD ys (Int.toNat (r -
 1)) (0, [], 0, [], 0, 0)).2).1, (((List.getD ys (Int.toNat (r - 1)) (0, [], 0, [], 0, 0)).2).2).1, ((((List.getD ys (Int.toNat (r - 1)) (0, [], 0, [], 0, 0)).2).2).2).1, (0 : Int), (((((List.getD ys (Int.toNat (r - 1))
 (0, [], 0, [], 0, 0)).2).2).2).2).2) → req (decide (Int.toNat (r - 1) < ys_1.length)) (req (inR IntKind.i64 ((↑(ts.length) : Int) - (↑(ts.length) : Int))) (fork (decide ((↑(ts.length) : Int) - (↑(ts.length) : Int) > (0 :
 Int))) (req (decide (0 + es.length ≤ es.length)) (req (fitsN (es.length + 1) 40) (∀ (ys : List (Ty.den (Ty.pr (Ty.i IntKind.i64) (Ty.pr (Ty.i IntKind.i64) (Ty.pr (Ty.i IntKind.i64) (Ty.pr (Ty.i IntKind.i64) (Ty.i
 IntKind.i64))))))), ys = seg 0 (es.length) es ++ [((7 : SV.den (SV.v I)), d, r, (↑(ts.length) : Int), (↑(ts.length) : Int) - (↑(ts.length) : Int))] → req (decide (0 + ts.length ≤ ys_1.length)) (req (decide (0 + (es.length
 + 1) ≤ ys.length)) (K ((wt, d, seg 0 (ts.length) ys_1, seg 0 (es.length + 1) ys, true, ()), (), (c, h, ps, eds, d, [], ((List.getD ys_1 (Int.toNat (r - 1)) (0, [], 0, [], 0, 0)).2).1, ()), (0 : Int), ())))))) (req (decide
 (0 + es.length ≤ es.length)) (req (fitsN (es.length + 1) 40) (∀ (ys : List (Ty.den (Ty.pr (Ty.i IntKind.i64) (Ty.pr (Ty.i IntKind.i64) (Ty.pr (Ty.i IntKind.i64) (Ty.pr (Ty.i IntKind.i64) (Ty.i IntKind.i64))))))), ys = seg
 0 (es.length) es ++ [((7 : SV.den (SV.v I)), d, r, (0 : Int), (0 : Int))] → req (decide (0 + ts.length ≤ ys_1.length)) (req (decide (0 + (es.length + 1) ≤ ys.length)) (K ((wt, d, seg 0 (ts.length) ys_1, seg 0 (es.length +
 1) ys, true, ()), (), (c, h, ps, eds, d, [], ((List.getD ys_1 (Int.toNat (r - 1)) (0, [], 0, [], 0, 0)).2).1, ()), (0 : Int), ())))))))))))))))))))))) (req (decide (0 + ts.length ≤ ts.length)) (req (decide (0 + es.length
 ≤ es.length)) (K ((wt, dy, seg 0 (ts.length) ts, seg 0 (es.length) es, true, ()), (), ([], [], [], [], (0 : Int), [], [], ()), (34 : Int), ()))))))) := by kernel_rfl
end Go.P3
