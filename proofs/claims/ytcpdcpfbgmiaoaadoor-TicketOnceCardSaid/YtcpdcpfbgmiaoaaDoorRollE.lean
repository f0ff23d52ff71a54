/- Rolls: to divide a ticket: what is to be shown, reduced. No conditions. -/
import Derived.Test.YtcpdcpfbgmiaoaaDoorRollD
set_option linter.unusedSimpArgs false
set_option linter.unusedVariables false
set_option linter.constructorNameAsVariable false
set_option maxRecDepth 100000
set_option maxHeartbeats 2000000
namespace Go.P3
open Go.Lom Go.Proofs Go

abbrev TBe : Tb := { TBd with f := (63, fc63g) :: TBd.f, l2 := [(130, 0, lc130a), (130, 1, lc130b)] }
theorem v86_5 (wt dy d : Int) (ts : List Tk) (es : List Ev) (c : Tx) (h : List Int) (ps : List Tx) (eds : List (List Int)) (K : postDo.den → Prop) : (xfn2 Tryd.prog TBe 8 86 fcDo ((wt, dy, ts, es, true, ()), 5, (c, h, ps, eds, d, [], [], ()), ()) K) =
  (req (decide ((0 : Int) ≤ (0 : Int) ∧ (0 : Int) ≤ (↑(es.length) : Int) ∧ (↑(es.length) : Int) ≤ (↑(es.length) : Int) ∧ (↑(es.length) : Int) ≤ (↑(es.length) : Int))) (req (decide (ts.length = ts.length)) (ts.length ≤ 1000
 ∧ fork (decide ((0 : Int) ≤ d ∧ d ≤ (36500 : Int))) (fork (!decide (d ≥ dy)) (req (decide (0 + ts.length ≤ ts.length)) (req (decide (0 + es.length ≤ es.length)) (K ((wt, dy, seg 0 (ts.length) ts, seg 0 (es.length) es,
 true, ()), (), ([], [], [], [], (0 : Int), [], [], ()), (34 : Int), ())))) (∀ (r e : Int), (r, e) = numberI c → fork (!e == (0 : Int)) (req (decide (0 + ts.length ≤ ts.length)) (req (decide (0 + es.length ≤ es.length)) (K
 ((wt, dy, seg 0 (ts.length) ts, seg 0 (es.length) es, true, ()), (), ([], [], [], [], (0 : Int), [], [], ()), e, ())))) (fork (!decide (r ≤ (↑(ts.length) : Int))) (req (decide (0 + ts.length ≤ ts.length)) (req (decide (0
 + es.length ≤ es.length)) (K ((wt, dy, seg 0 (ts.length) ts, seg 0 (es.length) es, true, ()), (), ([], [], [], [], (0 : Int), [], [], ()), (4 : Int), ())))) (req (inR IntKind.i64 (r - 1)) (req (decide ((0 : Int) ≤ r - 1 ∧
 r - 1 < (↑(ts.length) : Int))) (req (decide (Int.toNat (r - 1) < ts.length)) (fork ((((List.getD ts (Int.toNat (r - 1)) (0, [], 0, [], 0, 0)).2).2).1 == (1 : Int)) (req (decide (Int.toNat (r - 1) < ts.length)) (fork
 (!(((List.getD ts (Int.toNat (r - 1)) (0, [], 0, [], 0, 0)).2).2).1 != (2 : Int)) (req (decide (0 + ts.length ≤ ts.length)) (req (decide (0 + es.length ≤ es.length)) (K ((wt, dy, seg 0 (ts.length) ts, seg 0 (es.length)
 es, true, ()), (), ([], [], [], [], (0 : Int), [], [], ()), (36 : Int), ())))) (fork (!inB (-1 : Int) h) (req (decide (0 + ts.length ≤ ts.length)) (req (decide (0 + es.length ≤ es.length)) (K ((wt, dy, seg 0 (ts.length)
 ts, seg 0 (es.length) es, true, ()), (), ([], [], [], [], (0 : Int), [], [], ()), (31 : Int), ())))) (req (decide (Int.toNat (r - 1) < ts.length)) (List.length (((((List.getD ts (Int.toNat (r - 1)) (0, [], 0, [], 0,
 0)).2).2).2).1) ≤ 9223372036854775807 ∧ ∀ (n : Int), fork (!(fitI (((((List.getD ts (Int.toNat (r - 1)) (0, [], 0, [], 0, 0)).2).2).2).1) h).2) (req (decide (0 + ts.length ≤ ts.length)) (req (decide (0 + es.length ≤
 es.length)) (K ((wt, dy, seg 0 (ts.length) ts, seg 0 (es.length) es, true, ()), (), ([], [], [], [], (0 : Int), [], [], ()), (32 : Int), ())))) (fork (!decide ((2 : Int) ≤ (↑(ps.length) : Int) ∧ (↑(ps.length) : Int) ≤ (4
 : Int))) (req (decide (0 + ts.length ≤ ts.length)) (req (decide (0 + es.length ≤ es.length)) (K ((wt, dy, seg 0 (ts.length) ts, seg 0 (es.length) es, true, ()), (), ([], [], [], [], (0 : Int), [], [], ()), (33 : Int),
 ())))) (req (decide (ts.length = ts.length)) (req (decide (ts.length = ts.length)) (req (decide (es.length = es.length)) ((ps = ps ∧ (↑(ps.length) : Int) = (↑(ps.length) : SV.den (SV.slot 32 (SV.v I))) ∧ (0 : SV.den
 (SV.slot 33 (SV.v I))) ≤ (0 : Int) ∧ (0 : Int) ≤ (↑(ps.length) : SV.den (SV.slot 33 (SV.v I))) ∧ ps.length ≤ 4 ∧ ts.length ≤ 256 ∧ ∀ (p : Ty.den Ty.s), p ∈ ps → p.length ≤ 9223372036854775807) ∧ (newsB (rT ts) ps
 (ps.length) 0 = true → fork ((↑(eds.length) : Int) == (↑(ps.length) : Int)) (eds.length ≤ 9223372036854775807 ∧ fork (!List.all eds (inB (0 : Int))) (req (decide (0 + ts.length ≤ ts.length)) (req (decide (0 + es.length ≤
 es.length)) (K ((wt, dy, seg 0 (ts.length) ts, seg 0 (es.length) es, true, ()), (), ([], [], [], [], (0 : Int), [], [], ()), (31 : Int), ())))) (req (inR IntKind.i64 ((↑(ts.length) : Int) + (↑(ps.length) : Int))) (fork
 (!decide ((↑(ts.length) : Int) + (↑(ps.length) : Int) ≤ (256 : Int))) (req (decide (0 + ts.length ≤ ts.length)) (req (decide (0 + es.length ≤ es.length)) (K ((wt, dy, seg 0 (ts.length) ts, seg 0 (es.length) es, true, ()),
 (), ([], [], [], [], (0 : Int), [], [], ()), (6 : Int), ())))) (req (decide (Int.toNat (r - 1) < ts.length)) (∀ (ys : List (Ty.den T6)), ys = List.set ts (Int.toNat (r - 1)) ((List.getD ts (Int.toNat (r - 1)) (0, [], 0,
 [], 0, 0)).1, ((List.getD ts (Int.toNat (r - 1)) (0, [], 0, [], 0, 0)).2).1, (3 : Int), (((List.getD ts (Int.toNat (r - 1)) (0, [], 0, [], 0, 0)).2).2).2) → req (decide (Int.toNat (r - 1) < ys.length)) (∀ (ys_1 : List
 (Ty.den T6)), ys_1 = List.set ys (Int.toNat (r - 1)) ((List.getD ys (Int.toNat (r - 1)) (0, [], 0, [], 0, 0)).1, ((List.getD ys (Int.toNat (r - 1)) (0, [], 0, [], 0, 0)).2).1, (((List.getD ys (Int.toNat (r - 1)) (0, [],
 0, [], 0, 0)).2).2).1, ((((List.getD ys (Int.toNat (r - 1)) (0, [], 0, [], 0, 0)).2).2).2).1, (0 : Int), (((((List.getD ys (Int.toNat (r - 1)) (0, [], 0, [], 0, 0)).2).2).2).2).2) → req (decide (Int.toNat (r - 1) <
 ys_1.length)) (req (decide (0 + ts.length ≤ ys_1.length)) (req (decide (ts.length = ts.length)) (req (decide (es.length = es.length)) ((ps = ps ∧ (↑(ps.length) : Int) = (↑(ps.length) : SV.den (SV.slot 96 (SV.v I))) ∧ (0 :
 SV.den (SV.slot 97 (SV.v I))) ≤ (0 : Int) ∧ (0 : Int) ≤ (↑(ps.length) : SV.den (SV.slot 97 (SV.v I))) ∧ ps.length ≤ 4 ∧ eds.length = ps.length ∧ List.all eds (inB (0 : Int)) = true ∧ (↑(List.length (seg 0 (ts.length)
 ys_1)) : Int) + ((↑(ps.length) : Int) - 0) ≤ (256 : Int) ∧ (0 : Int) ≤ (0 : Int)) ∧ req (inR IntKind.i64 ((↑(List.length (addsI (seg 0 (ts.length) ys_1) ps eds ((List.getD ys_1 (Int.toNat (r - 1)) (0, [], 0, [], 0, 0)).1)
 (ps.length) 0)) : Int) - (↑(ts.length) : Int))) (fork (decide ((↑(List.length (addsI (seg 0 (ts.length) ys_1) ps eds ((List.getD ys_1 (Int.toNat (r - 1)) (0, [], 0, [], 0, 0)).1) (ps.length) 0)) : Int) - (↑(ts.length) :
 Int) > (0 : Int))) (req (decide (0 + es.length ≤ es.length)) (req (fitsN (es.length + 1) 40) (∀ (ys : List (Ty.den (Ty.pr (Ty.i IntKind.i64) (Ty.pr (Ty.i IntKind.i64) (Ty.pr (Ty.i IntKind.i64) (Ty.pr (Ty.i IntKind.i64)
 (Ty.i IntKind.i64))))))), ys = seg 0 (es.length) es ++ [((5 : SV.den (SV.v I)), d, r, (↑(List.length (addsI (seg 0 (ts.length) ys_1) ps eds ((List.getD ys_1 (Int.toNat (r - 1)) (0, [], 0, [], 0, 0)).1) (ps.length) 0)) :
 Int), (↑(List.length (addsI (seg 0 (ts.length) ys_1) ps eds ((List.getD ys_1 (Int.toNat (r - 1)) (0, [], 0, [], 0, 0)).1) (ps.length) 0)) : Int) - (↑(ts.length) : Int))] → req (decide (0 + List.length (addsI (seg 0
 (ts.length) ys_1) ps eds ((List.getD ys_1 (Int.toNat (r - 1)) (0, [], 0, [], 0, 0)).1) (ps.length) 0) ≤ List.length (addsI (seg 0 (ts.length) ys_1) ps eds ((List.getD ys_1 (Int.toNat (r - 1)) (0, [], 0, [], 0, 0)).1)
 (ps.length) 0))) (req (decide (0 + (es.length + 1) ≤ ys.length)) (req (decide (0 + List.length ([] ++ codesI (ps.length) ((↑(List.length (seg 0 (ts.length) ys_1)) : Int) + 1)) ≤ List.length ([] ++ codesI (ps.length)
 ((↑(List.length (seg 0 (ts.length) ys_1)) : Int) + 1)))) (K ((wt, d, seg 0 (List.length (addsI (seg 0 (ts.length) ys_1) ps eds ((List.getD ys_1 (Int.toNat (r - 1)) (0, [], 0, [], 0, 0)).1) (ps.length) 0)) (addsI (seg 0
 (ts.length) ys_1) ps eds ((List.getD ys_1 (Int.toNat (r - 1)) (0, [], 0, [], 0, 0)).1) (ps.length) 0), seg 0 (es.length + 1) ys, true, ()), (), (c, h, ps, eds, d, seg 0 (List.length ([] ++ codesI (ps.length)
 ((↑(List.length (seg 0 (ts.length) ys_1)) : Int) + 1))) ([] ++ codesI (ps.length) ((↑(List.length (seg 0 (ts.length) ys_1)) : Int) + 1)), [], ()), (0 : Int), ()))))))) (req (decide (0 + es.length ≤ es.length)) (req (fitsN
 (es.length + 1) 40) (∀ (ys : List (Ty.den (Ty.pr (Ty.i IntKind.i64) (Ty.pr (Ty.i IntKind.i64) (Ty.pr (Ty.i IntKind.i64) (Ty.pr (Ty.i IntKind.i64) (Ty.i IntKind.i64))))))), ys = seg 0 (es.length) es ++ [((5 : SV.den (SV.v
 I)), d, r, (0 : Int), (0 : Int))] → req (decide (0 + List.length (addsI (seg 0 (ts.length) ys_1) ps eds ((List.getD ys_1 (Int.toNat (r - 1)) (0, [], 0, [], 0, 0)).1) (ps.length) 0) ≤ List.length (addsI (seg 0 (ts.length)
 ys_1) ps eds ((List.getD ys_1 (Int.toNat (r - 1)) (0, [], 0, [], 0, 0)).1) (ps.length) 0))) (req (decide (0 + (es.length + 1) ≤ ys.length)) (req (decide (0 + List.length ([] ++ codesI (ps.length) ((↑(List.length (seg 0
 (ts.length) ys_1)) : Int) + 1)) ≤ List.length ([] ++ codesI (ps.length) ((↑(List.length (seg 0 (ts.length) ys_1)) : Int) + 1)))) (K ((wt, d, seg 0 (List.length (addsI (seg 0 (ts.length) ys_1) ps eds ((List.getD ys_1
 (Int.toNat (r - 1)) (0, [], 0, [], 0, 0)).1) (ps.length) 0)) (addsI (seg 0 (ts.length) ys_1) ps eds ((List.getD ys_1 (Int.toNat (r - 1)) (0, [], 0, [], 0, 0)).1) (ps.length) 0), seg 0 (es.length + 1) ys, true, ()), (),
 (c, h, ps, eds, d, seg 0 (List.length ([] ++ codesI (ps.length) ((↑(List.length (seg 0 (ts.length) ys_1)) : Int) + 1))) ([] ++ codesI (ps.length) ((↑(List.length (seg 0 (ts.length) ys_1)) : Int) + 1)), [], ()), (0 : Int),
 ())))))))))))))))))) (req (decide (0 + ts.length ≤ ts.length)) (req (decide (0 + es.length ≤ es.length)) (K ((wt, dy, seg 0 (ts.length) ts, seg 0 (es.length) es, true, ()), (), ([], [], [], [], (0 : Int), [], [], ()), (31
 : Int), ()))))) ∧ (newsB (rT ts) ps (ps.length) 0 = false → req (decide (0 + ts.length ≤ ts.length)) (req (decide (0 + es.length ≤ es.length)) (K ((wt, dy, seg 0 (ts.length) ts, seg 0 (es.length) es, true, ()), (), ([],
 [], [], [], (0 : Int), [], [], ()), (33 : Int), ())))))))))))))) (req (decide (Int.toNat (r - 1) < ts.length)) (fork (!(((List.getD ts (Int.toNat (r - 1)) (0, [], 0, [], 0, 0)).2).2).1 == (2 : Int)) (req (decide (0 +
 ts.length ≤ ts.length)) (req (decide (0 + es.length ≤ es.length)) (K ((wt, dy, seg 0 (ts.length) ts, seg 0 (es.length) es, true, ()), (), ([], [], [], [], (0 : Int), [], [], ()), (35 : Int), ())))) (req (decide (Int.toNat
 (r - 1) < ts.length)) (fork (!(((List.getD ts (Int.toNat (r - 1)) (0, [], 0, [], 0, 0)).2).2).1 != (2 : Int)) (req (decide (0 + ts.length ≤ ts.length)) (req (decide (0 + es.length ≤ es.length)) (K ((wt, dy, seg 0
 (ts.length) ts, seg 0 (es.length) es, true, ()), (), ([], [], [], [], (0 : Int), [], [], ()), (36 : Int), ())))) (fork (!inB (-1 : Int) h) (req (decide (0 + ts.length ≤ ts.length)) (req (decide (0 + es.length ≤
 es.length)) (K ((wt, dy, seg 0 (ts.length) ts, seg 0 (es.length) es, true, ()), (), ([], [], [], [], (0 : Int), [], [], ()), (31 : Int), ())))) (req (decide (Int.toNat (r - 1) < ts.length)) (List.length (((((List.getD ts
 (Int.toNat (r - 1)) (0, [], 0, [], 0, 0)).2).2).2).1) ≤ 9223372036854775807 ∧ ∀ (n : Int), fork (!(fitI (((((List.getD ts (Int.toNat (r - 1)) (0, [], 0, [], 0, 0)).2).2).2).1) h).2) (req (decide (0 + ts.length ≤
 ts.length)) (req (decide (0 + es.length ≤ es.length)) (K ((wt, dy, seg 0 (ts.length) ts, seg 0 (es.length) es, true, ()), (), ([], [], [], [], (0 : Int), [], [], ()), (32 : Int), ())))) (fork (!decide ((2 : Int) ≤
 (↑(ps.length) : Int) ∧ (↑(ps.length) : Int) ≤ (4 : Int))) (req (decide (0 + ts.length ≤ ts.length)) (req (decide (0 + es.length ≤ es.length)) (K ((wt, dy, seg 0 (ts.length) ts, seg 0 (es.length) es, true, ()), (), ([],
 [], [], [], (0 : Int), [], [], ()), (33 : Int), ())))) (req (decide (ts.length = ts.length)) (req (decide (ts.length = ts.length)) (req (decide (es.length = es.length)) ((ps = ps ∧ (↑(ps.length) : Int) = (↑(ps.length) :
 SV.den (SV.slot 32 (SV.v I))) ∧ (0 : SV.den (SV.slot 33 (SV.v I))) ≤ (0 : Int) ∧ (0 : Int) ≤ (↑(ps.length) : SV.den (SV.slot 33 (SV.v I))) ∧ ps.length ≤ 4 ∧ ts.length ≤ 256 ∧ ∀ (p : Ty.den Ty.s), p ∈ ps → p.length ≤
 9223372036854775807) ∧ (newsB (rT ts) ps (ps.length) 0 = true → fork ((↑(eds.length) : Int) == (↑(ps.length) : Int)) (eds.length ≤ 9223372036854775807 ∧ fork (!List.all eds (inB (0 : Int))) (req (decide (0 + ts.length ≤
 ts.length)) (req (decide (0 + es.length ≤ es.length)) (K ((wt, dy, seg 0 (ts.length) ts, seg 0 (es.length) es, true, ()), (), ([], [], [], [], (0 : Int), [], [], ()), (31 : Int), ())))) (req (inR IntKind.i64
 ((↑(ts.length) : Int) + (↑(ps.length) : Int))) (fork (!decide ((↑(ts.length) : Int) + (↑(ps.length) : Int) ≤ (256 : Int))) (req (decide (0 + ts.length ≤ ts.length)) (req (decide (0 + es.length ≤ es.length)) (K ((wt, dy,
 seg 0 (ts.length) ts, seg 0 (es.length) es, true, ()), (), ([], [], [], [], (0 : Int), [], [], ()), (6 : Int), ())))) (req (decide (Int.toNat (r - 1) < ts.length)) (∀ (ys : List (Ty.den T6)), ys = List.set ts (Int.toNat
 (r - 1)) ((List.getD ts (Int.toNat (r - 1)) (0, [], 0, [], 0, 0)).1, ((List.getD ts (Int.toNat (r - 1)) (0, [], 0, [], 0, 0)).2).1, (3 : Int), (((List.getD ts (Int.toNat (r - 1)) (0, [], 0, [], 0, 0)).2).2).2) → req
 (decide (Int.toNat (r - 1) < ys.length)) (∀ (ys_1 : List (Ty.den T6)), ys_1 = List.set ys (Int.toNat (r - 1)) ((List.getD ys (Int.toNat (r - 1)) (0, [], 0, [], 0, 0)).1, ((List.getD ys (Int.toNat (r - 1)) (0, [], 0, [],
 0, 0)).2).1, (((List.getD ys (Int.toNat (r - 1)) (0, [], 0, [], 0, 0)).2).2).1, ((((List.getD ys (Int.toNat (r - 1)) (0, [], 0, [], 0, 0)).2).2).2).1, (0 : Int), (((((List.getD ys (Int.toNat (r - 1)) (0, [], 0, [], 0,
 0)).2).2).2).2).2) → req (decide (Int.toNat (r - 1) < ys_1.length)) (req (decide (0 + ts.length ≤ ys_1.length)) (req (decide (ts.length = ts.length)) (req (decide (es.length = es.length)) ((ps = ps ∧ (↑(ps.length) : Int)
 = (↑(ps.length) : SV.den (SV.slot 96 (SV.v I))) ∧ (0 : SV.den (SV.slot 97 (SV.v I))) ≤ (0 : Int) ∧ (0 : Int) ≤ (↑(ps.length) : SV.den (SV.slot 97 (SV.v I))) ∧ ps.length ≤ 4 ∧ eds.length = ps.length ∧ List.all eds (inB (0
 : Int)) = true ∧ (↑(List.length (seg 0 (ts.length) ys_1)) : Int) + ((↑(ps.length) : Int) - 0) ≤ (256 : Int) ∧ (0 : Int) ≤ (0 : Int)) ∧ req (inR IntKind.i64 ((↑(List.length (addsI (seg 0 (ts.length) ys_1) ps eds
 ((List.getD ys_1 (Int.toNat (r - 1)) (0, [], 0, [], 0, 0)).1) (ps.length) 0)) : Int) - (↑(ts.length) : Int))) (fork (decide ((↑(List.length (addsI (seg 0 (ts.length) ys_1) ps eds ((List.getD ys_1 (Int.toNat (r - 1)) (0,
 [], 0, [], 0, 0)).1) (ps.length) 0)) : Int) - (↑(ts.length) : Int) > (0 : Int))) (req (decide (0 + es.length ≤ es.length)) (req (fitsN (es.length + 1) 40) (∀ (ys : List (Ty.den (Ty.pr (Ty.i IntKind.i64) (Ty.pr (Ty.i
 IntKind.i64) (Ty.pr (Ty.i IntKind.i64) (Ty.pr (Ty.i IntKind.i64) (Ty.i IntKind.i64))))))), ys = seg 0 (es.length) es ++ [((5 : SV.den (SV.v I)), d, r, (↑(List.length (addsI (seg 0 (ts.length) ys_1) ps eds ((List.getD ys_1
 (Int.toNat (r - 1)) (0, [], 0, [], 0, 0)).1) (ps.length) 0)) : Int), (↑(List.length (addsI (seg 0 (ts.length) ys_1) ps eds ((List.getD ys_1 (Int.toNat (r - 1)) (0, [], 0, [], 0, 0)).1) (ps.length) 0)) : Int) -
 (↑(ts.length) : Int))] → req (decide (0 + List.length (addsI (seg 0 (ts.length) ys_1) ps eds ((List.getD ys_1 (Int.toNat (r - 1)) (0, [], 0, [], 0, 0)).1) (ps.length) 0) ≤ List.length (addsI (seg 0 (ts.length) ys_1) ps
 eds ((List.getD ys_1 (Int.toNat (r - 1)) (0, [], 0, [], 0, 0)).1) (ps.length) 0))) (req (decide (0 + (es.length + 1) ≤ ys.length)) (req (decide (0 + List.length ([] ++ codesI (ps.length) ((↑(List.length (seg 0 (ts.length)
 ys_1)) : Int) + 1)) ≤ List.length ([] ++ codesI (ps.length) ((↑(List.length (seg 0 (ts.length) ys_1)) : Int) + 1)))) (K ((wt, d, seg 0 (List.length (addsI (seg 0 (ts.length) ys_1) ps eds ((List.getD ys_1 (Int.toNat (r -
 1)) (0, [], 0, [], 0, 0)).1) (ps.length) 0)) (addsI (seg 0 (ts.length) ys_1) ps eds ((List.getD ys_1 (Int.toNat (r - 1)) (0, [], 0, [], 0, 0)).1) (ps.length) 0), seg 0 (es.length + 1) ys, true, ()), (), (c, h, ps, eds, d,
 seg 0 (List.length ([] ++ codesI (ps.length) ((↑(List.length (seg 0 (ts.length) ys_1)) : Int) + 1))) ([] ++ codesI (ps.length) ((↑(List.length (seg 0 (ts.length) ys_1)) : Int) + 1)), [], ()), (0 : Int), ()))))))) (req
 (decide (0 + es.length ≤ es.length)) (req (fitsN (es.length + 1) 40) (∀ (ys : List (Ty.den (Ty.pr (Ty.i IntKind.i64) (Ty.pr (Ty.i IntKind.i64) (Ty.pr (Ty.i IntKind.i64) (Ty.pr (Ty.i IntKind.i64) (Ty.i IntKind.i64))))))),
 ys = seg 0 (es.length) es ++ [((5 : SV.den (SV.v I)), d, r, (0 : Int), (0 : Int))] → req (decide (0 + List.length (addsI (seg 0 (ts.length) ys_1) ps eds ((List.getD ys_1 (Int.toNat (r - 1)) (0, [], 0, [], 0, 0)).1)
 (ps.length) 0) ≤ List.length (addsI (seg 0 (ts.length) ys_1) ps eds ((List.getD ys_1 (Int.toNat (r - 1)) (0, [], 0, [], 0, 0)).1) (ps.length) 0))) (req (decide (0 + (es.length + 1) ≤ ys.length)) (req (decide (0 +
 List.length ([] ++ codesI (ps.length) ((↑(List.length (seg 0 (ts.length) ys_1)) : Int) + 1)) ≤ List.length ([] ++ codesI (ps.length) ((↑(List.length (seg 0 (ts.length) ys_1)) : Int) + 1)))) (K ((wt, d, seg 0 (List.length
 (addsI (seg 0 (ts.length) ys_1) ps eds ((List.getD ys_1 (Int.toNat (r - 1)) (0, [], 0, [], 0, 0)).1) (ps.length) 0)) (addsI (seg 0 (ts.length) ys_1) ps eds ((List.getD ys_1 (Int.toNat (r - 1)) (0, [], 0, [], 0, 0)).1)
 (ps.length) 0), seg 0 (es.length + 1) ys, true, ()), (), (c, h, ps, eds, d, seg 0 (List.length ([] ++ codesI (ps.length) ((↑(List.length (seg 0 (ts.length) ys_1)) : Int) + 1))) ([] ++ codesI (ps.length) ((↑(List.length
 (seg 0 (ts.length) ys_1)) : Int) + 1)), [], ()), (0 : Int), ())))))))))))))))))) (req (decide (0 + ts.length ≤ ts.length)) (req (decide (0 + es.length ≤ es.length)) (K ((wt, dy, seg 0 (ts.length) ts, seg 0 (es.length) es,
 true, ()), (), ([], [], [], [], (0 : Int), [], [], ()), (31 : Int), ()))))) ∧ (newsB (rT ts) ps (ps.length) 0 = false → req (decide (0 + ts.length ≤ ts.length)) (req (decide (0 + es.length ≤ es.length)) (K ((wt, dy, seg 0
 (ts.length) ts, seg 0 (es.length) es, true, ()), (), ([], [], [], [], (0 : Int), [], [], ()), (33 : Int), ()))))))))))))))))))))))) (req (decide (0 + ts.length ≤ ts.length)) (req (decide (0 + es.length ≤ es.length)) (K
 ((wt, dy, seg 0 (ts.length) ts, seg 0 (es.length) es, true, ()), (), ([], [], [], [], (0 : Int), [], [], ()), (34 : Int), ()))))))) := by kernel_rfl
end Go.P3
