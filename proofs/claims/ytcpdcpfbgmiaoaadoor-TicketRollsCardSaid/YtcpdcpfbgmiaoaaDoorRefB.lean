/- Rolls by the reference: to divide, what can be asked, calls of the statements, TicketRolls: states and what is to be shown, reduced. No conditions. -/
import Derived.Test.YtcpdcpfbgmiaoaaDoorRefA
set_option linter.unusedSimpArgs false
set_option linter.unusedVariables false
set_option linter.constructorNameAsVariable false
set_option maxRecDepth 100000
set_option maxHeartbeats 2000000
namespace Go.P3
open Go.Lom Go.Proofs Go

abbrev sh39 : SV := S [(0, .v LT), (1, .v .s), (5, .v I)]
abbrev lc39 : LC2 := ⟨0, sh39, 0, fun (l, s, i, _) Q => sIx (fun t => decide (t = s)) l l.length i Q⟩
theorem v39L (l : List Tx) (s : Tx) (i : Int) (Q : AX → St → Prop) : (xloop2 Tryd.prog {} 5 39 0 lc39 ex141 (fun (l, _, i, _) => mL l i) (l, s, i, ()) Q) =
  (fork (decide (i < (↑(l.length) : Int))) (req (decide ((0 : Int) ≤ i ∧ i < (↑(l.length) : Int))) (fork (List.getD l (Int.toNat i) [] == s) (Q AX.ret (stS 0 shR4i (i, ()))) (req (inR IntKind.i64 (i + 1)) (mL l (i + 1) < mL
 l i ∧ LC2.spec lc39 (l, s, i + 1, ()) Q)))) (Q (AX.exit 0) (stS 0 SV.nil ()))) := by kernel_rfl
abbrev fcSeekT : FC := ⟨[.v LT, .v .s], [I], fun x K => x.1.length ≤ big ∧ ∀ r : Int, r = firstIx (fun t => decide (t = x.2.1)) x.1 0 → K (r, ())⟩
theorem v39F (l : List Tx) (s : Tx) (K : dens [I] → Prop) : (xfn1 Tryd.prog { l2 := [(39, 0, lc39)] } 5 39 fcSeekT (l, s, ()) K) =
  (((0 : Int) ≤ (0 : Int) ∧ (0 : Int) ≤ (↑(l.length) : Int) ∧ (↑(l.length) : Int) = (↑(l.length) : Int) ∧ l.length ≤ 9223372036854775807) ∧ ((List.any (List.drop 0 l) fun t => decide (t = s)) = false → K ((-1 : Int), ())) ∧
 ((List.any (List.drop 0 l) fun t => decide (t = s)) = true → K (firstIx (fun t => decide (t = s)) (List.drop 0 l) (0 : Int), ()))) := by kernel_rfl
/-! to divide -/
abbrev sh73a : SV := S [(0, .box 0 refL), (3, .v LT), (4, .v LL), (5, .v I), (14, .v I), (16, .v .b), (17, .v I)]
abbrev sh73ae : SV := S [(0, .box 0 refL), (3, .v LT), (4, .v LL), (5, .v I), (14, .v I), (16, .v .b)]
abbrev lc73a : LC2 := ⟨3, sh73a, 3, fun (r, ps, eds, d, i, ok, k, _) Q => (0 ≤ k ∧ (ok = true → k ≤ ps.length) ∧ r.2.2.1.length ≤ 256 ∧ (∀ p ∈ ps, p.length ≤ big) ∧ ps.length ≤ big) ∧
  ∀ b : Bool, b = (ok && newsB (rT r.2.2.1) ps (ps.length - k.toNat) k.toNat) → Q (.exit 0) (stS 3 sh73ae (r, ps, eds, d, i, b, ()))⟩
theorem v73A (w d0 d i k : Int) (ts : List Tk) (es : List Ev) (ps : List Tx) (eds : List (List Int)) (ok : Bool) (Q : AX → St → Prop) : (xloop2 Tryd.prog { f := [(39, fcSeekT)], f2 := [(91, fcNewW)] } 5 73 0 lc73a (fun _ => some (sh73ae, 3)) (fun (_, ps, _, _, _, _, k, _) => mL ps k) ((w, d0, ts, es, ()), ps, eds, d, i, ok, k, ()) Q) =
  (fork ok (fork (decide (k < (↑(ps.length) : Int))) (req (decide ((0 : Int) ≤ k ∧ k < (↑(ps.length) : Int))) (req (decide (ts.length = ts.length)) (req (decide (es.length = es.length)) ((ts.length ≤ 256 ∧ List.length
 (List.getD ps (Int.toNat k) []) ≤ 9223372036854775807) ∧ ∀ (b : Bool), b = (wordB (List.getD ps (Int.toNat k) []) && !List.any ts (named (List.getD ps (Int.toNat k) []))) → fork b (req (decide ((0 : Int) ≤ k ∧ k <
 (↑(ps.length) : Int))) (ps.length ≤ 9223372036854775807 ∧ ∀ (r : Int), r = firstIx (fun t => decide (t = List.getD ps (Int.toNat k) [])) ps (0 : Int) → req (inR IntKind.i64 (k + 1)) (req (decide (ts.length = ts.length))
 (req (decide (es.length = es.length)) (mL ps (k + 1) < mL ps k ∧ LC2.spec lc73a ((w, d0, ts, es, ()), ps, eds, d, i, r == k, k + 1, ()) Q))))) (req (inR IntKind.i64 (k + 1)) (req (decide (ts.length = ts.length)) (req
 (decide (es.length = es.length)) (mL ps (k + 1) < mL ps k ∧ LC2.spec lc73a ((w, d0, ts, es, ()), ps, eds, d, i, false, k + 1, ()) Q)))))))) (req (decide (ts.length = ts.length)) (req (decide (es.length = es.length)) (Q
 (AX.exit 0) (stS 3 sh73ae ((w, d0, ts, es, ()), ps, eds, d, i, ok, ())))))) (req (decide (ts.length = ts.length)) (req (decide (es.length = es.length)) (Q (AX.exit 0) (stS 3 sh73ae ((w, d0, ts, es, ()), ps, eds, d, i, ok,
 ())))))) := by kernel_rfl
abbrev sh73b : SV := S [(0, .box 0 refL), (3, .v LT), (4, .v LL), (5, .v I), (14, .v I), (16, .v .b), (18, .v I)]
abbrev lc73b : LC2 := ⟨3, sh73b, 3, fun (r, ps, eds, d, i, ok, k, _) Q => (0 ≤ k ∧ (ok = true → k ≤ eds.length) ∧ eds.length ≤ big) ∧
  ∀ b : Bool, b = (ok && allE eds k) → Q (.exit 2) (stS 3 sh73ae (r, ps, eds, d, i, b, ()))⟩
theorem v73B (w d0 d i k : Int) (ts : List Tk) (es : List Ev) (ps : List Tx) (eds : List (List Int)) (ok : Bool) (Q : AX → St → Prop) : (xloop2 Tryd.prog { f := [(60, fcEdge 0)] } 5 73 1 lc73b (fun _ => some (sh73ae, 3)) (fun (_, _, eds, _, _, _, k, _) => mL eds k) ((w, d0, ts, es, ()), ps, eds, d, i, ok, k, ()) Q) =
  (fork ok (fork (decide (k < (↑(eds.length) : Int))) (req (decide ((0 : Int) ≤ k ∧ k < (↑(eds.length) : Int))) (req (inR IntKind.i64 (k + 1)) (req (decide (ts.length = ts.length)) (req (decide (es.length = es.length)) (mL
 eds (k + 1) < mL eds k ∧ LC2.spec lc73b ((w, d0, ts, es, ()), ps, eds, d, i, inB (0 : Int) (List.getD eds (Int.toNat k) []), k + 1, ()) Q))))) (req (decide (ts.length = ts.length)) (req (decide (es.length = es.length)) (Q
 (AX.exit 2) (stS 3 sh73ae ((w, d0, ts, es, ()), ps, eds, d, i, ok, ())))))) (req (decide (ts.length = ts.length)) (req (decide (es.length = es.length)) (Q (AX.exit 2) (stS 3 sh73ae ((w, d0, ts, es, ()), ps, eds, d, i, ok,
 ())))))) := by kernel_rfl
abbrev refO : SV := A [.v I, .v I, .own 3 T6, .lst 2 E5]
abbrev sh73c : SV := S [(0, .box 0 refO), (3, .v LT), (4, .v LL), (5, .v I), (14, .v I), (19, .own 4 .s), (20, .v I)]
abbrev sh73ce : SV := S [(0, .box 0 refO), (3, .v LT), (5, .v I), (14, .v I), (19, .own 4 .s)]
abbrev lc73c : LC2 := ⟨3, sh73c, 5, fun (r, ps, eds, d, i, cs, k, _) Q => (0 ≤ k ∧ k ≤ ps.length ∧ ps.length ≤ 4 ∧ eds.length = ps.length ∧ eds.all (inB 0) = true ∧ (r.2.2.1.length : Int) + (ps.length - k) ≤ 256 ∧ (cs.length : Int) ≤ k ∧ 0 ≤ i ∧ i ≤ 256) ∧
  Q (.exit 4) (stS 5 sh73ce ((r.1, r.2.1, addsI r.2.2.1 ps eds (i + 1) (ps.length - k.toNat) k.toNat, r.2.2.2), ps, d, i, cs ++ codesI (ps.length - k.toNat) ((r.2.2.1.length : Int) + 1), ()))⟩
theorem v73C (w d0 d i k : Int) (ts : List Tk) (es : List Ev) (ps : List Tx) (eds : List (List Int)) (cs : List Tx) (Q : AX → St → Prop) : (xloop2 Tryd.prog { nm := true, f := [(106, fcId), (51, fcCodeX)] } 5 73 2 lc73c (fun _ => some (sh73ce, 5)) (fun (_, ps, _, _, _, _, k, _) => mL ps k) ((w, d0, ts, es, ()), ps, eds, d, i, cs, k, ()) Q) =
  (fork (decide (k < (↑(ps.length) : Int))) (req (decide ((0 : Int) ≤ k ∧ k < (↑(ps.length) : Int))) (req (decide ((0 : Int) ≤ k ∧ k < (↑(eds.length) : Int))) (req (inR IntKind.i64 (i + 1)) (req (inR IntKind.i64
 ((↑(ts.length) : Int) + 1)) (List.length (List.getD eds (Int.toNat k) []) ≤ 100 ∧ ∀ (r : List Int), r = List.getD eds (Int.toNat k) [] → AV.sl 3 6 0 (ts.length) none = AV.sl 3 6 0 (ts.length) none ∧ AV.sl 3 6 0
 (ts.length) none = AV.sl 3 6 0 (ts.length) none ∧ req (decide (0 + ts.length ≤ ts.length)) (req (fitsN (ts.length + 1) 72) (∀ (ys : List (Ty.den (Ty.pr (Ty.i IntKind.i64) (Ty.pr Ty.s (Ty.pr (Ty.i IntKind.i64) (Ty.pr
 (Ty.sl (Ty.i IntKind.i64)) (Ty.pr (Ty.i IntKind.i64) (Ty.i IntKind.i64)))))))), ys = seg 0 (ts.length) ts ++ [((↑(ts.length) : Int) + 1, List.getD ps (Int.toNat k) [], (1 : Int), r, (0 : Int), i + 1)] → ((0 : AT.den (AT.v
 I)) ≤ (↑(ts.length) : Int) + 1 ∧ (↑(ts.length) : Int) + 1 ≤ (99999999 : AT.den (AT.v I))) ∧ ∀ (s : Tx), s = codeS ((↑(ts.length) : Int) + 1) → req (decide (0 + cs.length ≤ cs.length)) (req (fitsN (cs.length + 1) 16) (∀
 (ys_1 : List (Ty.den Ty.s)), ys_1 = seg 0 (cs.length) cs ++ [s] → req (inR IntKind.i64 (k + 1)) (req (decide (0 + (ts.length + 1) ≤ ys.length)) (req (decide (es.length = es.length)) (req (decide (0 + (cs.length + 1) ≤
 ys_1.length)) (mL ps (k + 1) < mL ps k ∧ LC2.spec lc73c ((w, d0, seg 0 (ts.length + 1) ys, es, ()), ps, eds, d, i, seg 0 (cs.length + 1) ys_1, k + 1, ()) Q))))))))))))) (req (decide (0 + ts.length ≤ ts.length)) (req
 (decide (es.length = es.length)) (req (decide (0 + cs.length ≤ cs.length)) (Q (AX.exit 4) (stS 5 sh73ce ((w, d0, seg 0 (ts.length) ts, es, ()), ps, d, i, seg 0 (cs.length) cs, ()))))))) := by kernel_rfl
abbrev fcRV : FC2 := ⟨A [.box 0 (refC 1 2), .v .s, .v L, .v LT, .v LL, .v I], 3, A [.box 0 (refC 3 4), .any, .any, .any, .any, .any, .v LT, .v I], 5, fun ((w, d0, ts, es, _), c, h, ps, eds, d, _) K => (okR (w, d0, ts, es) ∧ roomy es ∧ (∀ p ∈ ps, p.length ≤ big) ∧ ps.length ≤ big ∧ eds.length ≤ big) ∧
  ∀ (w1 d1 : Int) (ts1 : List Tk) (es1 : List Ev) (x : List Tx) (e : Int), ((w1, d1, ts1, es1), x, e) = divideI (w, d0, ts, es) c h ps eds d → K ((w1, d1, ts1, es1, ()), (), (), (), (), (), x, e, ())⟩
theorem v73F (w d0 d : Int) (ts : List Tk) (es : List Ev) (c : Tx) (h : List Int) (ps : List Tx) (eds : List (List Int)) (K : fcRV.post.den → Prop) : (xfn2 Tryd.prog { TR with l2 := [(73, 0, lc73a), (73, 1, lc73b), (73, 2, lc73c)] } 6 73 fcRV ((w, d0, ts, es, ()), c, h, ps, eds, d, ()) K) =
  (req (decide (ts.length = ts.length)) (req (decide (es.length = es.length)) (okR (w, d0, ts, es) ∧ ∀ (i e : Int), e = bringE (w, d0, ts, es) c d → (e = (0 : Int) → i = (numberI c).1 - 1) → fork (e != (0 : Int)) (fork (e
 != (0 : Int)) (req (decide (0 + ts.length ≤ ts.length)) (req (decide (0 + es.length ≤ es.length)) (K ((w, d0, seg 0 (ts.length) ts, seg 0 (es.length) es, ()), (), (), (), (), (), [], e, ())))) (req (decide (ts.length =
 ts.length)) (req (decide (es.length = es.length)) (((0 : SV.den (SV.slot 17 (SV.v I))) ≤ (0 : Int) ∧ (decide ((2 : Int) ≤ (↑(ps.length) : Int) ∧ (↑(ps.length) : Int) ≤ (4 : Int)) = true → (0 : Int) ≤ (↑(ps.length) :
 SV.den (SV.slot 17 (SV.v I)))) ∧ ts.length ≤ 256 ∧ (∀ (p : Ty.den Ty.s), p ∈ ps → p.length ≤ 9223372036854775807) ∧ ps.length ≤ 9223372036854775807) ∧ ∀ (b : Bool), b = (decide ((2 : Int) ≤ (↑(ps.length) : Int) ∧
 (↑(ps.length) : Int) ≤ (4 : Int)) && newsB (rT ts) ps (ps.length) 0) → fork (!b) (req (decide (0 + ts.length ≤ ts.length)) (req (decide (0 + es.length ≤ es.length)) (K ((w, d0, seg 0 (ts.length) ts, seg 0 (es.length) es,
 ()), (), (), (), (), (), [], (33 : Int), ())))) (req (decide (ts.length = ts.length)) (req (decide (es.length = es.length)) (((0 : SV.den (SV.slot 18 (SV.v I))) ≤ (0 : Int) ∧ (((↑(eds.length) : Int) == (↑(ps.length) :
 Int)) = true → (0 : Int) ≤ (↑(eds.length) : SV.den (SV.slot 18 (SV.v I)))) ∧ eds.length ≤ 9223372036854775807) ∧ ∀ (b : Bool), b = ((↑(eds.length) : Int) == (↑(ps.length) : Int) && allE eds (0 : Int)) → fork (!b) (req
 (decide (0 + ts.length ≤ ts.length)) (req (decide (0 + es.length ≤ es.length)) (K ((w, d0, seg 0 (ts.length) ts, seg 0 (es.length) es, ()), (), (), (), (), (), [], (31 : Int), ())))) (req (inR IntKind.i64 ((↑(ts.length) :
 Int) + (↑(ps.length) : Int))) (fork (decide ((↑(ts.length) : Int) + (↑(ps.length) : Int) > (256 : Int))) (req (decide (0 + ts.length ≤ ts.length)) (req (decide (0 + es.length ≤ es.length)) (K ((w, d0, seg 0 (ts.length)
 ts, seg 0 (es.length) es, ()), (), (), (), (), (), [], (6 : Int), ())))) (req (decide ((0 : Int) ≤ (0 : Int) ∧ (0 : Int) < (↑(ts.length) : Int))) (req (decide (0 < ts.length)) (req (decide ((0 : Int) ≤ (0 : Int) ∧ (0 :
 Int) < (↑(ts.length) : Int))) (req (decide (0 < ts.length)) (∀ (ys : List (Ty.den T6)), ys = List.set ts 0 ((List.getD ts 0 (0, [], 0, [], 0, 0)).1, (List.getD ts 0 (0, [], 0, [], 0, 0)).2.1, (3 : Int), (List.getD ts 0
 (0, [], 0, [], 0, 0)).2.2.2.1, (0 : Int), (List.getD ts 0 (0, [], 0, [], 0, 0)).2.2.2.2.2) → req (decide (0 + ts.length ≤ ys.length)) (req (decide (es.length = es.length)) (((0 : SV.den (SV.slot 20 (SV.v I))) ≤ (0 : Int)
 ∧ (0 : Int) ≤ (↑(ps.length) : SV.den (SV.slot 20 (SV.v I))) ∧ ps.length ≤ 4 ∧ eds.length = ps.length ∧ List.all eds (inB (0 : Int)) = true ∧ (↑(List.length (seg 0 (ts.length) ys)) : Int) + ((↑(ps.length) : Int) - 0) ≤
 (256 : Int) ∧ (0 : Int) ≤ (0 : Int) ∧ (0 : SV.den (SV.slot 14 (SV.v I))) ≤ (0 : Int) ∧ (0 : Int) ≤ (256 : SV.den (SV.slot 14 (SV.v I)))) ∧ req (inR IntKind.i64 (1 : Int)) (fork (decide ((↑(ps.length) : Int) > (0 : Int)))
 (AV.sl 2 5 0 (es.length) none = AV.sl 2 5 0 (es.length) none ∧ req (decide (0 + es.length ≤ es.length)) (req (fitsN (es.length + 1) 40) (∀ (ys_1 : List (Ty.den (Ty.pr (Ty.i IntKind.i64) (Ty.pr (Ty.i IntKind.i64) (Ty.pr
 (Ty.i IntKind.i64) (Ty.pr (Ty.i IntKind.i64) (Ty.i IntKind.i64))))))), ys_1 = seg 0 (es.length) es ++ [((5 : Int), d, (1 : Int), (↑(List.length (addsI (seg 0 (ts.length) ys) ps eds ((0 : Int) + 1) (ps.length) 0)) : Int),
 (↑(ps.length) : Int))] → req (decide (0 + List.length (addsI (seg 0 (ts.length) ys) ps eds ((0 : Int) + 1) (ps.length) 0) ≤ List.length (addsI (seg 0 (ts.length) ys) ps eds ((0 : Int) + 1) (ps.length) 0))) (req (decide (0
 + (es.length + 1) ≤ ys_1.length)) (req (decide (0 + List.length ([] ++ codesI (ps.length) ((↑(List.length (seg 0 (ts.length) ys)) : Int) + 1)) ≤ List.length ([] ++ codesI (ps.length) ((↑(List.length (seg 0 (ts.length)
 ys)) : Int) + 1)))) (K ((w, d, seg 0 (List.length (addsI (seg 0 (ts.length) ys) ps eds ((0 : Int) + 1) (ps.length) 0)) (addsI (seg 0 (ts.length) ys) ps eds ((0 : Int) + 1) (ps.length) 0), seg 0 (es.length + 1) ys_1, ()),
 (), (), (), (), (), seg 0 (List.length ([] ++ codesI (ps.length) ((↑(List.length (seg 0 (ts.length) ys)) : Int) + 1))) ([] ++ codesI (ps.length) ((↑(List.length (seg 0 (ts.length) ys)) : Int) + 1)), (0 : Int), ())))))))
 (AV.sl 2 5 0 (es.length) none = AV.sl 2 5 0 (es.length) none ∧ req (decide (0 + es.length ≤ es.length)) (req (fitsN (es.length + 1) 40) (∀ (ys_1 : List (Ty.den (Ty.pr (Ty.i IntKind.i64) (Ty.pr (Ty.i IntKind.i64) (Ty.pr
 (Ty.i IntKind.i64) (Ty.pr (Ty.i IntKind.i64) (Ty.i IntKind.i64))))))), ys_1 = seg 0 (es.length) es ++ [((5 : Int), d, (1 : Int), (0 : Int), (↑(ps.length) : Int))] → req (decide (0 + List.length (addsI (seg 0 (ts.length)
 ys) ps eds ((0 : Int) + 1) (ps.length) 0) ≤ List.length (addsI (seg 0 (ts.length) ys) ps eds ((0 : Int) + 1) (ps.length) 0))) (req (decide (0 + (es.length + 1) ≤ ys_1.length)) (req (decide (0 + List.length ([] ++ codesI
 (ps.length) ((↑(List.length (seg 0 (ts.length) ys)) : Int) + 1)) ≤ List.length ([] ++ codesI (ps.length) ((↑(List.length (seg 0 (ts.length) ys)) : Int) + 1)))) (K ((w, d, seg 0 (List.length (addsI (seg 0 (ts.length) ys)
 ps eds ((0 : Int) + 1) (ps.length) 0)) (addsI (seg 0 (ts.length) ys) ps eds ((0 : Int) + 1) (ps.length) 0), seg 0 (es.length + 1) ys_1, ()), (), (), (), (), (), seg 0 (List.length ([] ++ codesI (ps.length) ((↑(List.length
 (seg 0 (ts.length) ys)) : Int) + 1))) ([] ++ codesI (ps.length) ((↑(List.length (seg 0 (ts.length) ys)) : Int) + 1)), (0 : Int), ())))))))))))))))))))))))) (req (decide ((0 : Int) ≤ i ∧ i < (↑(ts.length) : Int))) (req
 (decide (Int.toNat i < ts.length)) (fork ((List.getD ts (Int.toNat i) (0, [], 0, [], 0, 0)).2.2.1 == (2 : Int)) (req (decide (0 + ts.length ≤ ts.length)) (req (decide (0 + es.length ≤ es.length)) (K ((w, d0, seg 0
 (ts.length) ts, seg 0 (es.length) es, ()), (), (), (), (), (), [], (36 : Int), ())))) (req (decide ((0 : Int) ≤ i ∧ i < (↑(ts.length) : Int))) (req (decide (Int.toNat i < ts.length)) (∀ (n e : Int), (n, e) = fitE
 ((List.getD ts (Int.toNat i) (0, [], 0, [], 0, 0)).2.2.2.1) h → fork (e != (0 : Int)) (req (decide (0 + ts.length ≤ ts.length)) (req (decide (0 + es.length ≤ es.length)) (K ((w, d0, seg 0 (ts.length) ts, seg 0 (es.length)
 es, ()), (), (), (), (), (), [], e, ())))) (req (decide (ts.length = ts.length)) (req (decide (es.length = es.length)) (((0 : SV.den (SV.slot 17 (SV.v I))) ≤ (0 : Int) ∧ (decide ((2 : Int) ≤ (↑(ps.length) : Int) ∧
 (↑(ps.length) : Int) ≤ (4 : Int)) = true → (0 : Int) ≤ (↑(ps.length) : SV.den (SV.slot 17 (SV.v I)))) ∧ ts.length ≤ 256 ∧ (∀ (p : Ty.den Ty.s), p ∈ ps → p.length ≤ 9223372036854775807) ∧ ps.length ≤ 9223372036854775807) ∧
 ∀ (b : Bool), b = (decide ((2 : Int) ≤ (↑(ps.length) : Int) ∧ (↑(ps.length) : Int) ≤ (4 : Int)) && newsB (rT ts) ps (ps.length) 0) → fork (!b) (req (decide (0 + ts.length ≤ ts.length)) (req (decide (0 + es.length ≤
 es.length)) (K ((w, d0, seg 0 (ts.length) ts, seg 0 (es.length) es, ()), (), (), (), (), (), [], (33 : Int), ())))) (req (decide (ts.length = ts.length)) (req (decide (es.length = es.length)) (((0 : SV.den (SV.slot 18
 (SV.v I))) ≤ (0 : Int) ∧ (((↑(eds.length) : Int) == (↑(ps.length) : Int)) = true → (0 : Int) ≤ (↑(eds.length) : SV.den (SV.slot 18 (SV.v I)))) ∧ eds.length ≤ 9223372036854775807) ∧ ∀ (b : Bool), b = ((↑(eds.length) : Int)
 == (↑(ps.length) : Int) && allE eds (0 : Int)) → fork (!b) (req (decide (0 + ts.length ≤ ts.length)) (req (decide (0 + es.length ≤ es.length)) (K ((w, d0, seg 0 (ts.length) ts, seg 0 (es.length) es, ()), (), (), (), (),
 (), [], (31 : Int), ())))) (req (inR IntKind.i64 ((↑(ts.length) : Int) + (↑(ps.length) : Int))) (fork (decide ((↑(ts.length) : Int) + (↑(ps.length) : Int) > (256 : Int))) (req (decide (0 + ts.length ≤ ts.length)) (req
 (decide (0 + es.length ≤ es.length)) (K ((w, d0, seg 0 (ts.length) ts, seg 0 (es.length) es, ()), (), (), (), (), (), [], (6 : Int), ())))) (req (decide ((0 : Int) ≤ i ∧ i < (↑(ts.length) : Int))) (req (decide (Int.toNat
 i < ts.length)) (req (decide ((0 : Int) ≤ i ∧ i < (↑(ts.length) : Int))) (req (decide (Int.toNat i < ts.length)) (∀ (ys : List (Ty.den T6)), ys = List.set ts (Int.toNat i) ((List.getD ts (Int.toNat i) (0, [], 0, [], 0,
 0)).1, (List.getD ts (Int.toNat i) (0, [], 0, [], 0, 0)).2.1, (3 : Int), (List.getD ts (Int.toNat i) (0, [], 0, [], 0, 0)).2.2.2.1, (0 : Int), (List.getD ts (Int.toNat i) (0, [], 0, [], 0, 0)).2.2.2.2.2) → req (decide (0
 + ts.length ≤ ys.length)) (req (decide (es.length = es.length)) (((0 : SV.den (SV.slot 20 (SV.v I))) ≤ (0 : Int) ∧ (0 : Int) ≤ (↑(ps.length) : SV.den (SV.slot 20 (SV.v I))) ∧ ps.length ≤ 4 ∧ eds.length = ps.length ∧
 List.all eds (inB (0 : Int)) = true ∧ (↑(List.length (seg 0 (ts.length) ys)) : Int) + ((↑(ps.length) : Int) - 0) ≤ (256 : Int) ∧ (0 : Int) ≤ (0 : Int) ∧ (0 : SV.den (SV.slot 14 (SV.v I))) ≤ i ∧ i ≤ (256 : SV.den (SV.slot
 14 (SV.v I)))) ∧ req (inR IntKind.i64 (i + 1)) (fork (decide ((↑(ps.length) : Int) > (0 : Int))) (AV.sl 2 5 0 (es.length) none = AV.sl 2 5 0 (es.length) none ∧ req (decide (0 + es.length ≤ es.length)) (req (fitsN
 (es.length + 1) 40) (∀ (ys_1 : List (Ty.den (Ty.pr (Ty.i IntKind.i64) (Ty.pr (Ty.i IntKind.i64) (Ty.pr (Ty.i IntKind.i64) (Ty.pr (Ty.i IntKind.i64) (Ty.i IntKind.i64))))))), ys_1 = seg 0 (es.length) es ++ [((5 : Int), d,
 i + 1, (↑(List.length (addsI (seg 0 (ts.length) ys) ps eds (i + 1) (ps.length) 0)) : Int), (↑(ps.length) : Int))] → req (decide (0 + List.length (addsI (seg 0 (ts.length) ys) ps eds (i + 1) (ps.length) 0) ≤ List.length
 (addsI (seg 0 (ts.length) ys) ps eds (i + 1) (ps.length) 0))) (req (decide (0 + (es.length + 1) ≤ ys_1.length)) (req (decide (0 + List.length ([] ++ codesI (ps.length) ((↑(List.length (seg 0 (ts.length) ys)) : Int) + 1))
 ≤ List.length ([] ++ codesI (ps.length) ((↑(List.length (seg 0 (ts.length) ys)) : Int) + 1)))) (K ((w, d, seg 0 (List.length (addsI (seg 0 (ts.length) ys) ps eds (i + 1) (ps.length) 0)) (addsI (seg 0 (ts.length) ys) ps
 eds (i + 1) (ps.length) 0), seg 0 (es.length + 1) ys_1, ()), (), (), (), (), (), seg 0 (List.length ([] ++ codesI (ps.length) ((↑(List.length (seg 0 (ts.length) ys)) : Int) + 1))) ([] ++ codesI (ps.length) ((↑(List.length
 (seg 0 (ts.length) ys)) : Int) + 1)), (0 : Int), ()))))))) (AV.sl 2 5 0 (es.length) none = AV.sl 2 5 0 (es.length) none ∧ req (decide (0 + es.length ≤ es.length)) (req (fitsN (es.length + 1) 40) (∀ (ys_1 : List (Ty.den
 (Ty.pr (Ty.i IntKind.i64) (Ty.pr (Ty.i IntKind.i64) (Ty.pr (Ty.i IntKind.i64) (Ty.pr (Ty.i IntKind.i64) (Ty.i IntKind.i64))))))), ys_1 = seg 0 (es.length) es ++ [((5 : Int), d, i + 1, (0 : Int), (↑(ps.length) : Int))] →
 req (decide (0 + List.length (addsI (seg 0 (ts.length) ys) ps eds (i + 1) (ps.length) 0) ≤ List.length (addsI (seg 0 (ts.length) ys) ps eds (i + 1) (ps.length) 0))) (req (decide (0 + (es.length + 1) ≤ ys_1.length)) (req
 (decide (0 + List.length ([] ++ codesI (ps.length) ((↑(List.length (seg 0 (ts.length) ys)) : Int) + 1)) ≤ List.length ([] ++ codesI (ps.length) ((↑(List.length (seg 0 (ts.length) ys)) : Int) + 1)))) (K ((w, d, seg 0
 (List.length (addsI (seg 0 (ts.length) ys) ps eds (i + 1) (ps.length) 0)) (addsI (seg 0 (ts.length) ys) ps eds (i + 1) (ps.length) 0), seg 0 (es.length + 1) ys_1, ()), (), (), (), (), (), seg 0 (List.length ([] ++ codesI
 (ps.length) ((↑(List.length (seg 0 (ts.length) ys)) : Int) + 1))) ([] ++ codesI (ps.length) ((↑(List.length (seg 0 (ts.length) ys)) : Int) + 1)), (0 : Int), ())))))))))))))))))))))))))))))))) := by kernel_rfl
/-! Live, Line -/
abbrev sh76 : SV := S [(0, .box 0 refL), (1, .v .s), (6, .v I)]
abbrev sh76e : SV := SB [] (A [.blk 0 refL])
abbrev sh76r : SV := SB [(4, .v .s), (5, .v I)] (A [.blk 0 refL])
def ex76 : Ex2
  | .ret => some (sh76r, 3)
  | _ => some (sh76e, 3)
abbrev lc76 : LC2 := ⟨3, sh76, 3, fun (r, p, i, _) Q => (0 ≤ i ∧ i ≤ r.2.2.1.length ∧ r.2.2.1.length ≤ 256 ∧ ∀ t ∈ r.2.2.1, 0 ≤ t.1 ∧ t.1 ≤ 99999999) ∧
  ((r.2.2.1.drop i.toNat).any (fun t => named p t && liveB t) = false → Q (.exit 0) (stS 3 sh76e (r, ()))) ∧
  ((r.2.2.1.drop i.toNat).any (fun t => named p t && liveB t) = true → Q .ret (stS 3 sh76r ((liveK (r.2.2.1.drop i.toNat) p).1, 0, r, ())))⟩
theorem v76L (w d0 : Int) (ts : List Tk) (es : List Ev) (p : Tx) (i : Int) (Q : AX → St → Prop) : (xloop2 Tryd.prog { f := [(51, fcCodeX)] } 5 76 0 lc76 ex76 (fun (r, _, i, _) => mL r.2.2.1 i) ((w, d0, ts, es, ()), p, i, ()) Q) =
  (fork (decide (i < (↑(ts.length) : Int))) (req (decide ((0 : Int) ≤ i ∧ i < (↑(ts.length) : Int))) (req (decide (Int.toNat i < ts.length)) (fork ((List.getD ts (Int.toNat i) (0, [], 0, [], 0, 0)).2.1 == p) (fork
 ((List.getD ts (Int.toNat i) (0, [], 0, [], 0, 0)).2.2.1 == (1 : Int)) (((0 : AT.den (AT.v I)) ≤ (List.getD ts (Int.toNat i) (0, [], 0, [], 0, 0)).1 ∧ (List.getD ts (Int.toNat i) (0, [], 0, [], 0, 0)).1 ≤ (99999999 :
 AT.den (AT.v I))) ∧ ∀ (s : Tx), s = codeS ((List.getD ts (Int.toNat i) (0, [], 0, [], 0, 0)).1) → req (decide (ts.length = ts.length)) (req (decide (es.length = es.length)) (Q AX.ret (stS 3 sh76r (s, (0 : Int), (w, d0,
 ts, es, ()), ()))))) (fork ((List.getD ts (Int.toNat i) (0, [], 0, [], 0, 0)).2.2.1 == (2 : Int)) (((0 : AT.den (AT.v I)) ≤ (List.getD ts (Int.toNat i) (0, [], 0, [], 0, 0)).1 ∧ (List.getD ts (Int.toNat i) (0, [], 0, [],
 0, 0)).1 ≤ (99999999 : AT.den (AT.v I))) ∧ ∀ (s : Tx), s = codeS ((List.getD ts (Int.toNat i) (0, [], 0, [], 0, 0)).1) → req (decide (ts.length = ts.length)) (req (decide (es.length = es.length)) (Q AX.ret (stS 3 sh76r
 (s, (0 : Int), (w, d0, ts, es, ()), ()))))) (req (inR IntKind.i64 (i + 1)) (req (decide (ts.length = ts.length)) (req (decide (es.length = es.length)) (mL ts (i + 1) < mL ts i ∧ LC2.spec lc76 ((w, d0, ts, es, ()), p, i +
 1, ()) Q)))))) (req (inR IntKind.i64 (i + 1)) (req (decide (ts.length = ts.length)) (req (decide (es.length = es.length)) (mL ts (i + 1) < mL ts i ∧ LC2.spec lc76 ((w, d0, ts, es, ()), p, i + 1, ()) Q))))))) (req (decide
 (ts.length = ts.length)) (req (decide (es.length = es.length)) (Q (AX.exit 0) (stS 3 sh76e ((w, d0, ts, es, ()), ())))))) := by kernel_rfl
abbrev fcRL : FC2 := ⟨A [.box 0 (refC 1 2), .v .s], 3, A [.box 0 (refC 3 4), .any, .v .s, .v I], 5, fun ((w, d0, ts, es, _), p, _) K => okR (w, d0, ts, es) ∧
  ∀ (s : Tx) (e : Int), (s, e) = liveI (w, d0, ts, es) p → K ((w, d0, ts, es, ()), (), s, e, ())⟩
theorem v76F (w d0 : Int) (ts : List Tk) (es : List Ev) (p : Tx) (K : fcRL.post.den → Prop) : (xfn2 Tryd.prog { l2 := [(76, 0, lc76)] } 5 76 fcRL ((w, d0, ts, es, ()), p, ()) K) =
  (req (decide (ts.length = ts.length)) (req (decide (es.length = es.length)) (((0 : SV.den (SV.slot 6 (SV.v I))) ≤ (0 : Int) ∧ (0 : Int) ≤ (↑(ts.length) : SV.den (SV.slot 6 (SV.v I))) ∧ ts.length ≤ 256 ∧ ∀ (t : Ty.den T6),
 t ∈ ts → (0 : Ty.den I) ≤ t.1 ∧ t.1 ≤ (99999999 : Ty.den I)) ∧ ((List.any (List.drop 0 ts) fun t => named p t && liveB t) = false → req (decide (0 + ts.length ≤ ts.length)) (req (decide (0 + es.length ≤ es.length)) (K
 ((w, d0, seg 0 (ts.length) ts, seg 0 (es.length) es, ()), (), [], (4 : Int), ())))) ∧ ((List.any (List.drop 0 ts) fun t => named p t && liveB t) = true → req (decide (0 + ts.length ≤ ts.length)) (req (decide (0 +
 es.length ≤ es.length)) (K ((w, d0, seg 0 (ts.length) ts, seg 0 (es.length) es, ()), (), (liveK (List.drop 0 ts) p).1, (0 : SV.den (SV.slot 5 (SV.v I))), ()))))))) := by kernel_rfl
abbrev sh77 : SV := S [(0, .box 0 refL), (6, .v I), (8, .own 3 I)]
abbrev sh77e : SV := SB [(8, .own 3 I)] (A [.blk 0 refL])
abbrev lc77 : LC2 := ⟨3, sh77, 4, fun (r, n, o, _) Q => (0 ≤ n ∧ n ≤ r.2.2.1.length ∧ r.2.2.1.length ≤ 256 ∧ (o.length : Int) + n ≤ 256 ∧ ∀ i : Int, 1 ≤ i → i ≤ r.2.2.1.length → 0 ≤ (tkI r.2.2.1 i).2.2.2.2.2 ∧ (tkI r.2.2.1 i).2.2.2.2.2 ≤ i - 1) ∧
  Q (.exit 0) (stS 4 sh77e (o ++ lineK r.2.2.1 n.toNat n, r, ()))⟩
theorem v77L (w d0 : Int) (ts : List Tk) (es : List Ev) (n : Int) (o : List Int) (Q : AX → St → Prop) : (xloop2 Tryd.prog { nm := true } 5 77 0 lc77 (fun _ => some (sh77e, 4)) (fun (_, n, _) => n.toNat) ((w, d0, ts, es, ()), n, o, ()) Q) =
  (fork (decide (n > (0 : Int))) (req (decide (0 + o.length ≤ o.length)) (req (fitsN (o.length + 1) 8) (∀ (ys : List (Ty.den (Ty.i IntKind.i64))), ys = seg 0 (o.length) o ++ [n] → req (inR IntKind.i64 (n - 1)) (req (decide
 ((0 : Int) ≤ n - 1 ∧ n - 1 < (↑(ts.length) : Int))) (req (decide (Int.toNat (n - 1) < ts.length)) (req (decide (ts.length = ts.length)) (req (decide (es.length = es.length)) (req (decide (0 + (o.length + 1) ≤ ys.length))
 (Int.toNat ((((((List.getD ts (Int.toNat (n - 1)) (0, [], 0, [], 0, 0)).2).2).2).2).2) < Int.toNat n ∧ LC2.spec lc77 ((w, d0, ts, es, ()), (((((List.getD ts (Int.toNat (n - 1)) (0, [], 0, [], 0, 0)).2).2).2).2).2, seg 0
 (o.length + 1) ys, ()) Q))))))))) (req (decide (0 + o.length ≤ o.length)) (req (decide (ts.length = ts.length)) (req (decide (es.length = es.length)) (Q (AX.exit 0) (stS 4 sh77e (seg 0 (o.length) o, (w, d0, ts, es, ()),
 ()))))))) := by kernel_rfl
abbrev fcRN : FC2 := ⟨A [.box 0 (refC 1 2), .v .s], 3, A [.box 0 (refC 3 4), .any, .v L, .v I], 5, fun ((w, d0, ts, es, _), p, _) K => okR (w, d0, ts, es) ∧
  ∀ (s : List Int) (e : Int), (s, e) = lineI (w, d0, ts, es) p → K ((w, d0, ts, es, ()), (), s, e, ())⟩
theorem v77F (w d0 : Int) (ts : List Tk) (es : List Ev) (p : Tx) (K : fcRN.post.den → Prop) : (xfn2 Tryd.prog { f := [(17, fcNumX)], l2 := [(77, 0, lc77)] } 5 77 fcRN ((w, d0, ts, es, ()), p, ()) K) =
  (∀ (r e : Int), (r, e) = numberI p → fork (e != (0 : Int)) (req (decide (0 + ts.length ≤ ts.length)) (req (decide (0 + es.length ≤ es.length)) (K ((w, d0, seg 0 (ts.length) ts, seg 0 (es.length) es, ()), (), [], e, ()))))
 (fork (decide (r > (↑(ts.length) : Int))) (req (decide (0 + ts.length ≤ ts.length)) (req (decide (0 + es.length ≤ es.length)) (K ((w, d0, seg 0 (ts.length) ts, seg 0 (es.length) es, ()), (), [], (4 : Int), ())))) (req
 (decide (ts.length = ts.length)) (req (decide (es.length = es.length)) (((0 : SV.den (SV.slot 6 (SV.v I))) ≤ r ∧ r ≤ (↑(ts.length) : SV.den (SV.slot 6 (SV.v I))) ∧ ts.length ≤ 256 ∧ (0 : Int) + r ≤ (256 : Int) ∧ ∀ (i :
 Int), (1 : Int) ≤ i → i ≤ (↑(ts.length) : Int) → (0 : Int) ≤ (tkI ts i).2.2.2.2.2 ∧ (tkI ts i).2.2.2.2.2 ≤ i - 1) ∧ req (decide (0 + ts.length ≤ ts.length)) (req (decide (0 + es.length ≤ es.length)) (req (decide (0 +
 List.length ([] ++ lineK ts (Int.toNat r) r) ≤ List.length ([] ++ lineK ts (Int.toNat r) r))) (K ((w, d0, seg 0 (ts.length) ts, seg 0 (es.length) es, ()), (), seg 0 (List.length ([] ++ lineK ts (Int.toNat r) r)) ([] ++
 lineK ts (Int.toNat r) r), (0 : Int), ()))))))))) := by kernel_rfl
/-! calls -/
abbrev fcDue : FC2 := ⟨A [.box 0 (refC 1 2), .v CT], 3, A [.box 0 (refC 3 4), .any, .v LT, .v L, .v I], 5, fun ((w, d0, ts, es, _), c, _) K => (okR (w, d0, ts, es) ∧ roomy es ∧ okCl c) ∧
  ∀ (w1 d1 : Int) (ts1 : List Tk) (es1 : List Ev) (tx : List Tx) (l : List Int) (e : Int), ((w1, d1, ts1, es1), tx, l, e) = callI (w, d0, ts, es) c → K ((w1, d1, ts1, es1, ()), (), tx, l, e, ())⟩
theorem v34F (w d0 : Int) (ts : List Tk) (es : List Ev) (k d : Int) (c p : Tx) (h : List Int) (ps : List Tx) (eds : List (List Int)) (K : fcDue.post.den → Prop) : (xfn2 Tryd.prog { nm := true, f2 := [(69, fcRI), (70, fcRB), (71, fcRF), (72, fcRR), (73, fcRV), (74, fcRD), (75, fcRG), (76, fcRL), (77, fcRN)] } 8 34 fcDue ((w, d0, ts, es, ()), (k, d, c, p, h, ps, eds), ()) K) =
  (fork (k == (1 : Int)) (fork ((↑(eds.length) : Int) == (0 : Int)) (AV.int IntKind.i64 d = AV.int IntKind.i64 d ∧ AV.str p = AV.str p ∧ req (decide (0 + ts.length ≤ ts.length)) (req (decide (0 + es.length ≤ es.length))
 ((okR (w, d0, seg 0 (ts.length) ts, seg 0 (es.length) es) ∧ roomy (seg 0 (es.length) es) ∧ p.length ≤ 9223372036854775807) ∧ ∀ (w1 d1 : Int) (ts1 : List Tk) (es1 : List Ev) (x : Tx) (e : Int), ((w1, d1, ts1, es1), x, e) =
 issueI (w, d0, seg 0 (ts.length) ts, seg 0 (es.length) es) p [] d → req (decide (0 + ts1.length ≤ ts1.length)) (req (decide (0 + es1.length ≤ es1.length)) (K ((w1, d1, seg 0 (ts1.length) ts1, seg 0 (es1.length) es1, ()),
 (), [x], [], e, ())))))) (req (decide ((0 : Int) ≤ (0 : Int) ∧ (0 : Int) < (↑(eds.length) : Int))) (AV.int IntKind.i64 d = AV.int IntKind.i64 d ∧ AV.str p = AV.str p ∧ req (decide (0 + ts.length ≤ ts.length)) (req (decide
 (0 + es.length ≤ es.length)) ((okR (w, d0, seg 0 (ts.length) ts, seg 0 (es.length) es) ∧ roomy (seg 0 (es.length) es) ∧ p.length ≤ 9223372036854775807) ∧ ∀ (w1 d1 : Int) (ts1 : List Tk) (es1 : List Ev) (x : Tx) (e : Int),
 ((w1, d1, ts1, es1), x, e) = issueI (w, d0, seg 0 (ts.length) ts, seg 0 (es.length) es) p (List.getD eds 0 []) d → req (decide (0 + ts1.length ≤ ts1.length)) (req (decide (0 + es1.length ≤ es1.length)) (K ((w1, d1, seg 0
 (ts1.length) ts1, seg 0 (es1.length) es1, ()), (), [x], [], e, ())))))))) (fork (k == (2 : Int)) (req (decide (0 + ts.length ≤ ts.length)) (req (decide (0 + es.length ≤ es.length)) ((okR (w, d0, seg 0 (ts.length) ts, seg
 0 (es.length) es) ∧ roomy (seg 0 (es.length) es)) ∧ ∀ (w1 d1 : Int) (ts1 : List Tk) (es1 : List Ev) (e : Int), ((w1, d1, ts1, es1), e) = blockI (w, d0, seg 0 (ts.length) ts, seg 0 (es.length) es) c d → req (decide (0 +
 ts1.length ≤ ts1.length)) (req (decide (0 + es1.length ≤ es1.length)) (K ((w1, d1, seg 0 (ts1.length) ts1, seg 0 (es1.length) es1, ()), (), [[]], [], e, ())))))) (fork (k == (3 : Int)) (req (decide (0 + ts.length ≤
 ts.length)) (req (decide (0 + es.length ≤ es.length)) ((okR (w, d0, seg 0 (ts.length) ts, seg 0 (es.length) es) ∧ roomy (seg 0 (es.length) es)) ∧ ∀ (w1 d1 : Int) (ts1 : List Tk) (es1 : List Ev) (e : Int), ((w1, d1, ts1,
 es1), e) = freeI (w, d0, seg 0 (ts.length) ts, seg 0 (es.length) es) c h d → req (decide (0 + ts1.length ≤ ts1.length)) (req (decide (0 + es1.length ≤ es1.length)) (K ((w1, d1, seg 0 (ts1.length) ts1, seg 0 (es1.length)
 es1, ()), (), [[]], [], e, ())))))) (fork (k == (4 : Int)) (fork ((↑(eds.length) : Int) == (0 : Int)) (AV.int IntKind.i64 d = AV.int IntKind.i64 d ∧ AV.str c = AV.str c ∧ req (decide (0 + ts.length ≤ ts.length)) (req
 (decide (0 + es.length ≤ es.length)) ((okR (w, d0, seg 0 (ts.length) ts, seg 0 (es.length) es) ∧ roomy (seg 0 (es.length) es)) ∧ ∀ (w1 d1 : Int) (ts1 : List Tk) (es1 : List Ev) (x : Tx) (e : Int), ((w1, d1, ts1, es1), x,
 e) = replaceI (w, d0, seg 0 (ts.length) ts, seg 0 (es.length) es) c [] d → req (decide (0 + ts1.length ≤ ts1.length)) (req (decide (0 + es1.length ≤ es1.length)) (K ((w1, d1, seg 0 (ts1.length) ts1, seg 0 (es1.length)
 es1, ()), (), [x], [], e, ())))))) (req (decide ((0 : Int) ≤ (0 : Int) ∧ (0 : Int) < (↑(eds.length) : Int))) (AV.int IntKind.i64 d = AV.int IntKind.i64 d ∧ AV.str c = AV.str c ∧ req (decide (0 + ts.length ≤ ts.length))
 (req (decide (0 + es.length ≤ es.length)) ((okR (w, d0, seg 0 (ts.length) ts, seg 0 (es.length) es) ∧ roomy (seg 0 (es.length) es)) ∧ ∀ (w1 d1 : Int) (ts1 : List Tk) (es1 : List Ev) (x : Tx) (e : Int), ((w1, d1, ts1,
 es1), x, e) = replaceI (w, d0, seg 0 (ts.length) ts, seg 0 (es.length) es) c (List.getD eds 0 []) d → req (decide (0 + ts1.length ≤ ts1.length)) (req (decide (0 + es1.length ≤ es1.length)) (K ((w1, d1, seg 0 (ts1.length)
 ts1, seg 0 (es1.length) es1, ()), (), [x], [], e, ())))))))) (fork (k == (5 : Int)) (req (decide (0 + ts.length ≤ ts.length)) (req (decide (0 + es.length ≤ es.length)) ((okR (w, d0, seg 0 (ts.length) ts, seg 0 (es.length)
 es) ∧ roomy (seg 0 (es.length) es) ∧ (∀ (p : Ty.den Ty.s), p ∈ ps → p.length ≤ 9223372036854775807) ∧ ps.length ≤ 9223372036854775807 ∧ eds.length ≤ 9223372036854775807) ∧ ∀ (w1 d1 : Int) (ts1 : List Tk) (es1 : List Ev)
 (x : List Tx) (e : Int), ((w1, d1, ts1, es1), x, e) = divideI (w, d0, seg 0 (ts.length) ts, seg 0 (es.length) es) c h ps eds d → req (decide (0 + ts1.length ≤ ts1.length)) (req (decide (0 + es1.length ≤ es1.length)) (K
 ((w1, d1, seg 0 (ts1.length) ts1, seg 0 (es1.length) es1, ()), (), x, [], e, ())))))) (fork (k == (6 : Int)) (req (decide (0 + ts.length ≤ ts.length)) (req (decide (0 + es.length ≤ es.length)) ((okR (w, d0, seg 0
 (ts.length) ts, seg 0 (es.length) es) ∧ roomy (seg 0 (es.length) es)) ∧ ∀ (w1 d1 : Int) (ts1 : List Tk) (es1 : List Ev) (x : Tx) (e : Int), ((w1, d1, ts1, es1), x, e) = redeemI (w, d0, seg 0 (ts.length) ts, seg 0
 (es.length) es) c h d → req (decide (0 + ts1.length ≤ ts1.length)) (req (decide (0 + es1.length ≤ es1.length)) (K ((w1, d1, seg 0 (ts1.length) ts1, seg 0 (es1.length) es1, ()), (), [x], [], e, ())))))) (fork (k == (7 :
 Int)) (req (decide (0 + ts.length ≤ ts.length)) (req (decide (0 + es.length ≤ es.length)) ((okR (w, d0, seg 0 (ts.length) ts, seg 0 (es.length) es) ∧ roomy (seg 0 (es.length) es)) ∧ ∀ (w1 d1 : Int) (ts1 : List Tk) (es1 :
 List Ev) (x : Tx) (e : Int), ((w1, d1, ts1, es1), x, e) = forfeitI (w, d0, seg 0 (ts.length) ts, seg 0 (es.length) es) c d → req (decide (0 + ts1.length ≤ ts1.length)) (req (decide (0 + es1.length ≤ es1.length)) (K ((w1,
 d1, seg 0 (ts1.length) ts1, seg 0 (es1.length) es1, ()), (), [x], [], e, ())))))) (fork (k == (8 : Int)) (req (decide (0 + ts.length ≤ ts.length)) (req (decide (0 + es.length ≤ es.length)) (okR (w, d0, seg 0 (ts.length)
 ts, seg 0 (es.length) es) ∧ ∀ (s : Tx) (e : Int), (s, e) = liveI (w, d0, seg 0 (ts.length) ts, seg 0 (es.length) es) p → req (decide (0 + List.length (seg 0 (ts.length) ts) ≤ List.length (seg 0 (ts.length) ts))) (req
 (decide (0 + List.length (seg 0 (es.length) es) ≤ List.length (seg 0 (es.length) es))) (K ((w, d0, seg 0 (List.length (seg 0 (ts.length) ts)) (seg 0 (ts.length) ts), seg 0 (List.length (seg 0 (es.length) es)) (seg 0
 (es.length) es), ()), (), [s], [], e, ())))))) (req (decide (0 + ts.length ≤ ts.length)) (req (decide (0 + es.length ≤ es.length)) (okR (w, d0, seg 0 (ts.length) ts, seg 0 (es.length) es) ∧ ∀ (s : List Int) (e : Int), (s,
 e) = lineI (w, d0, seg 0 (ts.length) ts, seg 0 (es.length) es) c → req (decide (0 + List.length (seg 0 (ts.length) ts) ≤ List.length (seg 0 (ts.length) ts))) (req (decide (0 + List.length (seg 0 (es.length) es) ≤
 List.length (seg 0 (es.length) es))) (K ((w, d0, seg 0 (List.length (seg 0 (ts.length) ts)) (seg 0 (ts.length) ts), seg 0 (List.length (seg 0 (es.length) es)) (seg 0 (es.length) es), ()), (), [], s, e, ())))))))))))))) := by kernel_rfl
/-! TicketRolls -/
abbrev sh35 : SV := S [(0, .v LT), (1, .v LT), (5, .v .b), (6, .v I)]
abbrev sh35e : SV := S [(5, .v .b)]
abbrev lc35 : LC2 := ⟨0, sh35, 0, fun (a, b, ok, i, _) Q => (a = b ∧ ok = true ∧ a.length ≤ 1000 ∧ 0 ≤ i ∧ i ≤ a.length) ∧ Q (.exit 0) (stS 0 sh35e (true, ()))⟩
theorem v35L (a : List Tx) (i : Int) (Q : AX → St → Prop) : (xloop2 Tryd.prog {} 5 35 0 lc35 (fun _ => some (sh35e, 0)) (fun (a, _, _, i, _) => mL a i) (a, a, true, i, ()) Q) =
  (fork (decide (i < (↑(a.length) : Int))) (req (decide ((0 : Int) ≤ i ∧ i < (↑(a.length) : Int))) (req (decide ((0 : Int) ≤ i ∧ i < (↑(a.length) : Int))) (req (inR IntKind.i64 (i + 1)) (mL a (i + 1) < mL a i ∧ LC2.spec
 lc35 (a, a, List.getD a (Int.toNat i) [] == List.getD a (Int.toNat i) [], i + 1, ()) Q)))) (Q (AX.exit 0) (stS 0 sh35e (true, ())))) := by kernel_rfl
abbrev fcSameX : FC := ⟨[.v LT, .v LT], [.b], fun x K => (x.1 = x.2.1 ∧ x.1.length ≤ 1000) ∧ K (true, ())⟩
theorem v35F (a : List Tx) (K : dens [.b] → Prop) : (xfn1 Tryd.prog { l2 := [(35, 0, lc35)] } 5 35 fcSameX (a, a, ()) K) =
  ((a = a ∧ ((↑(a.length) : Int) == (↑(a.length) : Int)) = true ∧ a.length ≤ 1000 ∧ (0 : SV.den (SV.slot 6 (SV.v I))) ≤ (0 : Int) ∧ (0 : Int) ≤ (↑(a.length) : SV.den (SV.slot 6 (SV.v I)))) ∧ K (true, ())) := by kernel_rfl
def sameR (r m : RS) : Prop := m = r
abbrev sh8 : SV := S [(1, .v LC'), (5, .box 0 (rollC 1 2)), (7, .box 3 (refC 4 5)), (9, .v I)]
abbrev sh8e : SV := S [(5, .box 0 (rollC 1 2)), (7, .box 3 (refC 4 5))]
abbrev lc8 : LC2 := ⟨0, sh8, 6, fun (l, r, m, i, _) Q => (okR (r.1, r.2.1, r.2.2.1, r.2.2.2.1) ∧ r.2.2.2.2.1 = true ∧ sameR (r.1, r.2.1, r.2.2.1, r.2.2.2.1) (m.1, m.2.1, m.2.2.1, m.2.2.2.1) ∧ okLs l ∧ 0 ≤ i ∧ i ≤ 60 ∧ (r.2.2.2.1.length : Int) ≤ i) ∧
  ∀ (w1 d1 : Int) (ts1 : List Tk) (es1 : List Ev), okR (w1, d1, ts1, es1) → es1.length ≤ 60 → Q (.exit 0) (stS 6 sh8e ((w1, d1, ts1, es1, true, ()), (w1, d1, ts1, es1, ()), ()))⟩
theorem v8L (w d0 : Int) (ts : List Tk) (es : List Ev) (l : List Cl) (i : Int) (Q : AX → St → Prop) : (xloop2 Tryd.prog { f := [(35, fcSameX), (20, fcSame)], f2 := [(31, fcCall), (34, fcDue)] } 5 8 0 lc8 (fun _ => some (sh8e, 6)) (fun (_, _, _, i, _) => (60 - i).toNat) (l, (w, d0, ts, es, true, ()), (w, d0, ts, es, ()), i, ()) Q) =
  (fork (decide (i < (↑(l.length) : Int))) (fork (decide (i < (60 : Int))) (req (decide ((0 : Int) ≤ i ∧ i < (↑(l.length) : Int))) (req (decide (0 + ts.length ≤ ts.length)) (req (decide (0 + es.length ≤ es.length)) ((okR
 (w, d0, seg 0 (ts.length) ts, seg 0 (es.length) es) ∧ true = true ∧ fitsN (List.length (seg 0 (es.length) es) + 1) 40 = true ∧ okCl (List.getD l (Int.toNat i) ((0 : Int), (0 : Int), [], [], [], [], []))) ∧ ∀ (w1 d1 : Int)
 (ts1 : List Tk) (es1 : List Ev) (tx : List Tx) (l_1 : List Int) (e : Int), ((w1, d1, ts1, es1), tx, l_1, e) = callI (w, d0, seg 0 (ts.length) ts, seg 0 (es.length) es) (List.getD l (Int.toNat i) ((0 : Int), (0 : Int), [],
 [], [], [], [])) → req (decide ((0 : Int) ≤ i ∧ i < (↑(l.length) : Int))) (req (decide (0 + ts.length ≤ ts.length)) (req (decide (0 + es.length ≤ es.length)) ((okR (w, d0, seg 0 (ts.length) ts, seg 0 (es.length) es) ∧
 roomy (seg 0 (es.length) es) ∧ okCl (List.getD l (Int.toNat i) ((0 : Int), (0 : Int), [], [], [], [], []))) ∧ ∀ (w1_1 d1_1 : Int) (ts1_1 : List Tk) (es1_1 : List Ev) (tx_1 : List Tx) (l_2 : List Int) (e_1 : Int), ((w1_1,
 d1_1, ts1_1, es1_1), tx_1, l_2, e_1) = callI (w, d0, seg 0 (ts.length) ts, seg 0 (es.length) es) (List.getD l (Int.toNat i) ((0 : Int), (0 : Int), [], [], [], [], [])) → (tx = tx_1 ∧ tx.length ≤ 1000) ∧ (l_1 = l_2 ∧
 l_1.length ≤ 100000) ∧ fork (e != e_1) (req (decide (0 + ts1.length ≤ ts1.length)) (req (decide (0 + es1.length ≤ es1.length)) (req (decide (0 + ts1_1.length ≤ ts1_1.length)) (req (decide (0 + es1_1.length ≤
 es1_1.length)) (Q AX.ret (stS 6 sh8e ((w1, d1, seg 0 (ts1.length) ts1, seg 0 (es1.length) es1, true, ()), (w1_1, d1_1, seg 0 (ts1_1.length) ts1_1, seg 0 (es1_1.length) es1_1, ()), ()))))))) (req (inR IntKind.i64 (i + 1))
 (req (decide (0 + ts1.length ≤ ts1.length)) (req (decide (0 + es1.length ≤ es1.length)) (req (decide (0 + ts1_1.length ≤ ts1_1.length)) (req (decide (0 + es1_1.length ≤ es1_1.length)) (Int.toNat ((60 : SV.den (SV.slot 9
 (SV.v I))) - (i + 1)) < Int.toNat ((60 : SV.den (SV.slot 9 (SV.v I))) - i) ∧ LC2.spec lc8 (l, (w1, d1, seg 0 (ts1.length) ts1, seg 0 (es1.length) es1, true, ()), (w1_1, d1_1, seg 0 (ts1_1.length) ts1_1, seg 0
 (es1_1.length) es1_1, ()), i + 1, ()) Q))))))))))))) (req (decide (0 + ts.length ≤ ts.length)) (req (decide (0 + es.length ≤ es.length)) (req (decide (0 + ts.length ≤ ts.length)) (req (decide (0 + es.length ≤ es.length))
 (Q (AX.exit 0) (stS 6 sh8e ((w, d0, seg 0 (ts.length) ts, seg 0 (es.length) es, true, ()), (w, d0, seg 0 (ts.length) ts, seg 0 (es.length) es, ()), ())))))))) (req (decide (0 + ts.length ≤ ts.length)) (req (decide (0 +
 es.length ≤ es.length)) (req (decide (0 + ts.length ≤ ts.length)) (req (decide (0 + es.length ≤ es.length)) (Q (AX.exit 0) (stS 6 sh8e ((w, d0, seg 0 (ts.length) ts, seg 0 (es.length) es, true, ()), (w, d0, seg 0
 (ts.length) ts, seg 0 (es.length) es, ()), ())))))))) := by kernel_rfl
theorem v8F (wt : Int) (l : List Cl) (K : dens [.b] → Prop) : (xfn1 Tryd.prog { f := [(49, fcWith), (28, fcFrom), (21, fcWorks), (36, fcSameT), (37, fcSameE)], f2 := [(30, fcTix), (38, fcEvs)], l2 := [(8, 0, lc8)] } 5 8 fcLawC (wt, l, ()) K) =
  (fork (!decide ((0 : Int) ≤ wt ∧ wt ≤ (1000 : Int))) (fork (!decide ((0 : Int) ≤ wt ∧ wt ≤ (1000 : Int))) False (K (false, ()))) (fork (!decide ((0 : Int) ≤ wt ∧ wt ≤ (1000 : Int))) (K (false, ())) ((okR (wt, (0 : Int),
 [], []) ∧ true = true ∧ sameR (wt, (0 : Int), [], []) (wt, (0 : Int), [], []) ∧ okLs l ∧ (0 : SV.den (SV.slot 9 (SV.v I))) ≤ (0 : Int) ∧ (0 : Int) ≤ (60 : SV.den (SV.slot 9 (SV.v I))) ∧ (0 : Int) ≤ (0 : Int)) ∧ ∀ (w1 d1 :
 Int) (ts1 : List Tk) (es1 : List Ev), okR (w1, d1, ts1, es1) → es1.length ≤ 60 → req (decide (0 + ts1.length ≤ ts1.length)) (req (decide (0 + es1.length ≤ es1.length)) ((List.length (seg 0 (ts1.length) ts1) ≤ 256 ∧ ∀ (t :
 Ty.den T6), t ∈ seg 0 (ts1.length) ts1 → List.length (t.2.2.2.1) ≤ 100) ∧ ∀ (l : List Tk), l = seg 0 (ts1.length) ts1 → AV.sl 4 6 0 (ts1.length) none = AV.sl 4 6 0 (ts1.length) none ∧ req (decide (0 + ts1.length ≤
 ts1.length)) ((l = seg 0 (ts1.length) ts1 ∧ l.length ≤ 1000 ∧ ∀ (t : Ty.den T6), t ∈ l → List.length (t.2.2.2.1) ≤ 100) ∧ req (decide (0 + List.length (seg 0 (ts1.length) ts1) ≤ List.length (seg 0 (ts1.length) ts1))) (req
 (decide (0 + List.length (seg 0 (es1.length) es1) ≤ List.length (seg 0 (es1.length) es1))) (List.length (seg 0 (List.length (seg 0 (es1.length) es1)) (seg 0 (es1.length) es1)) ≤ 1000 ∧ ∀ (l : List Ev), l = seg 0
 (List.length (seg 0 (es1.length) es1)) (seg 0 (es1.length) es1) → AV.sl 5 5 0 (es1.length) none = AV.sl 5 5 0 (es1.length) none ∧ req (decide (0 + es1.length ≤ es1.length)) ((l = seg 0 (es1.length) es1 ∧ l.length ≤ 1000)
 ∧ K (true, ())))))))))) := by kernel_rfl
abbrev sh8n : SV := S [(1, .v LC'), (5, .np), (7, .np), (9, .v I)]
abbrev sh8ne : SV := S [(5, .np), (7, .np)]
abbrev lc8n : LC2 := ⟨0, sh8n, 0, fun (l, _, _, i, _) Q => (0 ≤ i ∧ l.length ≤ big) ∧ Q (.exit 0) (stS 0 sh8ne ((), (), ()))⟩
theorem v8NL (l : List Cl) (i : Int) (Q : AX → St → Prop) : (xloop2 Tryd.prog {} 5 8 0 lc8n (fun _ => some (sh8ne, 0)) (fun (_, _, _, i, _) => (60 - i).toNat) (l, (), (), i, ()) Q) =
  (fork (decide (i < (↑(l.length) : Int))) (fork (decide (i < (60 : Int))) (Q (AX.exit 0) (stS 0 sh8ne ((), (), ()))) (Q (AX.exit 0) (stS 0 sh8ne ((), (), ())))) (Q (AX.exit 0) (stS 0 sh8ne ((), (), ())))) := by kernel_rfl
theorem v8N (wt : Int) (l : List Cl) (K : dens [.b] → Prop) : (xfn1 Tryd.prog { f := [(49, fcWith), (28, fcFrom), (21, fcWorks)], l2 := [(8, 0, lc8n)] } 5 8 fcLawC (wt, l, ()) K) =
  (fork (!decide ((0 : Int) ≤ wt ∧ wt ≤ (1000 : Int))) (fork (!decide ((0 : Int) ≤ wt ∧ wt ≤ (1000 : Int))) (((0 : SV.den (SV.slot 9 (SV.v I))) ≤ (0 : Int) ∧ l.length ≤ 9223372036854775807) ∧ K (true, ())) (K (false, ())))
 (fork (!decide ((0 : Int) ≤ wt ∧ wt ≤ (1000 : Int))) (K (false, ())) False)) := by kernel_rfl
end Go.P3
