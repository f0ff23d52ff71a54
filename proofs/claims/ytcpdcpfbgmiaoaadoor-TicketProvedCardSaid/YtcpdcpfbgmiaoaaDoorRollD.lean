/- Rolls: the loops of a ticket that is divided: states and what is to be shown, reduced. No conditions. -/
import Derived.Test.YtcpdcpfbgmiaoaaDoorRollS
set_option linter.all false
set_option maxRecDepth 100000
set_option maxHeartbeats 2000000
namespace Go.P3
open Go.Lom Go.Proofs Go
@[reducible] def SB : List (Nat × SV) -> SV -> SV
 | [], t => t
 | p :: l, t => .cons (.slot p.1 p.2) (SB l t)
abbrev C57 : AT := .clo 57 [] []
def allE (hs : List (List Int)) (i : Int) : Bool := (hs.drop i.toNat).all (inB 0)
abbrev sh63g : SV := S [(1, .a C57), (7, .v LL), (8, .v I), (9, .v I)]
def s63g (hs : List (List Int)) (m i : Int) (Q : LQ) : Prop := (0 <= i /\ i <= hs.length /\ m = hs.length /\ hs.length <= 9223372036854775807) /\
 ((allE hs i = false -> Q .ret (stS 0 shB4 (false, ()))) /\ (allE hs i = true -> Q (.exit 0) (stS 0 .nil ())))
abbrev lc63g : LC2 := ⟨0, sh63g, 0, fun (_, l, m, i, _) Q => s63g l m i Q⟩
theorem v63gL (l : List (List Int)) (m i : Int) (Q : AX -> St -> Prop) : (xloop2 Tryd.prog { f := [(57, fcEdge 0)] } 5 63 0 lc63g exB4 (fun (_, l, _, i, _) => mL l i) (((), ()), l, m, i, ()) Q) =
 (fork (decide (i < m)) (req (decide ((0 : Int) <= i /\ i < (↑(l.length) : Int))) (fork (!inB (0 : Int) (List.getD l (Int.toNat i) [])) (Q AX.ret (stS 0 shB4 (false, ()))) (req (inR IntKind.i64 (i + 1)) (mL l (i + 1) < mL l
 i /\ LC2.spec lc63g (((), ()), l, m, i + 1, ()) Q)))) (Q (AX.exit 0) (stS 0 SV.nil ()))) := by kernel_rfl
abbrev fc63g : FC := ⟨[.v LL, C57], [.b], fun x K => x.1.length <= 9223372036854775807 /\ K (x.1.all (inB 0), ())⟩
theorem v63gF (l : List (List Int)) (K : dens [.b] -> Prop) : (xfn1 Tryd.prog { l2 := [(63, 0, lc63g)] } 5 63 fc63g (l, ((), ()), ()) K) =
 (((0 : Int) <= (0 : Int) /\ (0 : Int) <= (↑(l.length) : Int) /\ (↑(l.length) : Int) = (↑(l.length) : Int) /\ l.length <= 9223372036854775807) /\ (allE l (0 : Int) = false -> K (false, ())) /\ (allE l (0 : Int) = true -> K (true,
 ()))) := by kernel_rfl
abbrev TBd : Tb := { TB with f := (137, fcHas) :: TB.f }
abbrev stC : SV := A [.v I, .v I, .lst 10 T6, .sls 2 5]
abbrev stD : SV := A [.v I, .v I, .own 14 T6, .sls 2 5]
abbrev bkR : SV := .blk 0 (A [.v I, .v I, .lst 1 T6, .lst 2 E5, .v .b])
abbrev bk5 : SV := .blk 5 (A [.ref 3])
abbrev bk6 : SV := .blk 6 (A [.v I])
abbrev bkX : SV := .blk 12 (A [.v I, .v I, .v I, .v I, .v I])
abbrev sh130a : SV := SB [(0, .box 11 stC), (1, .elt 10), (2, .box 3 (clC 13)), (31, .v LT), (32, .v I), (33, .v I)] (A [bkR, bk5, bk6, bkX])
abbrev sh130ae : SV := SB [(0, .box 11 stC), (1, .elt 10), (2, .box 3 (clC 13))] (A [bkR, bk5, bk6, bkX])
abbrev sh130p : SV := SB [] (A [.blk 3 (clC 13), bkR, bk5, bk6])
abbrev ref33 : AV := .iface 130 (.agg [.int .i64 33])
def ex130a : Ex2
 | .panic _ => some (sh130p, 14)
 | _ => some (sh130ae, 14)
abbrev rT (ts : List Tk) : RS := (0, 0, ts, [])
abbrev lc130a : LC2 := ⟨13, sh130a, 14, fun (s, n, cl, l, m, i, r, u, e, x, _) Q => (l = cl.2.2.1 /\ m = l.length /\ 0 <= i /\ i <= l.length /\ l.length <= 4 /\ s.2.2.1.length <= 256 /\ ∀ p ∈ l, p.length <= big) /\
  ((newsB (rT s.2.2.1) l (l.length - i.toNat) i.toNat = true -> Q (.exit 0) (stS 14 sh130ae (s, n, cl, r, u, e, x, ()))) /\
   (newsB (rT s.2.2.1) l (l.length - i.toNat) i.toNat = false -> Q (.panic ref33) (stS 14 sh130p (cl, r, u, e, ()))))⟩
theorem v130a (w d0 es0 : Int) (ts : List Tk) (ne n : Nat) (c : Tx) (h : List Int) (ps : List Tx) (eds : List (List Int)) (d : Int) (cs : List Tx) (pl : Tx) (m i : Int) (r : Int × Int × List Tk × List Ev × Bool × Unit) (e : Int × Unit) (x : Int × Int × Int × Int × Int × Unit) (Q : AX -> St -> Prop) : (xloop2 Tryd.prog TBd 5 130 0 lc130a ex130a (fun (_, _, _, l, _, i, _) => mL l i) ((w, d0, ts, ne, ()), n, (c, h, ps, eds, d, cs, pl, ()), ps, m, i, r, ((), ()), e, x, ()) Q) =
 (fork (decide (i < m)) (req (decide ((0 : Int) <= i /\ i < (↑(ps.length) : Int))) (List.length (List.getD ps (Int.toNat i) []) <= 9223372036854775807 /\ fork (wordB (List.getD ps (Int.toNat i) [])) (req (decide (0 + ts.length
 <= ts.length)) (List.length (seg 0 (ts.length) ts) <= 9223372036854775807 /\ fork (!List.any (seg 0 (ts.length) ts) (named (List.getD ps (Int.toNat i) []))) (req (decide ((0 : Int) <= (0 : Int) /\ (0 : Int) <= i /\ i <=
 (↑(ps.length) : Int))) (List.length (List.drop 0 (List.take (Int.toNat i) ps)) <= 9223372036854775807 /\ fork (!!List.any (List.drop 0 (List.take (Int.toNat i) ps)) (eqT (List.getD ps (Int.toNat i) []))) (req (decide (0 +
 cs.length <= cs.length)) (req (decide (List.length (r.2.2.1) = List.length (r.2.2.1))) (req (decide (List.length (r.2.2.2.1) = List.length (r.2.2.2.1))) (Q (AX.panic (AV.iface 130 (AV.agg [AV.int IntKind.i64 (33 : Int)])))
 (stS 14 sh130p ((c, h, ps, eds, d, seg 0 (cs.length) cs, pl, ()), (r.1, r.2.1, r.2.2.1, r.2.2.2.1, r.2.2.2.2.1, ()), ((), ()), (e.1, ()), ())))))) (req (inR IntKind.i64 (i + 1)) (req (decide (ts.length = ts.length)) (req
 (decide (0 + cs.length <= cs.length)) (req (decide (List.length (r.2.2.1) = List.length (r.2.2.1))) (req (decide (List.length (r.2.2.2.1) = List.length (r.2.2.2.1))) (mL ps (i + 1) < mL ps i /\ LC2.spec lc130a ((w, d0, ts,
 ne, ()), n, (c, h, ps, eds, d, seg 0 (cs.length) cs, pl, ()), ps, m, i + 1, (r.1, r.2.1, r.2.2.1, r.2.2.2.1, r.2.2.2.2.1, ()), ((), ()), (e.1, ()), (x.1, x.2.1, x.2.2.1, x.2.2.2.1, x.2.2.2.2.1, ()), ()) Q)))))))) (req
 (decide (0 + cs.length <= cs.length)) (req (decide (List.length (r.2.2.1) = List.length (r.2.2.1))) (req (decide (List.length (r.2.2.2.1) = List.length (r.2.2.2.1))) (Q (AX.panic (AV.iface 130 (AV.agg [AV.int IntKind.i64
 (33 : Int)]))) (stS 14 sh130p ((c, h, ps, eds, d, seg 0 (cs.length) cs, pl, ()), (r.1, r.2.1, r.2.2.1, r.2.2.2.1, r.2.2.2.2.1, ()), ((), ()), (e.1, ()), ())))))))) (req (decide (0 + cs.length <= cs.length)) (req (decide
 (List.length (r.2.2.1) = List.length (r.2.2.1))) (req (decide (List.length (r.2.2.2.1) = List.length (r.2.2.2.1))) (Q (AX.panic (AV.iface 130 (AV.agg [AV.int IntKind.i64 (33 : Int)]))) (stS 14 sh130p ((c, h, ps, eds, d,
 seg 0 (cs.length) cs, pl, ()), (r.1, r.2.1, r.2.2.1, r.2.2.2.1, r.2.2.2.2.1, ()), ((), ()), (e.1, ()), ())))))))) (req (decide (ts.length = ts.length)) (req (decide (0 + cs.length <= cs.length)) (req (decide (List.length
 (r.2.2.1) = List.length (r.2.2.1))) (req (decide (List.length (r.2.2.2.1) = List.length (r.2.2.2.1))) (Q (AX.exit 0) (stS 14 sh130ae ((w, d0, ts, ne, ()), n, (c, h, ps, eds, d, seg 0 (cs.length) cs, pl, ()), (r.1, r.2.1,
 r.2.2.1, r.2.2.2.1, r.2.2.2.2.1, ()), ((), ()), (e.1, ()), (x.1, x.2.1, x.2.2.1, x.2.2.2.1, x.2.2.2.2.1, ()), ())))))))) := by kernel_rfl
abbrev sh130b : SV := SB [(0, .box 11 stD), (2, .box 3 (clC 13)), (8, .v I), (95, .v LT), (96, .v I), (97, .v I)] (A [bkR, bk5, bk6, bkX])
abbrev sh130be : SV := SB [(0, .box 11 stD), (2, .box 3 (clC 13))] (A [bkR, bk5, bk6, bkX])
abbrev lc130b : LC2 := ⟨13, sh130b, 15, fun (s, cl, f, l, m, i, r, u, e, x, _) Q => (l = cl.2.2.1 /\ m = l.length /\ 0 <= i /\ i <= l.length /\ l.length <= 4 /\ cl.2.2.2.1.length = l.length /\ cl.2.2.2.1.all (inB 0) = true /\ (s.2.2.1.length : Int) + (l.length - i) <= 256 /\ (cl.2.2.2.2.2.1.length : Int) <= i) /\
 Q (.exit 2) (stS 15 sh130be ((s.1, s.2.1, addsI s.2.2.1 l cl.2.2.2.1 f (l.length - i.toNat) i.toNat, s.2.2.2), (cl.1, cl.2.1, cl.2.2.1, cl.2.2.2.1, cl.2.2.2.2.1, cl.2.2.2.2.2.1 ++ codesI (l.length - i.toNat) ((s.2.2.1.length : Int) + 1), cl.2.2.2.2.2.2), r, u, e, x, ()))⟩
theorem v130b (w d0 f : Int) (ts : List Tk) (ne : Nat) (c : Tx) (h : List Int) (ps : List Tx) (eds : List (List Int)) (d : Int) (cs : List Tx) (pl : Tx) (m i : Int) (r : Int × Int × List Tk × List Ev × Bool × Unit) (e : Int × Unit) (x : Int × Int × Int × Int × Int × Unit) (Q : AX -> St -> Prop) : (xloop2 Tryd.prog TB 5 130 1 lc130b (fun _ => some (sh130be, 15)) (fun (_, _, _, l, _, i, _) => mL l i) ((w, d0, ts, ne, ()), (c, h, ps, eds, d, cs, pl, ()), f, ps, m, i, r, ((), ()), e, x, ()) Q) =
 (fork (decide (i < m)) (req (decide ((0 : Int) <= i /\ i < (↑(ps.length) : Int))) (req (decide ((0 : Int) <= i /\ i < (↑(eds.length) : Int))) (req (inR IntKind.i64 ((↑(ts.length) : Int) + 1)) (List.length (List.getD eds
 (Int.toNat i) []) <= 100 /\ ∀ (r_1 : List Int), r_1 = List.getD eds (Int.toNat i) [] -> AV.sl 14 6 0 (ts.length) none = AV.sl 14 6 0 (ts.length) none /\ AV.sl 14 6 0 (ts.length) none = AV.sl 14 6 0 (ts.length) none /\ req
 (decide (0 + ts.length <= ts.length)) (req (fitsN (ts.length + 1) 72) (∀ (ys : List (Ty.den (Ty.pr (Ty.i IntKind.i64) (Ty.pr Ty.s (Ty.pr (Ty.i IntKind.i64) (Ty.pr (Ty.sl (Ty.i IntKind.i64)) (Ty.pr (Ty.i IntKind.i64) (Ty.i
 IntKind.i64)))))))), ys = seg 0 (ts.length) ts ++ [((↑(ts.length) : Int) + 1, List.getD ps (Int.toNat i) [], (1 : Int), r_1, (0 : Int), f)] -> ((0 : AT.den (AT.v I)) <= (↑(ts.length) : Int) + 1 /\ (↑(ts.length) : Int) + 1 <=
 (99999999 : AT.den (AT.v I))) /\ ∀ (s : Tx), s = codeS ((↑(ts.length) : Int) + 1) -> AV.sl 13 1 0 (cs.length) none = AV.sl 13 1 0 (cs.length) none /\ AV.sl 13 1 0 (cs.length) none = AV.sl 13 1 0 (cs.length) none /\ req
 (decide (0 + cs.length <= cs.length)) (req (fitsN (cs.length + 1) 16) (∀ (ys_1 : List (Ty.den Ty.s)), ys_1 = seg 0 (cs.length) cs ++ [s] -> req (inR IntKind.i64 (i + 1)) (req (decide (0 + (ts.length + 1) <= ys.length)) (req
 (decide (0 + (cs.length + 1) <= ys_1.length)) (req (decide (List.length (r.2.2.1) = List.length (r.2.2.1))) (req (decide (List.length (r.2.2.2.1) = List.length (r.2.2.2.1))) (mL ps (i + 1) < mL ps i /\ LC2.spec lc130b ((w,
 d0, seg 0 (ts.length + 1) ys, ne, ()), (c, h, ps, eds, d, seg 0 (cs.length + 1) ys_1, pl, ()), f, ps, m, i + 1, (r.1, r.2.1, r.2.2.1, r.2.2.2.1, r.2.2.2.2.1, ()), ((), ()), (e.1, ()), (x.1, x.2.1, x.2.2.1, x.2.2.2.1,
 x.2.2.2.2.1, ()), ()) Q))))))))))))) (req (decide (0 + ts.length <= ts.length)) (req (decide (0 + cs.length <= cs.length)) (req (decide (List.length (r.2.2.1) = List.length (r.2.2.1))) (req (decide (List.length (r.2.2.2.1)
 = List.length (r.2.2.2.1))) (Q (AX.exit 2) (stS 15 sh130be ((w, d0, seg 0 (ts.length) ts, ne, ()), (c, h, ps, eds, d, seg 0 (cs.length) cs, pl, ()), (r.1, r.2.1, r.2.2.1, r.2.2.2.1, r.2.2.2.2.1, ()), ((), ()), (e.1, ()),
 (x.1, x.2.1, x.2.2.1, x.2.2.2.1, x.2.2.2.2.1, ()), ())))))))) := by kernel_rfl
end Go.P3
