/- TicketProper: Proper, and the reference: states and what is to be shown, reduced. No conditions. -/
import Derived.Test.YtcpdcpfbgmiaoaaDoorPropS
import Derived.Test.YtcpdcpfbgmiaoaaDoorRefA
set_option linter.all false
set_option maxRecDepth 100000
set_option maxHeartbeats 2000000
namespace Go.P3
open Go.Lom Go.Proofs Go
abbrev roomL (l : List Ev) : Prop := fitsN l.length 40 = true
abbrev shBI : SV := S [(6, .v .b), (7, .v I)]
abbrev sh42 : SV := S [(1, .v LK), (2, .v LE), (8, .box 0 (rollC 1 2)), (21, .v LE), (22, .v I), (23, .v I)]
abbrev sh42e : SV := S [(1, .v LK), (2, .v LE), (8, .box 0 (rollC 1 2))]
def ex42 : Ex2
 | .ret => some (shBI, 0)
 | _ => some (sh42e, 3)
abbrev lc42 : LC2 := ⟨0, sh42, 3, fun (tk, l, r, l2, m, i, _) Q => (okR (r.1, r.2.1, r.2.2.1, r.2.2.2.1) /\ r.2.2.2.2.1 = true /\ okTk tk /\ roomL l /\ l2 = l /\ m = l.length /\ 0 <= i /\ i <= l.length /\ (r.2.2.2.1.length : Int) <= i) /\
  ((runI tk (r.1, r.2.1, r.2.2.1, r.2.2.2.1) (l.drop i.toNat) = none -> Q .ret (stS 0 shBI (false, 0, ()))) /\
   ∀ (w1 d1 : Int) (ts1 : List Tk) (es1 : List Ev), runI tk (r.1, r.2.1, r.2.2.1, r.2.2.2.1) (l.drop i.toNat) = some (w1, d1, ts1, es1) -> Q (.exit 0) (stS 3 sh42e (tk, l, (w1, d1, ts1, es1, true, ()), ())))⟩
theorem v42L (w d0 : Int) (ts : List Tk) (es : List Ev) (tk : List Tk) (l : List Ev) (i : Int) (Q : AX -> St -> Prop) : (xloop2 Tryd.prog { nm := true, f2 := [(79, fcAgain)] } 5 42 0 lc42 ex42 (fun (_, l, _, _, _, i, _) => mL l i) (tk, l, (w, d0, ts, es, true, ()), l, l.length, i, ()) Q) =
 (fork (decide (i < (↑(l.length) : SV.den (SV.slot 22 (SV.v I))))) (req (decide ((0 : Int) <= i /\ i < (↑(l.length) : Int))) (req (decide (0 + ts.length <= ts.length)) (req (decide (0 + es.length <= es.length)) ((okR (w, d0,
 seg 0 (ts.length) ts, seg 0 (es.length) es) /\ true = true /\ fitsN (List.length (seg 0 (es.length) es) + 1) 40 = true /\ okTk tk) /\ ∀ (w1 d1 : Int) (ts1 : List Tk) (es1 : List Ev) (b : Bool), ((w1, d1, ts1, es1), b) =
 againI (w, d0, seg 0 (ts.length) ts, seg 0 (es.length) es) (List.getD l (Int.toNat i) (0, 0, 0, 0, 0)) tk -> fork (!b) (Q AX.ret (stS 0 shBI (false, (0 : Int), ()))) (req (inR IntKind.i64 (i + 1)) (req (decide (0 +
 ts1.length <= ts1.length)) (req (decide (0 + es1.length <= es1.length)) (mL l (i + 1) < mL l i /\ LC2.spec lc42 (tk, l, (w1, d1, seg 0 (ts1.length) ts1, seg 0 (es1.length) es1, true, ()), l, (↑(l.length) : SV.den (SV.slot 22
 (SV.v I))), i + 1, ()) Q)))))))) (req (decide (0 + ts.length <= ts.length)) (req (decide (0 + es.length <= es.length)) (Q (AX.exit 0) (stS 3 sh42e (tk, l, (w, d0, seg 0 (ts.length) ts, seg 0 (es.length) es, true, ()),
 ())))))) := by kernel_rfl
abbrev fcProp : FC := ⟨[.v I, .v LK, .v LE], [.b, I], fun x K => (okTk x.2.1 /\ roomL x.2.2.1) /\ ∀ (b : Bool) (e : Int), (b, e) = properI x.1 x.2.1 x.2.2.1 -> K (b, e, ())⟩
theorem v42F (w : Int) (tk : List Tk) (l : List Ev) (K : dens [.b, I] -> Prop) : (xfn1 Tryd.prog { nm := true, f := [(49, fcWith), (80, fcEqE), (81, fcEqK)], f2 := [(30, fcTix)], l2 := [(42, 0, lc42)] } 5 42 fcProp (w, tk, l, ()) K) =
 (fork (!decide ((0 : Int) <= w /\ w <= (1000 : Int))) (K (false, (7 : Int), ())) ((okR (w, (0 : Int), [], []) /\ true = true /\ okTk tk /\ roomL l /\ l = l /\ (↑(l.length) : Int) = (↑(l.length) : SV.den (SV.slot 22 (SV.v I))) /\
 (0 : SV.den (SV.slot 23 (SV.v I))) <= (0 : Int) /\ (0 : Int) <= (↑(l.length) : SV.den (SV.slot 23 (SV.v I))) /\ (0 : Int) <= (0 : Int)) /\ (runI tk (w, (0 : Int), [], []) (List.drop 0 l) = none -> K (false, (0 : SV.den (SV.slot
 7 (SV.v I))), ())) /\ ∀ (w1 d1 : Int) (ts1 : List Tk) (es1 : List Ev), runI tk (w, (0 : Int), [], []) (List.drop 0 l) = Option.some (w1, d1, ts1, es1) -> req (decide (0 + ts1.length <= ts1.length)) (req (decide (0 +
 es1.length <= es1.length)) ((List.length (seg 0 (ts1.length) ts1) <= 256 /\ ∀ (t : Ty.den T6), t ∈ seg 0 (ts1.length) ts1 -> List.length (t.2.2.2.1) <= 100) /\ ∀ (l_1 : List Tk), l_1 = seg 0 (ts1.length) ts1 -> req (decide (0 +
 List.length (seg 0 (es1.length) es1) <= List.length (seg 0 (es1.length) es1))) (List.length (seg 0 (List.length (seg 0 (es1.length) es1)) (seg 0 (es1.length) es1)) <= 9223372036854775807 /\ ∀ (b : Bool), b = decide (seg 0
 (List.length (seg 0 (es1.length) es1)) (seg 0 (es1.length) es1) = l) -> fork b ((edgesOk l_1 /\ l_1.length <= 9223372036854775807) /\ ∀ (b : Bool), b = decide (l_1 = tk) -> K (b, (0 : Int), ())) (K (false, (0 : Int), ()))))))) := by kernel_rfl
abbrev sh83 : SV := S [(0, .box 0 refL), (4, .box 3 ev5), (7, .v LK), (8, .own 4 .s), (9, .own 5 L), (10, .v I)]
abbrev sh83e : SV := S [(0, .box 0 refL), (4, .box 3 ev5), (8, .own 4 .s), (9, .own 5 L)]
abbrev lc83 : LC2 := ⟨3, sh83, 6, fun (r, x, l, ps, eds, i, _) Q => (0 <= i /\ i <= l.length /\ l.length <= 4 /\ (ps.length : Int) = i /\ (eds.length : Int) = i) /\
 Q (.exit 0) (stS 6 sh83e (r, x, ps ++ (l.drop i.toNat).map (·.2.1), eds ++ (l.drop i.toNat).map (·.2.2.2.1), ()))⟩
theorem v83L (w d0 : Int) (ts : List Tk) (es : List Ev) (x : Ev) (ps : List Tx) (eds : List (List Int)) (l : List Tk) (i : Int) (Q : AX -> St -> Prop) : (xloop2 Tryd.prog { nm := true } 5 83 0 lc83 (fun _ => some (sh83e, 6)) (fun (_, _, l, _, _, i, _) => mL l i) ((w, d0, ts, es, ()), (x.1, x.2.1, x.2.2.1, x.2.2.2.1, x.2.2.2.2, ()), l, ps, eds, i, ()) Q) =
 (fork (decide (i < (↑(l.length) : Int))) (req (decide ((0 : Int) <= i /\ i < (↑(l.length) : Int))) (req (decide ((0 : Int) <= i /\ i < (↑(l.length) : Int))) (req (decide (0 + ps.length <= ps.length)) (req (fitsN (ps.length +
 1) 16) (∀ (ys : List (Ty.den Ty.s)), ys = seg 0 (ps.length) ps ++ [(List.getD l (Int.toNat i) (0, [], 0, [], 0, 0)).2.1] -> AV.rl I ((List.getD l (Int.toNat i) (0, [], 0, [], 0, 0)).2.2.2.1) = AV.rl I ((List.getD l
 (Int.toNat i) (0, [], 0, [], 0, 0)).2.2.2.1) /\ req (decide (0 + eds.length <= eds.length)) (req (fitsN (eds.length + 1) 24) (∀ (ys_1 : List (Ty.den (Ty.sl (Ty.i IntKind.i64)))), ys_1 = seg 0 (eds.length) eds ++ [(List.getD
 l (Int.toNat i) (0, [], 0, [], 0, 0)).2.2.2.1] -> req (inR IntKind.i64 (i + 1)) (req (decide (ts.length = ts.length)) (req (decide (es.length = es.length)) (req (decide (0 + (ps.length + 1) <= ys.length)) (req (decide (0 +
 (eds.length + 1) <= ys_1.length)) (mL l (i + 1) < mL l i /\ LC2.spec lc83 ((w, d0, ts, es, ()), (x.1, x.2.1, x.2.2.1, x.2.2.2.1, x.2.2.2.2, ()), l, seg 0 (ps.length + 1) ys, seg 0 (eds.length + 1) ys_1, i + 1, ())
 Q)))))))))))) (req (decide (ts.length = ts.length)) (req (decide (es.length = es.length)) (req (decide (0 + ps.length <= ps.length)) (req (decide (0 + eds.length <= eds.length)) (Q (AX.exit 0) (stS 6 sh83e ((w, d0, ts, es,
 ()), (x.1, x.2.1, x.2.2.1, x.2.2.2.1, x.2.2.2.2, ()), seg 0 (ps.length) ps, seg 0 (eds.length) eds, ())))))))) := by kernel_rfl
abbrev fcAgR : FC2 := ⟨A [.box 0 (refC 1 2), .v E5, .v LK], 3, A [.box 0 (refC 3 4), .any, .any, .v .b], 5, fun ((w, d0, ts, es, _), x, tk, _) K => (okR (w, d0, ts, es) /\ roomy es /\ okTk tk) /\
 ∀ (w1 d1 : Int) (ts1 : List Tk) (es1 : List Ev) (b : Bool), ((w1, d1, ts1, es1), b) = againR (w, d0, ts, es) x tk -> K ((w1, d1, ts1, es1, ()), (), (), b, ())⟩
end Go.P3
