/- Days: the reference: states and what is to be shown, reduced. No conditions. -/
import Derived.Test.YtfenogdjhadcoaaDayS3
import Derived.Test.YtfenogdjhadcoaaRefS8
set_option linter.all false
set_option maxRecDepth 100000
set_option maxHeartbeats 2000000
namespace Go.P8
open Go.Lom Go.Proofs Go
abbrev sh54 : SV := S [(1, .box 0 (.v TDy)), (3, .v .b), (4, .v I)]
abbrev sh54e : SV := S [(1, .box 0 (.v TDy)), (3, .v .b)]
abbrev lc54a : LC2 := ⟨0, sh54, 1, fun (d, ok, i, _) Q => (0 <= i /\ i <= d.1.length /\ d.1.length <= big /\ (ok = true -> d.2.2.length = d.1.length)) /\ ∀ b : Bool, b = (ok && ((d.1.drop i.toNat).all sumOk && (d.2.2.drop i.toNat).all sumOk)) -> Q (.exit 0) (stS 1 sh54e (d, b, ()))⟩
theorem v54A (o cn : List Int) (ps : List Po) (ok : Bool) (i : Int) (Q : AX -> St -> Prop) : (xloop2 Try.prog { f := [(26, fcFrom')] } 5 54 0 lc54a (fun _ => some (sh54e, 1)) (fun (d, _, i, _) => (d.1.length + 1 - i).toNat) ((o, ps, cn), ok, i, ()) Q) =
 (fork ok (fork (decide (i < (↑(o.length) : Int))) (req (decide ((0 : Int) <= i /\ i < (↑(o.length) : Int))) (∀ (b : Bool), b = decide ((0 : Int) <= List.getD o (Int.toNat i) (0 : Int) /\ List.getD o (Int.toNat i) (0 : Int) <=
 (1073741824 : Int)) -> fork b (req (decide ((0 : Int) <= i /\ i < (↑(cn.length) : Int))) (∀ (b : Bool), b = decide ((0 : Int) <= List.getD cn (Int.toNat i) (0 : Int) /\ List.getD cn (Int.toNat i) (0 : Int) <= (1073741824 :
 Int)) -> req (inR IntKind.i64 (i + 1)) (Int.toNat ((↑(o.length) : SV.den (SV.slot 4 (SV.v I))) + (1 : SV.den (SV.slot 4 (SV.v I))) - (i + 1)) < Int.toNat ((↑(o.length) : SV.den (SV.slot 4 (SV.v I))) + (1 : SV.den (SV.slot
 4 (SV.v I))) - i) /\ LC2.spec lc54a ((o, ps, cn), b, i + 1, ()) Q))) (req (inR IntKind.i64 (i + 1)) (Int.toNat ((↑(o.length) : SV.den (SV.slot 4 (SV.v I))) + (1 : SV.den (SV.slot 4 (SV.v I))) - (i + 1)) < Int.toNat
 ((↑(o.length) : SV.den (SV.slot 4 (SV.v I))) + (1 : SV.den (SV.slot 4 (SV.v I))) - i) /\ LC2.spec lc54a ((o, ps, cn), false, i + 1, ()) Q)))) (Q (AX.exit 0) (stS 1 sh54e ((o, ps, cn), ok, ())))) (Q (AX.exit 0) (stS 1 sh54e
 ((o, ps, cn), ok, ())))) := by kernel_rfl
abbrev sh54b : SV := S [(1, .box 0 (.v TDy)), (3, .v .b), (5, .v I)]
abbrev sh54be : SV := S [(3, .v .b)]
abbrev lc54b : LC2 := ⟨0, sh54b, 1, fun (d, ok, i, _) Q => (0 <= i /\ i <= d.2.1.length /\ d.1.length <= big /\ d.2.1.length <= big) /\ ∀ b : Bool, b = (ok && (d.2.1.drop i.toNat).all (poOk d.1.length)) -> Q (.exit 2) (stS 0 sh54be (b, ()))⟩
theorem v54B (o cn : List Int) (ps : List Po) (ok : Bool) (i : Int) (Q : AX -> St -> Prop) : (xloop2 Try.prog { f := [(26, fcFrom')] } 5 54 1 lc54b (fun _ => some (sh54be, 0)) (fun (d, _, i, _) => mL d.2.1 i) ((o, ps, cn), ok, i, ()) Q) =
 (fork (decide (i < (↑(ps.length) : Int))) (req (decide ((0 : Int) <= i /\ i < (↑(ps.length) : Int))) (fork ok (req (inR IntKind.i64 ((↑(o.length) : Int) - 1)) (∀ (b : Bool), b = decide ((0 : Int) <= (List.getD ps (Int.toNat
 i) ((0 : Int), (0 : Int), (0 : Int))).1 /\ (List.getD ps (Int.toNat i) ((0 : Int), (0 : Int), (0 : Int))).1 <= (↑(o.length) : Int) - 1) -> fork b (req (inR IntKind.i64 ((↑(o.length) : Int) - 1)) (∀ (b : Bool), b = decide ((0
 : Int) <= (List.getD ps (Int.toNat i) ((0 : Int), (0 : Int), (0 : Int))).2.1 /\ (List.getD ps (Int.toNat i) ((0 : Int), (0 : Int), (0 : Int))).2.1 <= (↑(o.length) : Int) - 1) -> fork b (fork ((List.getD ps (Int.toNat i) ((0 :
 Int), (0 : Int), (0 : Int))).1 != (List.getD ps (Int.toNat i) ((0 : Int), (0 : Int), (0 : Int))).2.1) (∀ (b : Bool), b = decide ((1 : Int) <= (List.getD ps (Int.toNat i) ((0 : Int), (0 : Int), (0 : Int))).2.2 /\ (List.getD
 ps (Int.toNat i) ((0 : Int), (0 : Int), (0 : Int))).2.2 <= (1073741824 : Int)) -> req (inR IntKind.i64 (i + 1)) (mL ps (i + 1) < mL ps i /\ LC2.spec lc54b ((o, ps, cn), b, i + 1, ()) Q)) (req (inR IntKind.i64 (i + 1)) (mL ps
 (i + 1) < mL ps i /\ LC2.spec lc54b ((o, ps, cn), false, i + 1, ()) Q))) (req (inR IntKind.i64 (i + 1)) (mL ps (i + 1) < mL ps i /\ LC2.spec lc54b ((o, ps, cn), false, i + 1, ()) Q)))) (req (inR IntKind.i64 (i + 1)) (mL ps
 (i + 1) < mL ps i /\ LC2.spec lc54b ((o, ps, cn), false, i + 1, ()) Q)))) (req (inR IntKind.i64 (i + 1)) (mL ps (i + 1) < mL ps i /\ LC2.spec lc54b ((o, ps, cn), false, i + 1, ()) Q)))) (Q (AX.exit 2) (stS 0 sh54be (ok,
 ())))) := by kernel_rfl
abbrev fc54 : FC := ⟨[.v TDy], [E], fun x K => bigD x.1 /\ ∀ e : Int, e = (if dayOk x.1 = true then 0 else 84) -> K (e, ())⟩
theorem v54F (o cn : List Int) (ps : List Po) (K : dens [E] -> Prop) : (xfn1 Try.prog { f := [(26, fcFrom')], l2 := [(54, 0, lc54a), (54, 1, lc54b)] } 5 54 fc54 ((o, ps, cn), ()) K) =
 (∀ (b : Bool), b = decide ((2 : Int) <= (↑(o.length) : Int) /\ (↑(o.length) : Int) <= (8 : Int)) -> fork b (fork ((↑(cn.length) : Int) == (↑(o.length) : Int)) (((0 : SV.den (SV.slot 4 (SV.v I))) <= (0 : Int) /\ (0 : Int) <=
 (↑(o.length) : SV.den (SV.slot 4 (SV.v I))) /\ o.length <= 9223372036854775807 /\ (decide ((↑(ps.length) : Int) <= (16 : Int)) = true -> cn.length = o.length)) /\ ∀ (b : Bool), b = (decide ((↑(ps.length) : Int) <= (16 : Int)) &&
 (List.all (List.drop 0 o) sumOk && List.all (List.drop 0 cn) sumOk)) -> ((0 : SV.den (SV.slot 5 (SV.v I))) <= (0 : Int) /\ (0 : Int) <= (↑(ps.length) : SV.den (SV.slot 5 (SV.v I))) /\ o.length <= 9223372036854775807 /\ ps.length
 <= 9223372036854775807) /\ ∀ (b_1 : Bool), b_1 = (b && List.all (List.drop 0 ps) (poOk (o.length))) -> fork (!b_1) (K ((84 : Int), ())) (K ((0 : Int), ()))) (((0 : SV.den (SV.slot 4 (SV.v I))) <= (0 : Int) /\ (0 : Int) <=
 (↑(o.length) : SV.den (SV.slot 4 (SV.v I))) /\ o.length <= 9223372036854775807 /\ (false = true -> cn.length = o.length)) /\ ∀ (b : Bool), b = (false && (List.all (List.drop 0 o) sumOk && List.all (List.drop 0 cn) sumOk)) ->
 ((0 : SV.den (SV.slot 5 (SV.v I))) <= (0 : Int) /\ (0 : Int) <= (↑(ps.length) : SV.den (SV.slot 5 (SV.v I))) /\ o.length <= 9223372036854775807 /\ ps.length <= 9223372036854775807) /\ ∀ (b_1 : Bool), b_1 = (b && List.all
 (List.drop 0 ps) (poOk (o.length))) -> fork (!b_1) (K ((84 : Int), ())) (K ((0 : Int), ())))) (((0 : SV.den (SV.slot 4 (SV.v I))) <= (0 : Int) /\ (0 : Int) <= (↑(o.length) : SV.den (SV.slot 4 (SV.v I))) /\ o.length <=
 9223372036854775807 /\ (false = true -> cn.length = o.length)) /\ ∀ (b : Bool), b = (false && (List.all (List.drop 0 o) sumOk && List.all (List.drop 0 cn) sumOk)) -> ((0 : SV.den (SV.slot 5 (SV.v I))) <= (0 : Int) /\ (0 : Int)
 <= (↑(ps.length) : SV.den (SV.slot 5 (SV.v I))) /\ o.length <= 9223372036854775807 /\ ps.length <= 9223372036854775807) /\ ∀ (b_1 : Bool), b_1 = (b && List.all (List.drop 0 ps) (poOk (o.length))) -> fork (!b_1) (K ((84 : Int),
 ())) (K ((0 : Int), ())))) := by kernel_rfl
abbrev fc62 : FC2 := ⟨A [.v L], 0, A [.any, .own 0 I], 1, fun (l, _) K => l.length <= 1000 /\ ∀ r : List Int, r = l -> K ((), r, ())⟩
theorem v62F (l : List Int) (K : fc62.post.den -> Prop) : (xfn2 Try.prog {} 5 62 fc62 (l, ()) K) =
 (req (fitsN (0 + l.length) 8) (req (decide (0 + (0 + l.length) <= List.length ([] ++ l))) (K ((), seg 0 (0 + l.length) ([] ++ l), ())))) := by kernel_rfl
def okM (l : List Int) (f t s : Int) : Prop := l.length <= 8 /\ (0 <= f /\ f < l.length) /\ (0 <= t /\ t < l.length) /\ offB 1099511627776 l /\ -1099511627776 <= s /\ s <= 1099511627776
abbrev fc83 : FC := ⟨[.v L, .v I, .v I, .v I], [L], fun x K => okM x.1 x.2.1 x.2.2.1 x.2.2.2.1 /\ ∀ r : List Int, r = moveI x.1 x.2.1 x.2.2.1 x.2.2.2.1 -> K (r, ())⟩
theorem v83F (l : List Int) (f t s : Int) (K : dens [L] -> Prop) : (xfn1 Try.prog { nm := true, f2 := [(62, fc62)] } 5 83 fc83 (l, f, t, s, ()) K) =
 (l.length <= 1000 /\ ∀ (r : List Int), r = l -> req (decide ((0 : Int) <= f /\ f < (↑(r.length) : Int))) (req (decide (Int.toNat f + 0 < r.length)) (req (inR IntKind.i64 (List.getD r (Int.toNat f + 0) (0 : Int) - s)) (req
 (decide ((0 : Int) <= f /\ f < (↑(r.length) : Int))) (req (decide (Int.toNat f + 0 < r.length)) (∀ (ys : List (Ty.den I)), ys = List.set r (Int.toNat f + 0) (List.getD r (Int.toNat f + 0) (0 : Int) - s) -> req (decide ((0 :
 Int) <= t /\ t < (↑(r.length) : Int))) (req (decide (Int.toNat t + 0 < ys.length)) (req (inR IntKind.i64 (List.getD ys (Int.toNat t + 0) (0 : Int) + s)) (req (decide ((0 : Int) <= t /\ t < (↑(r.length) : Int))) (req (decide
 (Int.toNat t + 0 < ys.length)) (∀ (ys_1 : List (Ty.den I)), ys_1 = List.set ys (Int.toNat t + 0) (List.getD ys (Int.toNat t + 0) (0 : Int) + s) -> req (decide (0 + r.length <= ys_1.length)) (K (seg 0 (r.length) ys_1,
 ()))))))))))))) := by kernel_rfl
abbrev sh55 : SV := S [(1, .box 0 (.v TDy)), (3, .v L), (4, .v I)]
abbrev sh55e : SV := S [(3, .v L)]
abbrev lc55 : LC2 := ⟨0, sh55, 1, fun (d, l, i, _) Q => (dayOk d = true /\ l.length = d.1.length /\ (0 <= i /\ i <= d.2.1.length) /\ offB ((1 + 2 * i) * 1073741824) l) /\ Q (.exit 0) (stS 0 sh55e (balI l (d.2.1.drop i.toNat), ()))⟩
theorem v55L (o cn : List Int) (ps : List Po) (l : List Int) (i : Int) (Q : AX -> St -> Prop) : (xloop2 Try.prog { nm := true, f := [(83, fc83)] } 5 55 0 lc55 (fun _ => some (sh55e, 0)) (fun (d, _, i, _) => mL d.2.1 i) ((o, ps, cn), l, i, ()) Q) =
 (fork (decide (i < (↑(ps.length) : Int))) (req (decide ((0 : Int) <= i /\ i < (↑(ps.length) : Int))) (okM l ((List.getD ps (Int.toNat i) ((0 : Int), (0 : Int), (0 : Int))).1) ((List.getD ps (Int.toNat i) ((0 : Int), (0 :
 Int), (0 : Int))).2.1) ((List.getD ps (Int.toNat i) ((0 : Int), (0 : Int), (0 : Int))).2.2) /\ ∀ (r : List Int), r = moveI l ((List.getD ps (Int.toNat i) ((0 : Int), (0 : Int), (0 : Int))).1) ((List.getD ps (Int.toNat i)
 ((0 : Int), (0 : Int), (0 : Int))).2.1) ((List.getD ps (Int.toNat i) ((0 : Int), (0 : Int), (0 : Int))).2.2) -> req (inR IntKind.i64 (i + 1)) (mL ps (i + 1) < mL ps i /\ LC2.spec lc55 ((o, ps, cn), r, i + 1, ()) Q))) (Q
 (AX.exit 0) (stS 0 sh55e (l, ())))) := by kernel_rfl
abbrev fc55 : FC := ⟨[.v TDy], [L], fun x K => dayOk x.1 = true /\ ∀ r : List Int, r = balI x.1.1 x.1.2.1 -> K (r, ())⟩
theorem v55F (o cn : List Int) (ps : List Po) (K : dens [L] -> Prop) : (xfn1 Try.prog { nm := true, f2 := [(62, fc62)], l2 := [(55, 0, lc55)] } 5 55 fc55 ((o, ps, cn), ()) K) =
 ((dayOk (o, ps, cn) = true /\ o.length = o.length /\ ((0 : SV.den (SV.slot 4 (SV.v I))) <= (0 : Int) /\ (0 : Int) <= (↑(ps.length) : SV.den (SV.slot 4 (SV.v I)))) /\ offB (1073741824 : Int) o) /\ List.length (balI o (List.drop 0
 ps)) <= 1000 /\ ∀ (r : List Int), r = balI o (List.drop 0 ps) -> req (decide (0 + r.length <= r.length)) (K (seg 0 (r.length) r, ()))) := by kernel_rfl
theorem v21F (o cn : List Int) (ps : List Po) (K : dens [L, E] -> Prop) : (xfn1 Try.prog { nm := true, f := [(54, fc54), (55, fc55)] } 5 21 fc20 ((o, ps, cn), ()) K) =
 (bigD (o, ps, cn) /\ ∀ (e : Int), (e = if dayOk (o, ps, cn) = true then (0 : Int) else (84 : Int)) -> fork (e != (0 : Int)) (K ([], e, ())) (dayOk (o, ps, cn) = true /\ ∀ (r : List Int), r = balI o ps -> K (r, (0 : Int),
 ()))) := by kernel_rfl
abbrev sh109 : SV := S [(0, .v L), (1, .v I), (5, .v I)]
abbrev lc109 : LC2 := ⟨0, sh109, 0, fun (l, n, i, _) Q => (0 <= i /\ i <= l.length /\ l.length <= 1000) /\ ((n ∉ l.drop i.toNat) -> Q (.exit 0) (stS 0 .nil ())) /\ (n ∈ l.drop i.toNat -> ∀ r : Int, 0 <= r -> Q .ret (stS 0 shR4i (r, ())))⟩
theorem v109L (l : List Int) (n i : Int) (Q : AX -> St -> Prop) : (xloop2 Try.prog {} 5 109 0 lc109 ex84 (fun (l, _, i, _) => mL l i) (l, n, i, ()) Q) =
 (fork (decide (i < (↑(l.length) : Int))) (req (decide ((0 : Int) <= i /\ i < (↑(l.length) : Int))) (fork (List.getD l (Int.toNat i) (0 : Int) == n) (Q AX.ret (stS 0 shR4i (i, ()))) (req (inR IntKind.i64 (i + 1)) (mL l (i +
 1) < mL l i /\ LC2.spec lc109 (l, n, i + 1, ()) Q)))) (Q (AX.exit 0) (stS 0 SV.nil ()))) := by kernel_rfl
abbrev fc109 : FC := ⟨[.v L, .v I], [I], fun x K => x.1.length <= 1000 /\ ∀ r : Int, (0 <= r ↔ x.2.1 ∈ x.1) -> K (r, ())⟩
theorem v109F (l : List Int) (n : Int) (K : dens [I] -> Prop) : (xfn1 Try.prog { l2 := [(109, 0, lc109)] } 5 109 fc109 (l, n, ()) K) =
 (((0 : SV.den (SV.slot 5 (SV.v I))) <= (0 : Int) /\ (0 : Int) <= (↑(l.length) : SV.den (SV.slot 5 (SV.v I))) /\ l.length <= 1000) /\ (¬n ∈ List.drop 0 l -> K ((-1 : Int), ())) /\ (n ∈ List.drop 0 l -> ∀ (r : Int), (0 : Int) <= r ->
 K (r, ()))) := by kernel_rfl
abbrev sh91a : SV := S [(0, .v I), (3, .own 0 I), (4, .v I)]
abbrev sh91ae : SV := S [(0, .v I), (3, .own 0 I)]
abbrev lc91a : LC2 := ⟨0, sh91a, 1, fun (s, l, t, _) Q => (1 <= s /\ s <= 1073741824 /\ 1 <= t /\ t <= 1073741824 /\ (l.length : Int) <= t + 2) /\ Q (.exit 0) (stS 1 sh91ae (s, l ++ swK s 12 t, ()))⟩
theorem v91A (s : Int) (l : List Int) (t : Int) (Q : AX -> St -> Prop) : (xloop2 Try.prog { nm := true } 5 91 0 lc91a (fun _ => some (sh91ae, 1)) (fun (s, _, t, _) => (s + 1 - t).toNat) (s, l, t, ()) Q) =
 (req (inR IntKind.i64 ((10 : Int) * t)) (fork (decide ((10 : Int) * t <= s)) (req (decide (t ≠ (0 : Int))) (req (inR IntKind.i64 (Int.tdiv s t)) (req (inR IntKind.i64 ((10 : Int) * t)) (req (decide ((10 : Int) * t ≠ (0 :
 Int))) (req (inR IntKind.i64 (Int.tdiv s ((10 : Int) * t))) (req (inR IntKind.i64 (Int.tmod (Int.tdiv s t) (10 : Int) - Int.tmod (Int.tdiv s ((10 : Int) * t)) (10 : Int))) (req (inR IntKind.i64 ((Int.tmod (Int.tdiv s t)
 (10 : Int) - Int.tmod (Int.tdiv s ((10 : Int) * t)) (10 : Int)) * (10 : Int))) (req (inR IntKind.i64 ((Int.tmod (Int.tdiv s t) (10 : Int) - Int.tmod (Int.tdiv s ((10 : Int) * t)) (10 : Int)) * (10 : Int) * t)) (req (inR
 IntKind.i64 (s + (Int.tmod (Int.tdiv s t) (10 : Int) - Int.tmod (Int.tdiv s ((10 : Int) * t)) (10 : Int)) * (10 : Int) * t)) (req (inR IntKind.i64 (Int.tmod (Int.tdiv s ((10 : Int) * t)) (10 : Int) - Int.tmod (Int.tdiv s
 t) (10 : Int))) (req (inR IntKind.i64 ((Int.tmod (Int.tdiv s ((10 : Int) * t)) (10 : Int) - Int.tmod (Int.tdiv s t) (10 : Int)) * t)) (req (inR IntKind.i64 (s + (Int.tmod (Int.tdiv s t) (10 : Int) - Int.tmod (Int.tdiv s
 ((10 : Int) * t)) (10 : Int)) * (10 : Int) * t + (Int.tmod (Int.tdiv s ((10 : Int) * t)) (10 : Int) - Int.tmod (Int.tdiv s t) (10 : Int)) * t)) (req (decide (0 + l.length <= l.length)) (req (fitsN (l.length + 1) 8) (∀ (ys
 : List (Ty.den (Ty.i IntKind.i64))), ys = seg 0 (l.length) l ++ [s + (Int.tmod (Int.tdiv s t) (10 : Int) - Int.tmod (Int.tdiv s ((10 : Int) * t)) (10 : Int)) * (10 : Int) * t + (Int.tmod (Int.tdiv s ((10 : Int) * t)) (10
 : Int) - Int.tmod (Int.tdiv s t) (10 : Int)) * t] -> req (inR IntKind.i64 ((10 : Int) * t)) (req (decide (0 + (l.length + 1) <= ys.length)) (Int.toNat (s + (1 : SV.den (SV.slot 0 (SV.v I))) - 10 * t) < Int.toNat (s + (1 :
 SV.den (SV.slot 0 (SV.v I))) - t) /\ LC2.spec lc91a (s, seg 0 (l.length + 1) ys, (10 : Int) * t, ()) Q))))))))))))))))) (req (decide (0 + l.length <= l.length)) (Q (AX.exit 0) (stS 1 sh91ae (s, seg 0 (l.length) l, ())))))) := by kernel_rfl
def leadI (x : Int) : List Int -> Nat
 | [] => 0
 | y :: l => if y < x then leadI x l + 1 else 0
abbrev sh91c : SV := S [(0, .v I), (3, .v L), (7, .own 0 I), (8, .v I), (9, .v I)]
abbrev lc91c : LC2 := ⟨0, sh91c, 1, fun (s, l, o, i, a, _) Q => (0 <= i /\ i < l.length /\ 0 <= a /\ a <= o.length /\ o.length <= 1000) /\ ∀ a' : Int, a' = a + leadI (l.getD i.toNat 0) (o.drop a.toNat) -> Q (.exit 4) (stS 1 sh91c (s, l, o, i, a', ()))⟩
theorem v91C (s : Int) (l o : List Int) (i a : Int) (Q : AX -> St -> Prop) : (xloop2 Try.prog { nm := true } 5 91 2 lc91c (fun _ => some (sh91c, 1)) (fun (_, _, o, _, a, _) => mL o a) (s, l, o, i, a, ()) Q) =
 (fork (decide (a < (↑(o.length) : Int))) (req (decide ((0 : Int) <= a /\ a < (↑(o.length) : Int))) (req (decide (Int.toNat a + 0 < o.length)) (req (decide ((0 : Int) <= i /\ i < (↑(l.length) : Int))) (fork (decide (List.getD
 o (Int.toNat a + 0) (0 : Int) < List.getD l (Int.toNat i) (0 : Int))) (req (inR IntKind.i64 (a + 1)) (req (decide (0 + o.length <= o.length)) (mL (seg 0 (o.length) o) (a + 1) < mL o a /\ LC2.spec lc91c (s, l, seg 0
 (o.length) o, i, a + 1, ()) Q))) (req (decide (0 + o.length <= o.length)) (Q (AX.exit 4) (stS 1 sh91c (s, l, seg 0 (o.length) o, i, a, ())))))))) (req (decide (0 + o.length <= o.length)) (Q (AX.exit 4) (stS 1 sh91c (s, l,
 seg 0 (o.length) o, i, a, ()))))) := by kernel_rfl
abbrev sh91b : SV := S [(0, .v I), (3, .v L), (7, .own 0 I), (8, .v I)]
abbrev sh91be : SV := S [(7, .own 0 I)]
abbrev lc91b : LC2 := ⟨0, sh91b, 1, fun (s, l, o, i, _) Q => (0 <= i /\ i <= l.length /\ l.length <= 100 /\ (o.length : Int) <= i) /\ Q (.exit 2) (stS 1 sh91be ((l.drop i.toNat).foldl (stepR s) o, ()))⟩
theorem v91B (s : Int) (l o : List Int) (i : Int) (Q : AX -> St -> Prop) : (xloop2 Try.prog { nm := true, f := [(109, fc109)], l2 := [(91, 2, lc91c)] } 5 91 1 lc91b (fun _ => some (sh91be, 1)) (fun (_, l, _, i, _) => mL l i) (s, l, o, i, ()) Q) =
 (fork (decide (i < (↑(l.length) : Int))) (req (decide ((0 : Int) <= i /\ i < (↑(l.length) : Int))) (fork (List.getD l (Int.toNat i) (0 : Int) == s) (req (inR IntKind.i64 (i + 1)) (req (decide (0 + o.length <= o.length)) (mL
 l (i + 1) < mL l i /\ LC2.spec lc91b (s, l, seg 0 (o.length) o, i + 1, ()) Q))) (req (decide ((0 : Int) <= i /\ i < (↑(l.length) : Int))) (req (decide (0 + o.length <= o.length)) (List.length (seg 0 (o.length) o) <= 1000 /\ ∀
 (r : Int), ((0 : Int) <= r ↔ List.getD l (Int.toNat i) (0 : Int) ∈ seg 0 (o.length) o) -> fork (decide (r >= (0 : Int))) (req (inR IntKind.i64 (i + 1)) (req (decide (0 + o.length <= o.length)) (mL l (i + 1) < mL l i /\
 LC2.spec lc91b (s, l, seg 0 (o.length) o, i + 1, ()) Q))) (req (decide (0 + o.length <= o.length)) (((0 : SV.den (SV.slot 8 (SV.v I))) <= i /\ i < (↑(l.length) : SV.den (SV.slot 8 (SV.v I))) /\ (0 : SV.den (SV.slot 9 (SV.v
 I))) <= (0 : Int) /\ (0 : Int) <= (↑(List.length (seg 0 (o.length) o)) : SV.den (SV.slot 9 (SV.v I))) /\ List.length (seg 0 (o.length) o) <= 1000) /\ ∀ (a' : Int), a' = (0 : Int) + (↑(leadI (List.getD l (Int.toNat i) (0 :
 Ty.den I)) (List.drop 0 (seg 0 (o.length) o))) : Int) -> req (decide ((0 : Int) <= (0 : Int) /\ (0 : Int) <= a' /\ a' <= (↑(List.length (seg 0 (o.length) o)) : Int) /\ List.length (seg 0 (o.length) o) <= List.length (seg 0
 (o.length) o))) (req (decide ((0 : Int) <= i /\ i < (↑(l.length) : Int))) (req (decide ((0 : Int) <= a' /\ a' <= (↑(List.length (seg 0 (o.length) o)) : Int) /\ (↑(List.length (seg 0 (o.length) o)) : Int) <= (↑(List.length (seg 0
 (o.length) o)) : Int) /\ List.length (seg 0 (o.length) o) <= List.length (seg 0 (o.length) o))) (req (decide (0 + Int.toNat a' <= List.length (seg 0 (o.length) o))) (req (fitsN (List.length (seg 0 (Int.toNat a') (seg 0
 (o.length) o))) 8) (∀ (ys : List (Ty.den (Ty.i IntKind.i64))), ys = seg 0 (Int.toNat a') (seg 0 (o.length) o) -> AV.int IntKind.i64 (List.getD l (Int.toNat i) (0 : Int)) = AV.int IntKind.i64 (List.getD l (Int.toNat i) (0 :
 Int)) /\ req (decide (0 + List.length (seg 0 (Int.toNat a') (seg 0 (o.length) o)) <= ys.length)) (req (fitsN (List.length (seg 0 (Int.toNat a') (seg 0 (o.length) o)) + 1) 8) (∀ (ys_1 : List (Ty.den (Ty.i IntKind.i64))),
 ys_1 = seg 0 (List.length (seg 0 (Int.toNat a') (seg 0 (o.length) o))) ys ++ [List.getD l (Int.toNat i) (0 : Int)] -> req (decide (Int.toNat a' + (List.length (seg 0 (o.length) o) - Int.toNat a') <= List.length (seg 0
 (o.length) o))) (req (decide (0 + (List.length (seg 0 (Int.toNat a') (seg 0 (o.length) o)) + 1) <= ys_1.length)) (req (fitsN (List.length (seg 0 (Int.toNat a') (seg 0 (o.length) o)) + 1 + List.length (seg (Int.toNat a')
 (List.length (seg 0 (o.length) o) - Int.toNat a') (seg 0 (o.length) o))) 8) (∀ (ys : List (Ty.den (Ty.i IntKind.i64))), ys = seg 0 (List.length (seg 0 (Int.toNat a') (seg 0 (o.length) o)) + 1) ys_1 ++ seg (Int.toNat a')
 (List.length (seg 0 (o.length) o) - Int.toNat a') (seg 0 (o.length) o) -> req (inR IntKind.i64 (i + 1)) (req (decide (0 + (List.length (seg 0 (Int.toNat a') (seg 0 (o.length) o)) + 1 + List.length (seg (Int.toNat a')
 (List.length (seg 0 (o.length) o) - Int.toNat a') (seg 0 (o.length) o))) <= ys.length)) (mL l (i + 1) < mL l i /\ LC2.spec lc91b (s, l, seg 0 (List.length (seg 0 (Int.toNat a') (seg 0 (o.length) o)) + 1 + List.length (seg
 (Int.toNat a') (List.length (seg 0 (o.length) o) - Int.toNat a') (seg 0 (o.length) o))) ys, i + 1, ()) Q))))))))))))))))))) (req (decide (0 + o.length <= o.length)) (Q (AX.exit 2) (stS 1 sh91be (seg 0 (o.length) o, ()))))) := by kernel_rfl
theorem v91F (s : Int) (K : dens [L] -> Prop) : (xfn1 Try.prog { nm := true, l2 := [(91, 0, lc91a), (91, 1, lc91b)] } 5 91 fcReally (s, ()) K) =
 (req (inR IntKind.i64 ((2 : Int) * s)) (((1 : SV.den (SV.slot 0 (SV.v I))) <= s /\ s <= (1073741824 : SV.den (SV.slot 0 (SV.v I))) /\ (1 : SV.den (SV.slot 4 (SV.v I))) <= (1 : Int) /\ (1 : Int) <= (1073741824 : SV.den (SV.slot 4
 (SV.v I))) /\ (2 : Int) <= (1 : Int) + 2) /\ req (decide (0 + List.length ([(0 : Int), (2 : Int) * s] ++ swK s 12 (1 : Int)) <= List.length ([(0 : Int), (2 : Int) * s] ++ swK s 12 (1 : Int)))) (((0 : SV.den (SV.slot 8 (SV.v
 I))) <= (0 : Int) /\ (0 : Int) <= (↑(List.length (seg 0 (List.length ([(0 : Int), (2 : Int) * s] ++ swK s 12 (1 : Int))) ([(0 : Int), (2 : Int) * s] ++ swK s 12 (1 : Int)))) : SV.den (SV.slot 8 (SV.v I))) /\ List.length (seg
 0 (List.length ([(0 : Int), (2 : Int) * s] ++ swK s 12 (1 : Int))) ([(0 : Int), (2 : Int) * s] ++ swK s 12 (1 : Int))) <= 100 /\ (0 : Int) <= (0 : Int)) /\ req (decide (0 + List.length (List.foldl (stepR s) [] (List.drop 0
 (seg 0 (List.length ([(0 : Int), (2 : Int) * s] ++ swK s 12 (1 : Int))) ([(0 : Int), (2 : Int) * s] ++ swK s 12 (1 : Int))))) <= List.length (List.foldl (stepR s) [] (List.drop 0 (seg 0 (List.length ([(0 : Int), (2 : Int)
 * s] ++ swK s 12 (1 : Int))) ([(0 : Int), (2 : Int) * s] ++ swK s 12 (1 : Int))))))) (K (seg 0 (List.length (List.foldl (stepR s) [] (List.drop 0 (seg 0 (List.length ([(0 : Int), (2 : Int) * s] ++ swK s 12 (1 : Int)))
 ([(0 : Int), (2 : Int) * s] ++ swK s 12 (1 : Int)))))) (List.foldl (stepR s) [] (List.drop 0 (seg 0 (List.length ([(0 : Int), (2 : Int) * s] ++ swK s 12 (1 : Int))) ([(0 : Int), (2 : Int) * s] ++ swK s 12 (1 : Int))))),
 ()))))) := by kernel_rfl
structure okB (b : List Int) (d : Dy) (more : Int) : Prop where
 day : dayOk d = true
 len : b.length = d.1.length
 bnd : offB (bd more) b
 cnt : 0 <= more /\ more <= 3
abbrev fc61 (c : Nat) : FC := ⟨[.v TDy, .v L, .v I, .v I], [LM, .b], fun x K => (okB x.2.1 x.1 x.2.2.2.1 /\ x.2.2.2.1 < c /\ 0 <= x.2.2.1 /\ x.2.2.1 <= 16) /\
 ∀ (r : List Mi) (b : Bool), b = (expl x.1.2.1 x.2.2.2.1.toNat (subI x.2.1 x.1.2.2) x.2.2.1.toNat).isSome -> (∀ l, expl x.1.2.1 x.2.2.2.1.toNat (subI x.2.1 x.1.2.2) x.2.2.1.toNat = some l -> r = l) -> K (r, b, ())⟩
abbrev sh61b : SV := S [(1, .v L), (3, .v I), (4, .box 0 (.v TDy)), (10, .v I), (11, .box 1 (.v TP)), (12, .v L), (13, .v I)]
abbrev sh61 : SV := S [(1, .v L), (3, .v I), (4, .box 0 (.v TDy)), (10, .v I)]
abbrev sh61r : SV := S [(8, .v LM), (9, .v .b)]
def ex61b : Ex2
 | .ret => some (sh61r, 0)
 | _ => some (sh61, 1)
def ex61 : Ex2
 | .ret => some (sh61r, 0)
 | _ => some (.nil, 0)
abbrev lc61b (c : Nat) : LC2 := ⟨0, sh61b, 2, fun (b, more, d, i, p, ns, k, _) Q => (okB b d more /\ 1 <= more /\ more <= c /\ (0 <= i /\ i < d.2.1.length) /\ p = poA d.2.1 i.toNat /\ ns = reallyI p.2.2 /\ 0 <= k /\ k <= ns.length) /\
 (expN d.2.1 (more - 1).toNat (subI b d.2.2) i.toNat (ns.drop k.toNat) = none -> Q (.exit 2) (stS 1 sh61 (b, more, d, i, ()))) /\ (∀ l, expN d.2.1 (more - 1).toNat (subI b d.2.2) i.toNat (ns.drop k.toNat) = some l -> Q .ret (stS 0 sh61r (l, true, ())))⟩
theorem v61B (c : Nat) (b : List Int) (more : Int) (o cn : List Int) (ps : List Po) (i p1 p2 p3 : Int) (ns : List Int) (k : Int) (Q : AX -> St -> Prop) : (xloop2 Try.prog { nm := true, f := [(61, fc61 c), (83, fc83)] } 5 61 1 (lc61b c) ex61b (fun (_, _, _, _, _, ns, k, _) => mL ns k) (b, more, (o, ps, cn), i, (p1, p2, p3), ns, k, ()) Q) =
 (fork (decide (k < (↑(ns.length) : Int))) (req (decide ((0 : Int) <= k /\ k < (↑(ns.length) : Int))) (req (inR IntKind.i64 (List.getD ns (Int.toNat k) (0 : Int) - p3)) (req (inR IntKind.i64 (i + 1)) (req (inR IntKind.i64
 (more - 1)) (okM b p1 p2 (List.getD ns (Int.toNat k) (0 : Int) - p3) /\ ∀ (r : List Int), r = moveI b p1 p2 (List.getD ns (Int.toNat k) (0 : Int) - p3) -> AV.agg [AV.rl I o, AV.rl TP ps, AV.rl I cn] = AV.agg [AV.rl I o,
 AV.rl TP ps, AV.rl I cn] /\ (okB r (o, ps, cn) (more - 1) /\ more - 1 < (↑c : AT.den (AT.v I)) /\ (0 : AT.den (AT.v I)) <= i + 1 /\ i + 1 <= (16 : AT.den (AT.v I))) /\ ∀ (r_1 : List Mi) (b_1 : Bool), b_1 = Option.isSome (expl ps
 (Int.toNat (more - 1)) (subI r cn) (Int.toNat (i + 1))) -> (∀ (l : List Mi), expl ps (Int.toNat (more - 1)) (subI r cn) (Int.toNat (i + 1)) = Option.some l -> r_1 = l) -> fork b_1 (req (decide ((0 : Int) <= k /\ k <
 (↑(ns.length) : Int))) (req (fitsN (1 + r_1.length) 16) (∀ (ys : List (Ty.den (Ty.pr (Ty.i IntKind.i64) (Ty.i IntKind.i64)))), ys = [(i, List.getD ns (Int.toNat k) (0 : Int))] ++ r_1 -> req (decide (0 + (1 + r_1.length) <=
 ys.length)) (Q AX.ret (stS 0 sh61r (seg 0 (1 + r_1.length) ys, true, ())))))) (req (inR IntKind.i64 (k + 1)) (mL ns (k + 1) < mL ns k /\ LC2.spec (lc61b c) (b, more, (o, ps, cn), i, (p1, p2, p3), ns, k + 1, ()) Q))))))) (Q
 (AX.exit 2) (stS 1 sh61 (b, more, (o, ps, cn), i, ())))) := by kernel_rfl
abbrev lc61 (c : Nat) : LC2 := ⟨0, sh61, 1, fun (b, more, d, i, _) Q => (okB b d more /\ 1 <= more /\ more <= c /\ (0 <= i /\ i <= 16)) /\
 (expl d.2.1 more.toNat (subI b d.2.2) i.toNat = none -> Q (.exit 0) (stS 0 .nil ())) /\ (∀ l, expl d.2.1 more.toNat (subI b d.2.2) i.toNat = some l -> Q .ret (stS 0 sh61r (l, true, ())))⟩
theorem v61L (c : Nat) (b : List Int) (more : Int) (o cn : List Int) (ps : List Po) (i : Int) (Q : AX -> St -> Prop) : (xloop2 Try.prog { nm := true, f := [(91, fcReally)], l2 := [(61, 1, lc61b c)] } 5 61 0 (lc61 c) ex61 (fun (_, _, _, i, _) => (17 - i).toNat) (b, more, (o, ps, cn), i, ()) Q) =
 (fork (decide (i < (↑(ps.length) : Int))) (req (decide ((0 : Int) <= i /\ i < (↑(ps.length) : Int))) (((1 : AT.den (AT.v I)) <= (List.getD ps (Int.toNat i) ((0 : Int), (0 : Int), (0 : Int))).2.2 /\ (List.getD ps (Int.toNat i)
 ((0 : Int), (0 : Int), (0 : Int))).2.2 <= (1073741824 : AT.den (AT.v I))) /\ ∀ (r : List Int), r = reallyI ((List.getD ps (Int.toNat i) ((0 : Int), (0 : Int), (0 : Int))).2.2) -> (okB b (o, ps, cn) more /\ (1 : SV.den
 (SV.slot 3 (SV.v I))) <= more /\ more <= (↑c : SV.den (SV.slot 3 (SV.v I))) /\ ((0 : SV.den (SV.slot 10 (SV.v I))) <= i /\ i < (↑(ps.length) : SV.den (SV.slot 10 (SV.v I)))) /\ List.getD ps (Int.toNat i) ((0 : Int), (0 : Int),
 (0 : Int)) = poA ps (Int.toNat i) /\ r = reallyI ((List.getD ps (Int.toNat i) ((0 : Int), (0 : Int), (0 : Int))).2.2) /\ (0 : SV.den (SV.slot 13 (SV.v I))) <= (0 : Int) /\ (0 : Int) <= (↑(r.length) : SV.den (SV.slot 13 (SV.v
 I)))) /\ (expN ps (Int.toNat (more - (1 : SV.den (SV.slot 3 (SV.v I))))) (subI b cn) (Int.toNat i) (List.drop 0 r) = none -> req (inR IntKind.i64 (i + 1)) (Int.toNat ((17 : SV.den (SV.slot 10 (SV.v I))) - (i + 1)) <
 Int.toNat ((17 : SV.den (SV.slot 10 (SV.v I))) - i) /\ LC2.spec (lc61 c) (b, more, (o, ps, cn), i + 1, ()) Q)) /\ ∀ (l : List Mi), expN ps (Int.toNat (more - (1 : SV.den (SV.slot 3 (SV.v I))))) (subI b cn) (Int.toNat i)
 (List.drop 0 r) = Option.some l -> Q AX.ret (stS 0 sh61r (l, true, ())))) (Q (AX.exit 0) (stS 0 SV.nil ()))) := by kernel_rfl
theorem v61F (c : Nat) (o cn : List Int) (ps : List Po) (b : List Int) (i more : Int) (K : dens [LM, .b] -> Prop) : (xfn1 Try.prog { nm := true, f := [(14, fcSame)], l2 := [(61, 0, lc61 c)] } 5 61 (fc61 (c + 1)) ((o, ps, cn), b, i, more, ()) K) =
 (fork (more == (0 : Int)) (b.length <= 9223372036854775807 /\ ∀ (r : Bool), r = decide (b = cn) -> K ([], r, ())) ((okB b (o, ps, cn) more /\ (1 : SV.den (SV.slot 3 (SV.v I))) <= more /\ more <= (↑c : SV.den (SV.slot 3 (SV.v
 I))) /\ (0 : SV.den (SV.slot 10 (SV.v I))) <= i /\ i <= (16 : SV.den (SV.slot 10 (SV.v I)))) /\ (expl ps (Int.toNat more) (subI b cn) (Int.toNat i) = none -> K ([], false, ())) /\ ∀ (l : List Mi), expl ps (Int.toNat more) (subI
 b cn) (Int.toNat i) = Option.some l -> K (l, true, ()))) := by kernel_rfl
abbrev sh23 : SV := S [(1, .box 0 (.v TDy)), (5, .v I)]
abbrev sh23r : SV := S [(2, .v LM), (3, .v I)]
def ex23 : Ex2
 | .ret => some (sh23r, 0)
 | _ => some (.nil, 0)
abbrev lc23 : LC2 := ⟨0, sh23, 1, fun (d, i, _) Q => (dayOk d = true /\ 0 <= i /\ i <= 4) /\ (explFrom d.2.1 (offI d) i.toNat = none -> Q (.exit 0) (stS 0 .nil ())) /\ (∀ l, explFrom d.2.1 (offI d) i.toNat = some l -> Q .ret (stS 0 sh23r (l, 0, ())))⟩
theorem v23L (o cn : List Int) (ps : List Po) (i : Int) (Q : AX -> St -> Prop) : (xloop2 Try.prog { nm := true, f := [(55, fc55), (61, fc61 4)] } 5 23 0 lc23 ex23 (fun (_, i, _) => (4 - i).toNat) ((o, ps, cn), i, ()) Q) =
 (fork (decide (i <= (3 : Int))) (dayOk (o, ps, cn) = true /\ ∀ (r : List Int), r = balI o ps -> AV.agg [AV.rl I o, AV.rl TP ps, AV.rl I cn] = AV.agg [AV.rl I o, AV.rl TP ps, AV.rl I cn] /\ (okB r (o, ps, cn) i /\ i < (↑4 :
 AT.den (AT.v I)) /\ (0 : AT.den (AT.v I)) <= (0 : Int) /\ (0 : Int) <= (16 : AT.den (AT.v I))) /\ ∀ (r_1 : List Mi) (b : Bool), b = Option.isSome (expl ps (Int.toNat i) (subI r cn) 0) -> (∀ (l : List Mi), expl ps (Int.toNat i)
 (subI r cn) 0 = Option.some l -> r_1 = l) -> fork b (Q AX.ret (stS 0 sh23r (r_1, (0 : Int), ()))) (req (inR IntKind.i64 (i + 1)) (Int.toNat ((4 : SV.den (SV.slot 5 (SV.v I))) - (i + 1)) < Int.toNat ((4 : SV.den (SV.slot 5
 (SV.v I))) - i) /\ LC2.spec lc23 ((o, ps, cn), i + 1, ()) Q))) (Q (AX.exit 0) (stS 0 SV.nil ()))) := by kernel_rfl
theorem v23F (o cn : List Int) (ps : List Po) (K : dens [LM, E] -> Prop) : (xfn1 Try.prog { nm := true, f := [(54, fc54)], l2 := [(23, 0, lc23)] } 5 23 fc22 ((o, ps, cn), ()) K) =
 (bigD (o, ps, cn) /\ ∀ (e : Int), (e = if dayOk (o, ps, cn) = true then (0 : Int) else (84 : Int)) -> fork (e != (0 : Int)) (K ([], e, ())) ((dayOk (o, ps, cn) = true /\ (0 : SV.den (SV.slot 5 (SV.v I))) <= (0 : Int) /\ (0 :
 Int) <= (4 : SV.den (SV.slot 5 (SV.v I)))) /\ (explFrom ps (offI (o, ps, cn)) 0 = none -> K ([], (4 : Int), ())) /\ ∀ (l : List Mi), explFrom ps (offI (o, ps, cn)) 0 = Option.some l -> K (l, (0 : SV.den (SV.slot 3 (SV.v I))),
 ()))) := by kernel_rfl
abbrev sh24 : SV := S [(0, .v LM), (1, .v LM), (5, .v .b), (6, .v I)]
abbrev sh24e : SV := S [(5, .v .b)]
abbrev lc24 : LC2 := ⟨0, sh24, 0, fun (a, b, ok, i, _) Q => (a = b /\ a.length <= 1000 /\ ok = true /\ 0 <= i /\ i <= a.length) /\ Q (.exit 0) (stS 0 sh24e (true, ()))⟩
theorem v24L (a : List Mi) (i : Int) (Q : AX -> St -> Prop) : (xloop2 Try.prog {} 5 24 0 lc24 (fun _ => some (sh24e, 0)) (fun (a, _, _, i, _) => mL a i) (a, a, true, i, ()) Q) =
 (fork (decide (i < (↑(a.length) : Int))) (req (decide ((0 : Int) <= i /\ i < (↑(a.length) : Int))) (req (decide ((0 : Int) <= i /\ i < (↑(a.length) : Int))) (req (inR IntKind.i64 (i + 1)) (mL a (i + 1) < mL a i /\ LC2.spec
 lc24 (a, a, (List.getD a (Int.toNat i) ((0 : Int), (0 : Int))).1 == (List.getD a (Int.toNat i) ((0 : Int), (0 : Int))).1 && ((List.getD a (Int.toNat i) ((0 : Int), (0 : Int))).2 == (List.getD a (Int.toNat i) ((0 : Int),
 (0 : Int))).2 && true), i + 1, ()) Q)))) (Q (AX.exit 0) (stS 0 sh24e (true, ())))) := by kernel_rfl
abbrev fc24 : FC := ⟨[.v LM, .v LM], [.b], fun x K => (x.1 = x.2.1 /\ x.1.length <= 1000) /\ K (true, ())⟩
theorem v24F (a : List Mi) (K : dens [.b] -> Prop) : (xfn1 Try.prog { l2 := [(24, 0, lc24)] } 5 24 fc24 (a, a, ()) K) =
 ((a = a /\ a.length <= 1000 /\ ((↑(a.length) : Int) == (↑(a.length) : Int)) = true /\ (0 : SV.den (SV.slot 6 (SV.v I))) <= (0 : Int) /\ (0 : Int) <= (↑(a.length) : SV.den (SV.slot 6 (SV.v I)))) /\ K (true, ())) := by kernel_rfl
abbrev fc4 : FC := ⟨[.v TDy], [.b], fun x K => bigD x.1 /\ K (true, ())⟩
theorem v4F (o cn : List Int) (ps : List Po) (K : dens [.b] -> Prop) : (xfn1 Try.prog { nm := true, f := [(20, fc20), (21, fc20), (22, fc22), (23, fc22), (24, fc24), (14, fcSame), (19, fcWorks)] } 5 4 fc4 ((o, ps, cn), ()) K) =
 (bigD (o, ps, cn) /\ ∀ (r : List Int) (e : Int), (r, e) = balE (o, ps, cn) -> bigD (o, ps, cn) /\ ∀ (r_1 : List Int) (e_1 : Int), (r_1, e_1) = balE (o, ps, cn) -> r.length <= 9223372036854775807 /\ ∀ (r_2 : Bool), r_2 = decide
 (r = r_1) -> fork (!r_2) (K (false, ())) (fork (e != e_1) (K (false, ())) (bigD (o, ps, cn) /\ ∀ (r : List Mi) (e : Int), (r, e) = explE (o, ps, cn) -> bigD (o, ps, cn) /\ ∀ (r_3 : List Mi) (e_2 : Int), (r_3, e_2) = explE (o,
 ps, cn) -> (r = r_3 /\ r.length <= 1000) /\ fork (e == e_2) (K (true, ())) (K (false, ()))))) := by kernel_rfl
end Go.P8
