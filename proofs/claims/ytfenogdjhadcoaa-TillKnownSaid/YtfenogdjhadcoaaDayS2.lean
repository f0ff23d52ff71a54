/- Days: valid days, balances, explanations: states and what is to be shown, reduced. No conditions. -/
import Derived.Test.YtfenogdjhadcoaaDayS1
import Derived.Test.YtfenogdjhadcoaaDayC
set_option linter.all false
set_option maxRecDepth 100000
set_option maxHeartbeats 2000000
namespace Go.P8
open Go.Lom Go.Proofs Go
abbrev TP : Ty := .pr I (.pr I I)
abbrev LP : Ty := .sl TP
abbrev TDy : Ty := .pr L (.pr LP L)
abbrev M2 : Ty := .pr I I
abbrev LM : Ty := .sl M2
abbrev lc84v (k : Nat) (ok : Int -> Bool) : LC2 := ⟨0, S [(0, .v L), (1, .a (.clo k [] [])), (7, .v I), (8, .v I)], 0, fun (l, _, m, i, _) Q => (0 <= i /\ i <= l.length /\ m = l.length /\ l.length <= big) /\ ((l.drop i.toNat).all ok = true -> Q (.exit 0) (stS 0 .nil ())) /\ ((l.drop i.toNat).all ok = false -> ∀ r : Int, 0 <= r -> Q .ret (stS 0 shR4i (r, ())))⟩
abbrev fc84v (k : Nat) (ok : Int -> Bool) : FC := ⟨[.v L, .clo k [] []], [I], fun x K => x.1.length <= big /\ ∀ r : Int, decide (0 <= r) = !x.1.all ok -> K (r, ())⟩
def zeroO (n : Int) : Bool := decide (n = 0)
theorem v84S (l : List Int) (m i : Int) (Q : AX -> St -> Prop) : (xloop2 Try.prog {} 5 84 0 (lc84v 80 sumOk) ex84 (fun (l, _, _, i, _) => mL l i) (l, ((), ()), m, i, ()) Q) =
 (fork (decide (i < m)) (req (decide ((0 : Int) <= i /\ i < (↑(l.length) : Int))) (fork (decide (List.getD l (Int.toNat i) (0 : Int) >= (0 : Int))) (fork (!decide (List.getD l (Int.toNat i) (0 : Int) <= (1073741824 : Int))) (Q
 AX.ret (stS 0 shR4i (i, ()))) (req (inR IntKind.i64 (i + 1)) (mL l (i + 1) < mL l i /\ LC2.spec (lc84v 80 sumOk) (l, ((), ()), m, i + 1, ()) Q))) (Q AX.ret (stS 0 shR4i (i, ()))))) (Q (AX.exit 0) (stS 0 SV.nil ()))) := by kernel_rfl
theorem v84SF (l : List Int) (K : dens [I] -> Prop) : (xfn1 Try.prog { l2 := [(84, 0, lc84v 80 sumOk)] } 5 84 (fc84v 80 sumOk) (l, ((), ()), ()) K) =
 (((0 : SV.den (SV.slot 8 (SV.v I))) <= (0 : Int) /\ (0 : Int) <= (↑(l.length) : SV.den (SV.slot 8 (SV.v I))) /\ (↑(l.length) : Int) = (↑(l.length) : SV.den (SV.slot 7 (SV.v I))) /\ l.length <= 9223372036854775807) /\ (List.all
 (List.drop 0 l) sumOk = true -> K ((-1 : Int), ())) /\ (List.all (List.drop 0 l) sumOk = false -> ∀ (r : Int), (0 : Int) <= r -> K (r, ()))) := by kernel_rfl
theorem v84Z (l : List Int) (m i : Int) (Q : AX -> St -> Prop) : (xloop2 Try.prog {} 5 84 0 (lc84v 59 zeroO) ex84 (fun (l, _, _, i, _) => mL l i) (l, ((), ()), m, i, ()) Q) =
 (fork (decide (i < m)) (req (decide ((0 : Int) <= i /\ i < (↑(l.length) : Int))) (fork (List.getD l (Int.toNat i) (0 : Int) != (0 : Int)) (Q AX.ret (stS 0 shR4i (i, ()))) (req (inR IntKind.i64 (i + 1)) (mL l (i + 1) < mL l
 i /\ LC2.spec (lc84v 59 zeroO) (l, ((), ()), m, i + 1, ()) Q)))) (Q (AX.exit 0) (stS 0 SV.nil ()))) := by kernel_rfl
theorem v84ZF (l : List Int) (K : dens [I] -> Prop) : (xfn1 Try.prog { l2 := [(84, 0, lc84v 59 zeroO)] } 5 84 (fc84v 59 zeroO) (l, ((), ()), ()) K) =
 (((0 : SV.den (SV.slot 8 (SV.v I))) <= (0 : Int) /\ (0 : Int) <= (↑(l.length) : SV.den (SV.slot 8 (SV.v I))) /\ (↑(l.length) : Int) = (↑(l.length) : SV.den (SV.slot 7 (SV.v I))) /\ l.length <= 9223372036854775807) /\ (List.all
 (List.drop 0 l) zeroO = true -> K ((-1 : Int), ())) /\ (List.all (List.drop 0 l) zeroO = false -> ∀ (r : Int), (0 : Int) <= r -> K (r, ()))) := by kernel_rfl
abbrev fc58z : FC := ⟨[.v L, .clo 59 [] []], [.b], fun x K => x.1.length <= big /\ ∀ b : Bool, b = !zeroB x.1 -> K (b, ())⟩
theorem v58Z (l : List Int) (K : dens [.b] -> Prop) : (xfn1 Try.prog { f := [(84, fc84v 59 zeroO)] } 5 58 fc58z (l, ((), ()), ()) K) =
 (l.length <= 9223372036854775807 /\ ∀ (r : Int), decide ((0 : Int) <= r) = !List.all l zeroO -> K (decide (r >= (0 : Int)), ())) := by kernel_rfl
abbrev cl82 : SV := .fn 82 .nil (A [.box 0 (.v TDy)])
def ex106 : Ex2
 | .ret => some (S [(1, cl82), (4, .v I)], 1)
 | _ => some (S [(1, cl82)], 1)
abbrev lc106 : LC2 := ⟨1, S [(0, .v LP), (1, cl82), (7, .v I), (8, .v I)], 1, fun (l, f, m, i, _) Q => (0 <= i /\ i <= l.length /\ m = l.length /\ l.length <= big /\ 2 <= f.2.1.1.length /\ f.2.1.1.length <= 8) /\ ((l.drop i.toNat).all (poOk f.2.1.1.length) = true -> Q (.exit 0) (stS 1 (S [(1, cl82)]) (f, ()))) /\ ((l.drop i.toNat).all (poOk f.2.1.1.length) = false -> ∀ r : Int, 0 <= r -> Q .ret (stS 1 (S [(1, cl82), (4, .v I)]) (f, r, ())))⟩
theorem v106L (l : List Po) (o c : List Int) (ps : List Po) (m i : Int) (Q : AX -> St -> Prop) : (xloop2 Try.prog {} 5 106 0 lc106 ex106 (fun (l, _, _, i, _) => mL l i) (l, ((), ((o, ps, c), ())), m, i, ()) Q) =
 (fork (decide (i < m)) (req (decide ((0 : Int) <= i /\ i < (↑(l.length) : Int))) (req (inR IntKind.i64 ((↑(o.length) : Int) - 1)) (fork (decide ((List.getD l (Int.toNat i) ((0 : Int), (0 : Int), (0 : Int))).1 >= (0 : Int)))
 (fork (!decide ((List.getD l (Int.toNat i) ((0 : Int), (0 : Int), (0 : Int))).1 <= (↑(o.length) : Int) - 1)) (Q AX.ret (stS 1 (S [(1, cl82), (4, SV.v I)]) (((), (o, ps, c), ()), i, ()))) (req (inR IntKind.i64 ((↑(o.length)
 : Int) - 1)) (fork (decide ((List.getD l (Int.toNat i) ((0 : Int), (0 : Int), (0 : Int))).2.1 >= (0 : Int))) (fork (!decide ((List.getD l (Int.toNat i) ((0 : Int), (0 : Int), (0 : Int))).2.1 <= (↑(o.length) : Int) - 1)) (Q
 AX.ret (stS 1 (S [(1, cl82), (4, SV.v I)]) (((), (o, ps, c), ()), i, ()))) (fork ((List.getD l (Int.toNat i) ((0 : Int), (0 : Int), (0 : Int))).1 == (List.getD l (Int.toNat i) ((0 : Int), (0 : Int), (0 : Int))).2.1) (Q
 AX.ret (stS 1 (S [(1, cl82), (4, SV.v I)]) (((), (o, ps, c), ()), i, ()))) (fork (decide ((List.getD l (Int.toNat i) ((0 : Int), (0 : Int), (0 : Int))).2.2 >= (1 : Int))) (fork (!decide ((List.getD l (Int.toNat i) ((0 :
 Int), (0 : Int), (0 : Int))).2.2 <= (1073741824 : Int))) (Q AX.ret (stS 1 (S [(1, cl82), (4, SV.v I)]) (((), (o, ps, c), ()), i, ()))) (req (inR IntKind.i64 (i + 1)) (mL l (i + 1) < mL l i /\ LC2.spec lc106 (l, ((), (o, ps,
 c), ()), m, i + 1, ()) Q))) (Q AX.ret (stS 1 (S [(1, cl82), (4, SV.v I)]) (((), (o, ps, c), ()), i, ())))))) (Q AX.ret (stS 1 (S [(1, cl82), (4, SV.v I)]) (((), (o, ps, c), ()), i, ())))))) (Q AX.ret (stS 1 (S [(1, cl82),
 (4, SV.v I)]) (((), (o, ps, c), ()), i, ())))))) (Q (AX.exit 0) (stS 1 (S [(1, cl82)]) (((), (o, ps, c), ()), ())))) := by kernel_rfl
abbrev fc106 : FC2 := ⟨A [.v LP, cl82], 1, A [.any, cl82, .v I], 1, fun (l, f, _) K => (l.length <= big /\ 2 <= f.2.1.1.length /\ f.2.1.1.length <= 8) /\ ∀ r : Int, decide (0 <= r) = !l.all (poOk f.2.1.1.length) -> K ((), f, r, ())⟩
theorem v106F (l : List Po) (o c : List Int) (ps : List Po) (K : fc106.post.den -> Prop) : (xfn2 Try.prog { l2 := [(106, 0, lc106)] } 5 106 fc106 (l, ((), ((o, ps, c), ())), ()) K) =
 (((0 : SV.den (SV.slot 8 (SV.v I))) <= (0 : Int) /\ (0 : Int) <= (↑(l.length) : SV.den (SV.slot 8 (SV.v I))) /\ (↑(l.length) : Int) = (↑(l.length) : SV.den (SV.slot 7 (SV.v I))) /\ l.length <= 9223372036854775807 /\ 2 <= o.length
 /\ o.length <= 8) /\ (List.all (List.drop 0 l) (poOk (o.length)) = true -> K ((), ((), (o, ps, c), ()), (-1 : Int), ())) /\ (List.all (List.drop 0 l) (poOk (o.length)) = false -> ∀ (r : Int), (0 : Int) <= r -> K ((), ((), (o, ps,
 c), ()), r, ()))) := by kernel_rfl
def bigD (d : Dy) : Prop := d.1.length <= big /\ d.2.1.length <= big /\ d.2.2.length <= big
abbrev fc52 : FC := ⟨[.v TDy], [.b], fun x K => bigD x.1 /\ ∀ b : Bool, b = dayOk x.1 -> K (b, ())⟩
theorem v52F (o c : List Int) (ps : List Po) (K : dens [.b] -> Prop) : (xfn1 Try.prog { f := [(84, fc84v 80 sumOk)], f2 := [(106, fc106)] } 5 52 fc52 ((o, ps, c), ()) K) =
 (fork (decide ((↑(o.length) : Int) >= (2 : Int))) (fork (!decide ((↑(o.length) : Int) <= (8 : Int))) (K (false, ())) (fork ((↑(c.length) : Int) != (↑(o.length) : Int)) (K (false, ())) (o.length <= 9223372036854775807 /\ ∀ (r
 : Int), decide ((0 : Int) <= r) = !List.all o sumOk -> fork (decide (r >= (0 : Int))) (K (false, ())) (c.length <= 9223372036854775807 /\ ∀ (r : Int), decide ((0 : Int) <= r) = !List.all c sumOk -> fork (decide (r >= (0 : Int)))
 (K (false, ())) (fork (decide ((↑(ps.length) : Int) > (16 : Int))) (K (false, ())) ((ps.length <= 9223372036854775807 /\ 2 <= o.length /\ o.length <= 8) /\ ∀ (r : Int), decide ((0 : Int) <= r) = !List.all ps (poOk (o.length)) ->
 K (!decide (r >= (0 : Int)), ()))))))) (K (false, ()))) := by kernel_rfl
abbrev sh53 : SV := S [(3, .own 0 I), (12, .v LP), (13, .v I), (14, .v I)]
abbrev sh53e : SV := S [(3, .own 0 I)]
abbrev lc53 : LC2 := ⟨0, sh53, 1, fun (o, ps, m, i, _) Q => (0 <= i /\ i <= ps.length /\ m = ps.length /\ ps.length <= 16 /\ (∀ p ∈ ps, poOk o.length p = true) /\ offB ((1 + 2 * i) * 1073741824) o) /\ Q (.exit 0) (stS 1 sh53e (balI o (ps.drop i.toNat), ()))⟩
theorem v53L (o : List Int) (ps : List Po) (m i : Int) (Q : AX -> St -> Prop) : (xloop2 Try.prog { nm := true } 5 53 0 lc53 (fun _ => some (sh53e, 1)) (fun (_, ps, _, i, _) => mL ps i) (o, ps, m, i, ()) Q) =
 (fork (decide (i < m)) (req (decide ((0 : Int) <= i /\ i < (↑(ps.length) : Int))) (req (decide ((0 : Int) <= (List.getD ps (Int.toNat i) ((0 : Int), (0 : Int), (0 : Int))).1 /\ (List.getD ps (Int.toNat i) ((0 : Int), (0 :
 Int), (0 : Int))).1 < (↑(o.length) : Int))) (req (decide (Int.toNat ((List.getD ps (Int.toNat i) ((0 : Int), (0 : Int), (0 : Int))).1) + 0 < o.length)) (req (inR IntKind.i64 (List.getD o (Int.toNat ((List.getD ps
 (Int.toNat i) ((0 : Int), (0 : Int), (0 : Int))).1) + 0) (0 : Int) - (List.getD ps (Int.toNat i) ((0 : Int), (0 : Int), (0 : Int))).2.2)) (req (decide ((0 : Int) <= (List.getD ps (Int.toNat i) ((0 : Int), (0 : Int), (0 :
 Int))).1 /\ (List.getD ps (Int.toNat i) ((0 : Int), (0 : Int), (0 : Int))).1 < (↑(o.length) : Int))) (req (decide (Int.toNat ((List.getD ps (Int.toNat i) ((0 : Int), (0 : Int), (0 : Int))).1) + 0 < o.length)) (∀ (ys : List
 (Ty.den I)), ys = List.set o (Int.toNat ((List.getD ps (Int.toNat i) ((0 : Int), (0 : Int), (0 : Int))).1) + 0) (List.getD o (Int.toNat ((List.getD ps (Int.toNat i) ((0 : Int), (0 : Int), (0 : Int))).1) + 0) (0 : Int) -
 (List.getD ps (Int.toNat i) ((0 : Int), (0 : Int), (0 : Int))).2.2) -> req (decide ((0 : Int) <= (List.getD ps (Int.toNat i) ((0 : Int), (0 : Int), (0 : Int))).2.1 /\ (List.getD ps (Int.toNat i) ((0 : Int), (0 : Int), (0 :
 Int))).2.1 < (↑(o.length) : Int))) (req (decide (Int.toNat ((List.getD ps (Int.toNat i) ((0 : Int), (0 : Int), (0 : Int))).2.1) + 0 < ys.length)) (req (inR IntKind.i64 (List.getD ys (Int.toNat ((List.getD ps (Int.toNat i)
 ((0 : Int), (0 : Int), (0 : Int))).2.1) + 0) (0 : Int) + (List.getD ps (Int.toNat i) ((0 : Int), (0 : Int), (0 : Int))).2.2)) (req (decide ((0 : Int) <= (List.getD ps (Int.toNat i) ((0 : Int), (0 : Int), (0 : Int))).2.1 /\
 (List.getD ps (Int.toNat i) ((0 : Int), (0 : Int), (0 : Int))).2.1 < (↑(o.length) : Int))) (req (decide (Int.toNat ((List.getD ps (Int.toNat i) ((0 : Int), (0 : Int), (0 : Int))).2.1) + 0 < ys.length)) (∀ (ys_1 : List
 (Ty.den I)), ys_1 = List.set ys (Int.toNat ((List.getD ps (Int.toNat i) ((0 : Int), (0 : Int), (0 : Int))).2.1) + 0) (List.getD ys (Int.toNat ((List.getD ps (Int.toNat i) ((0 : Int), (0 : Int), (0 : Int))).2.1) + 0) (0 :
 Int) + (List.getD ps (Int.toNat i) ((0 : Int), (0 : Int), (0 : Int))).2.2) -> req (inR IntKind.i64 (i + 1)) (req (decide (0 + o.length <= ys_1.length)) (mL ps (i + 1) < mL ps i /\ LC2.spec lc53 (seg 0 (o.length) ys_1, ps, m,
 i + 1, ()) Q)))))))))))))) (req (decide (0 + o.length <= o.length)) (Q (AX.exit 0) (stS 1 sh53e (seg 0 (o.length) o, ()))))) := by kernel_rfl
abbrev fc53 : FC2 := ⟨A [.v TDy], 0, A [.any, .own 0 I], 1, fun (d, _) K => dayOk d = true /\ ∀ r : List Int, r = balI d.1 d.2.1 -> K ((), r, ())⟩
theorem v53F (o c : List Int) (ps : List Po) (K : fc53.post.den -> Prop) : (xfn2 Try.prog { nm := true, f2 := [(50, fc50)], l2 := [(53, 0, lc53)] } 5 53 fc53 ((o, ps, c), ()) K) =
 (o.length <= 8 /\ ∀ (r : List Int), r = o -> req (decide (0 + r.length <= r.length)) (((0 : SV.den (SV.slot 14 (SV.v I))) <= (0 : Int) /\ (0 : Int) <= (↑(ps.length) : SV.den (SV.slot 14 (SV.v I))) /\ (↑(ps.length) : Int) =
 (↑(ps.length) : SV.den (SV.slot 13 (SV.v I))) /\ ps.length <= 16 /\ (∀ (p : Ty.den TP), p ∈ ps -> poOk (List.length (seg 0 (r.length) r)) p = true) /\ offB (1073741824 : Int) (seg 0 (r.length) r)) /\ req (decide (0 +
 List.length (balI (seg 0 (r.length) r) (List.drop 0 ps)) <= List.length (balI (seg 0 (r.length) r) (List.drop 0 ps)))) (K ((), seg 0 (List.length (balI (seg 0 (r.length) r) (List.drop 0 ps))) (balI (seg 0 (r.length) r)
 (List.drop 0 ps)), ())))) := by kernel_rfl
abbrev fc57 : FC2 := ⟨A [.v LM], 0, A [.any, .own 0 M2], 1, fun (l, _) K => l.length <= 1000 /\ ∀ r : List Mi, r = l -> K ((), r, ())⟩
theorem v57F (l : List Mi) (K : fc57.post.den -> Prop) : (xfn2 Try.prog {} 5 57 fc57 (l, ()) K) =
 (∀ (b : Bool), (b = true -> l.length = 0) -> fork b (K ((), [], ())) (req (fitsN (0 + l.length) 16) (req (decide (0 + (0 + l.length) <= List.length ([] ++ l))) (K ((), seg 0 (0 + l.length) ([] ++ l), ()))))) := by kernel_rfl
abbrev cl56 : SV := .fn 56 .nil (A [.ref 1, .ref 3, .ref 5, .ref 6])
def bd (m : Int) : Int := (100 - 20 * m) * 1073741824
abbrev sh56 : SV := S [(0, .pre 0 M2), (2, .v I), (3, .box 1 (.v LM)), (4, .box 3 (.lst 4 I)), (5, .box 5 (.v TDy)), (6, .box 6 cl56), (11, .v I)]
abbrev sh56e : SV := S [(0, .pre 0 M2), (3, .box 1 (.v LM)), (4, .box 3 (.lst 4 I)), (5, .box 5 (.v TDy)), (6, .box 6 cl56)]
abbrev sh56r : SV := S [(0, .pre 0 M2), (3, .box 1 (.v LM)), (4, .box 3 (.lst 4 I)), (5, .box 5 (.v TDy)), (6, .box 6 cl56), (10, .v .b)]
def ex56 : Ex2
 | .ret => some (sh56r, 7)
 | _ => some (sh56e, 7)
abbrev sh56b : SV := S [(0, .pre 0 M2), (2, .v I), (3, .box 1 (.v LM)), (4, .box 3 (.lst 4 I)), (5, .box 5 (.v TDy)), (6, .box 6 cl56), (11, .v I), (12, .box 7 (.v TP)), (40, .v L), (41, .v I), (42, .v I)]
abbrev sh56be : SV := S [(0, .pre 0 M2), (2, .v I), (3, .box 1 (.v LM)), (4, .box 3 (.lst 4 I)), (5, .box 5 (.v TDy)), (6, .box 6 cl56), (11, .v I)]
def ex56b : Ex2
 | .ret => some (sh56r, 7)
 | _ => some (sh56be, 7)
structure okX (z : List Mi × Nat) (off : List Int) (d : Dy) (more : Int) : Prop where
 day : dayOk d = true
 len : off.length = d.1.length
 bnd : offB (bd more) off
 cnt : 0 <= more /\ more <= 3
 room : z.2 <= z.1.length /\ (z.2 : Int) + more <= 3
abbrev lc56b (c : Nat) : LC2 := ⟨7, sh56b, 8, fun (z, more, fo, off, d, u, i, p, ns, m, k, _) Q => (okX z off d more /\ 1 <= more /\ more <= c /\ (0 <= i /\ i < d.2.1.length) /\ p = poA d.2.1 i.toNat /\ ns = reallyI p.2.2 /\ m = ns.length /\ 0 <= k /\ k <= ns.length) /\
 (expN d.2.1 (more - 1).toNat off i.toNat (ns.drop k.toNat) = none -> ∀ z' fo' : List Mi, z'.take z.2 = z.1.take z.2 -> z.2 <= z'.length -> Q (.exit 2) (stS 7 sh56be ((z', z.2), more, fo', off, d, u, i, ()))) /\
 (∀ l, expN d.2.1 (more - 1).toNat off i.toNat (ns.drop k.toNat) = some l -> ∀ z' : List Mi, z'.take z.2 = z.1.take z.2 -> z.2 <= z'.length -> Q .ret (stS 7 sh56r ((z', z.2), z.1.take z.2 ++ l, off, d, u, true, ())))⟩
abbrev lc56 (c : Nat) : LC2 := ⟨7, sh56, 7, fun (z, more, fo, off, d, u, i, _) Q => (okX z off d more /\ 1 <= more /\ more <= c /\ (0 <= i /\ i <= 16)) /\
 (expl d.2.1 more.toNat off i.toNat = none -> ∀ z' fo' : List Mi, z'.take z.2 = z.1.take z.2 -> z.2 <= z'.length -> Q (.exit 0) (stS 7 sh56e ((z', z.2), fo', off, d, u, ()))) /\
 (∀ l, expl d.2.1 more.toNat off i.toNat = some l -> ∀ z' : List Mi, z'.take z.2 = z.1.take z.2 -> z.2 <= z'.length -> Q .ret (stS 7 sh56r ((z', z.2), z.1.take z.2 ++ l, off, d, u, true, ())))⟩
abbrev pre56 : SV := A [.pre 0 M2, .v I, .v I, .box 1 (.v LM), .box 3 (.lst 4 I), .box 5 (.v TDy), .box 6 cl56]
abbrev post56 : SV := A [.pre 0 M2, .any, .any, .box 1 (.v LM), .box 3 (.lst 4 I), .box 5 (.v TDy), .box 6 cl56, .v .b]
abbrev fc56 (c : Nat) : FC2 := ⟨pre56, 7, post56, 7, fun (z, i, more, fo, off, d, u, _) K => (okX z off d more /\ more < c /\ (0 <= i /\ i <= 16)) /\
 ∀ (z' fo' : List Mi) (b : Bool), z'.take z.2 = z.1.take z.2 -> z.2 <= z'.length -> b = (expl d.2.1 more.toNat off i.toNat).isSome -> (∀ l, expl d.2.1 more.toNat off i.toNat = some l -> fo' = z.1.take z.2 ++ l) -> K ((z', z.2), (), (), fo', off, d, u, b, ())⟩
theorem v56B (c : Nat) (z : List Mi) (n : Nat) (more : Int) (fo : List Mi) (off o cn : List Int) (ps : List Po) (i p1 p2 p3 : Int) (ns : List Int) (m k : Int) (Q : AX -> St -> Prop) : (xloop2 Try.prog { nm := true, ip := true, f2 := [(56, fc56 c)] } 5 56 1 (lc56b c) ex56b (fun (_, _, _, _, _, _, _, _, _, m, k, _) => (m - k).toNat) ((z, n), more, fo, off, (o, ps, cn), ((), (), (), (), (), ()), i, (p1, p2, p3), ns, m, k, ()) Q) =
 (fork (decide (k < m)) (req (decide ((0 : Int) <= k /\ k < (↑(ns.length) : Int))) (req (decide ((0 : Int) <= p1 /\ p1 < (↑(off.length) : Int))) (req (decide (Int.toNat p1 + 0 < off.length)) (req (inR IntKind.i64 (p3 -
 List.getD ns (Int.toNat k) (0 : Int))) (req (inR IntKind.i64 (List.getD off (Int.toNat p1 + 0) (0 : Int) + (p3 - List.getD ns (Int.toNat k) (0 : Int)))) (req (decide ((0 : Int) <= p1 /\ p1 < (↑(off.length) : Int))) (req
 (decide (Int.toNat p1 + 0 < off.length)) (∀ (ys : List (Ty.den I)), ys = List.set off (Int.toNat p1 + 0) (List.getD off (Int.toNat p1 + 0) (0 : Int) + (p3 - List.getD ns (Int.toNat k) (0 : Int))) -> req (decide ((0 : Int)
 <= p2 /\ p2 < (↑(off.length) : Int))) (req (decide (Int.toNat p2 + 0 < ys.length)) (req (inR IntKind.i64 (p3 - List.getD ns (Int.toNat k) (0 : Int))) (req (inR IntKind.i64 (List.getD ys (Int.toNat p2 + 0) (0 : Int) - (p3 -
 List.getD ns (Int.toNat k) (0 : Int)))) (req (decide ((0 : Int) <= p2 /\ p2 < (↑(off.length) : Int))) (req (decide (Int.toNat p2 + 0 < ys.length)) (∀ (ys_1 : List (Ty.den I)), ys_1 = List.set ys (Int.toNat p2 + 0)
 (List.getD ys (Int.toNat p2 + 0) (0 : Int) - (p3 - List.getD ns (Int.toNat k) (0 : Int))) -> req (inR IntKind.i64 (i + 1)) (req (inR IntKind.i64 (more - 1)) (AV.fn (Go.Fn.func 56) [] [AV.ptr 1 0 0, AV.ptr 3 0 0, AV.ptr 5 0
 0, AV.ptr 6 0 0] = AV.fn (Go.Fn.func 56) [] [AV.ptr 1 0 0, AV.ptr 3 0 0, AV.ptr 5 0 0, AV.ptr 6 0 0] /\ req (decide (0 + n <= z.length)) (req (fitsN (n + 1) 16) ((∀ (ys : List (Ty.den (Ty.pr (Ty.i IntKind.i64) (Ty.i
 IntKind.i64)))), ys = List.take (0 + n) z ++ [(i, List.getD ns (Int.toNat k) (0 : Int))] ++ List.drop (0 + n + 1) z -> AV.fn (Go.Fn.func 56) [] [AV.ptr 1 0 0, AV.ptr 3 0 0, AV.ptr 5 0 0, AV.ptr 6 0 0] = AV.fn (Go.Fn.func
 56) [] [AV.ptr 1 0 0, AV.ptr 3 0 0, AV.ptr 5 0 0, AV.ptr 6 0 0] /\ req (Nat.ble (n + 1) (ys.length)) (req (decide (off.length = ys_1.length)) ((okX (ys, n + 1) ys_1 (o, ps, cn) (more - 1) /\ more - 1 < (↑c : SV.den (SV.v
 I)) /\ (0 : SV.den (SV.v I)) <= i + 1 /\ i + 1 <= (16 : SV.den (SV.v I))) /\ ∀ (z' fo' : List Mi) (b : Bool), List.take (n + 1) z' = List.take (n + 1) ys -> n + 1 <= z'.length -> b = Option.isSome (expl ps (Int.toNat (more - 1))
 ys_1 (Int.toNat (i + 1))) -> (∀ (l : List Mi), expl ps (Int.toNat (more - 1)) ys_1 (Int.toNat (i + 1)) = Option.some l -> fo' = List.take (n + 1) ys ++ l) -> req (decide ((0 : Int) <= p1 /\ p1 < (↑(ys_1.length) : Int))) (req
 (decide (Int.toNat p1 + 0 < ys_1.length)) (req (inR IntKind.i64 (p3 - List.getD ns (Int.toNat k) (0 : Int))) (req (inR IntKind.i64 (List.getD ys_1 (Int.toNat p1 + 0) (0 : Int) - (p3 - List.getD ns (Int.toNat k) (0 :
 Int)))) (req (decide ((0 : Int) <= p1 /\ p1 < (↑(ys_1.length) : Int))) (req (decide (Int.toNat p1 + 0 < ys_1.length)) (∀ (ys : List (Ty.den I)), ys = List.set ys_1 (Int.toNat p1 + 0) (List.getD ys_1 (Int.toNat p1 + 0) (0 :
 Int) - (p3 - List.getD ns (Int.toNat k) (0 : Int))) -> req (decide ((0 : Int) <= p2 /\ p2 < (↑(ys_1.length) : Int))) (req (decide (Int.toNat p2 + 0 < ys.length)) (req (inR IntKind.i64 (p3 - List.getD ns (Int.toNat k) (0 :
 Int))) (req (inR IntKind.i64 (List.getD ys (Int.toNat p2 + 0) (0 : Int) + (p3 - List.getD ns (Int.toNat k) (0 : Int)))) (req (decide ((0 : Int) <= p2 /\ p2 < (↑(ys_1.length) : Int))) (req (decide (Int.toNat p2 + 0 <
 ys.length)) (∀ (ys_2 : List (Ty.den I)), ys_2 = List.set ys (Int.toNat p2 + 0) (List.getD ys (Int.toNat p2 + 0) (0 : Int) + (p3 - List.getD ns (Int.toNat k) (0 : Int))) -> fork b (req (Nat.ble n (z'.length)) (req (decide
 (ys_1.length = ys_2.length)) (Q AX.ret (stS 7 sh56r ((z', n), fo', ys_2, (o, ps, cn), ((), (), (), (), (), ()), true, ()))))) (req (inR IntKind.i64 (k + 1)) (req (Nat.ble n (z'.length)) (req (decide (ys_1.length =
 ys_2.length)) (Int.toNat (m - (k + 1)) < Int.toNat (m - k) /\ LC2.spec (lc56b c) ((z', n), more, fo', ys_2, (o, ps, cn), ((), (), (), (), (), ()), i, (p1, p2, p3), ns, m, k + 1, ()) Q))))))))))))))))))) /\ ∀ (ys : List
 (Ty.den (Ty.pr (Ty.i IntKind.i64) (Ty.i IntKind.i64)))), ys = seg 0 n z ++ [(i, List.getD ns (Int.toNat k) (0 : Int))] -> AV.fn (Go.Fn.func 56) [] [AV.ptr 1 0 0, AV.ptr 3 0 0, AV.ptr 5 0 0, AV.ptr 6 0 0] = AV.fn
 (Go.Fn.func 56) [] [AV.ptr 1 0 0, AV.ptr 3 0 0, AV.ptr 5 0 0, AV.ptr 6 0 0] /\ req (Nat.ble (n + 1) (ys.length)) (req (decide (off.length = ys_1.length)) ((okX (ys, n + 1) ys_1 (o, ps, cn) (more - 1) /\ more - 1 < (↑c :
 SV.den (SV.v I)) /\ (0 : SV.den (SV.v I)) <= i + 1 /\ i + 1 <= (16 : SV.den (SV.v I))) /\ ∀ (z' fo' : List Mi) (b : Bool), List.take (n + 1) z' = List.take (n + 1) ys -> n + 1 <= z'.length -> b = Option.isSome (expl ps (Int.toNat
 (more - 1)) ys_1 (Int.toNat (i + 1))) -> (∀ (l : List Mi), expl ps (Int.toNat (more - 1)) ys_1 (Int.toNat (i + 1)) = Option.some l -> fo' = List.take (n + 1) ys ++ l) -> req (decide ((0 : Int) <= p1 /\ p1 < (↑(ys_1.length) :
 Int))) (req (decide (Int.toNat p1 + 0 < ys_1.length)) (req (inR IntKind.i64 (p3 - List.getD ns (Int.toNat k) (0 : Int))) (req (inR IntKind.i64 (List.getD ys_1 (Int.toNat p1 + 0) (0 : Int) - (p3 - List.getD ns (Int.toNat
 k) (0 : Int)))) (req (decide ((0 : Int) <= p1 /\ p1 < (↑(ys_1.length) : Int))) (req (decide (Int.toNat p1 + 0 < ys_1.length)) (∀ (ys : List (Ty.den I)), ys = List.set ys_1 (Int.toNat p1 + 0) (List.getD ys_1 (Int.toNat p1 +
 0) (0 : Int) - (p3 - List.getD ns (Int.toNat k) (0 : Int))) -> req (decide ((0 : Int) <= p2 /\ p2 < (↑(ys_1.length) : Int))) (req (decide (Int.toNat p2 + 0 < ys.length)) (req (inR IntKind.i64 (p3 - List.getD ns (Int.toNat k)
 (0 : Int))) (req (inR IntKind.i64 (List.getD ys (Int.toNat p2 + 0) (0 : Int) + (p3 - List.getD ns (Int.toNat k) (0 : Int)))) (req (decide ((0 : Int) <= p2 /\ p2 < (↑(ys_1.length) : Int))) (req (decide (Int.toNat p2 + 0 <
 ys.length)) (∀ (ys_2 : List (Ty.den I)), ys_2 = List.set ys (Int.toNat p2 + 0) (List.getD ys (Int.toNat p2 + 0) (0 : Int) + (p3 - List.getD ns (Int.toNat k) (0 : Int))) -> fork b (req (Nat.ble n (z.length)) (req (decide
 (ys_1.length = ys_2.length)) (Q AX.ret (stS 7 sh56r ((z, n), fo', ys_2, (o, ps, cn), ((), (), (), (), (), ()), true, ()))))) (req (inR IntKind.i64 (k + 1)) (req (Nat.ble n (z.length)) (req (decide (ys_1.length =
 ys_2.length)) (Int.toNat (m - (k + 1)) < Int.toNat (m - k) /\ LC2.spec (lc56b c) ((z, n), more, fo', ys_2, (o, ps, cn), ((), (), (), (), (), ()), i, (p1, p2, p3), ns, m, k + 1, ()) Q))))))))))))))))))))))))))))))))))))
 (req (Nat.ble n (z.length)) (req (decide (off.length = off.length)) (Q (AX.exit 2) (stS 7 sh56be ((z, n), more, fo, off, (o, ps, cn), ((), (), (), (), (), ()), i, ())))))) := by kernel_rfl
theorem v56L (c : Nat) (z : List Mi) (n : Nat) (more : Int) (fo : List Mi) (off o cn : List Int) (ps : List Po) (i : Int) (Q : AX -> St -> Prop) : (xloop2 Try.prog { nm := true, ip := true, f := [(60, fcReally)], l2 := [(56, 1, lc56b c)] } 5 56 0 (lc56 c) ex56 (fun (_, _, _, _, _, _, i, _) => (17 - i).toNat) ((z, n), more, fo, off, (o, ps, cn), ((), (), (), (), (), ()), i, ()) Q) =
 (req (inR IntKind.i64 (i + more)) (fork (decide (i + more <= (↑(ps.length) : Int))) (req (decide ((0 : Int) <= i /\ i < (↑(ps.length) : Int))) (((1 : AT.den (AT.v I)) <= (List.getD ps (Int.toNat i) ((0 : Int), (0 : Int), (0 :
 Int))).2.2 /\ (List.getD ps (Int.toNat i) ((0 : Int), (0 : Int), (0 : Int))).2.2 <= (1073741824 : AT.den (AT.v I))) /\ ∀ (r : List Int), r = reallyI ((List.getD ps (Int.toNat i) ((0 : Int), (0 : Int), (0 : Int))).2.2) -> req
 (Nat.ble n (z.length)) (req (decide (off.length = off.length)) ((okX (z, n) off (o, ps, cn) more /\ (1 : SV.den (SV.slot 2 (SV.v I))) <= more /\ more <= (↑c : SV.den (SV.slot 2 (SV.v I))) /\ ((0 : SV.den (SV.slot 11 (SV.v I)))
 <= i /\ i < (↑(ps.length) : SV.den (SV.slot 11 (SV.v I)))) /\ List.getD ps (Int.toNat i) ((0 : Int), (0 : Int), (0 : Int)) = poA ps (Int.toNat i) /\ r = reallyI ((List.getD ps (Int.toNat i) ((0 : Int), (0 : Int), (0 :
 Int))).2.2) /\ (↑(r.length) : Int) = (↑(r.length) : SV.den (SV.slot 41 (SV.v I))) /\ (0 : SV.den (SV.slot 42 (SV.v I))) <= (0 : Int) /\ (0 : Int) <= (↑(r.length) : SV.den (SV.slot 42 (SV.v I)))) /\ (expN ps (Int.toNat (more -
 (1 : SV.den (SV.slot 2 (SV.v I))))) off (Int.toNat i) (List.drop 0 r) = none -> ∀ (z' fo' : List Mi), List.take n z' = List.take n z -> n <= z'.length -> req (inR IntKind.i64 (i + 1)) (req (Nat.ble n (z'.length)) (req (decide
 (off.length = off.length)) (Int.toNat ((17 : SV.den (SV.slot 11 (SV.v I))) - (i + 1)) < Int.toNat ((17 : SV.den (SV.slot 11 (SV.v I))) - i) /\ LC2.spec (lc56 c) ((z', n), more, fo', off, (o, ps, cn), ((), (), (), (), (),
 ()), i + 1, ()) Q)))) /\ ∀ (l : List Mi), expN ps (Int.toNat (more - (1 : SV.den (SV.slot 2 (SV.v I))))) off (Int.toNat i) (List.drop 0 r) = Option.some l -> ∀ (z' : List Mi), List.take n z' = List.take n z -> n <= z'.length
 -> req (Nat.ble n (z'.length)) (req (decide (off.length = off.length)) (Q AX.ret (stS 7 sh56r ((z', n), List.take n z ++ l, off, (o, ps, cn), ((), (), (), (), (), ()), true, ())))))))) (req (Nat.ble n (z.length)) (req
 (decide (off.length = off.length)) (Q (AX.exit 0) (stS 7 sh56e ((z, n), fo, off, (o, ps, cn), ((), (), (), (), (), ()), ()))))))) := by kernel_rfl
theorem v56F (c : Nat) (z : List Mi) (n : Nat) (i more : Int) (fo : List Mi) (off o cn : List Int) (ps : List Po) (K : post56.den -> Prop) : (xfn2 Try.prog { nm := true, ip := true, f := [(58, fc58z)], f2 := [(57, fc57)], l2 := [(56, 0, lc56 c)] } 5 56 (fc56 (c + 1)) ((z, n), i, more, fo, off, (o, ps, cn), ((), (), (), (), (), ()), ()) K) =
 (fork (more == (0 : Int)) (req (decide (0 + n <= z.length)) (List.length (seg 0 n z) <= 1000 /\ ∀ (r : List Mi), r = seg 0 n z -> req (decide (0 + off.length <= off.length)) (List.length (seg 0 (off.length) off) <=
 9223372036854775807 /\ ∀ (b : Bool), b = !zeroB (seg 0 (off.length) off) -> req (Nat.ble n (z.length)) (req (decide (0 + r.length <= r.length)) (req (decide (off.length = off.length)) (K ((z, n), (), (), seg 0 (r.length) r,
 off, (o, ps, cn), ((), (), (), (), (), ()), !b, ()))))))) (req (Nat.ble n (z.length)) (req (decide (off.length = off.length)) ((okX (z, n) off (o, ps, cn) more /\ (1 : SV.den (SV.slot 2 (SV.v I))) <= more /\ more <= (↑c :
 SV.den (SV.slot 2 (SV.v I))) /\ (0 : SV.den (SV.slot 11 (SV.v I))) <= i /\ i <= (16 : SV.den (SV.slot 11 (SV.v I)))) /\ (expl ps (Int.toNat more) off (Int.toNat i) = none -> ∀ (z' fo' : List Mi), List.take n z' = List.take n z
 -> n <= z'.length -> req (Nat.ble n (z'.length)) (req (decide (off.length = off.length)) (K ((z', n), (), (), fo', off, (o, ps, cn), ((), (), (), (), (), ()), false, ())))) /\ ∀ (l : List Mi), expl ps (Int.toNat more) off
 (Int.toNat i) = Option.some l -> ∀ (z' : List Mi), List.take n z' = List.take n z -> n <= z'.length -> req (Nat.ble n (z'.length)) (req (decide (off.length = off.length)) (K ((z', n), (), (), List.take n z ++ l, off, (o, ps,
 cn), ((), (), (), (), (), ()), true, ()))))))) := by kernel_rfl
end Go.P8
