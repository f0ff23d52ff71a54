/- Funds: the least sound plan, the capital, how many groups a fund bears: states and what is to be shown, reduced. No conditions. -/
import Derived.Test.YtfbpaonmegmcgaaGreatTaAskS
import Derived.Test.YtfbpaonmegmcgaaGreatTaPlanS
set_option linter.all false
set_option maxRecDepth 100000
set_option maxHeartbeats 2000000
namespace Go.P9
open Go.Lom Go.Proofs Go
def cF (f : Fd) (ns : List Int) (B i k m : Int) : Int := firstC (okCh (prF f) (slF f) B (ns.getD i.toNat 0) (ns.drop (i + 1).toNat) i k m) (askC (slF f) B i k) 0
def plK (f : Fd) (ns : List Int) (B i k m : Int) : List Int := planK (prF f) (slF f) B (ns.drop i.toNat) i k m
def feF (f : Fd) (ns : List Int) (B i k m : Int) : Prop := feas (prF f) (slF f) (· = B) (ns.drop i.toNat) i k m
def okP (f : Fd) (ns : List Int) (B i k m : Int) (out : List Int) : Prop := needB f ns B /\ 0 <= i /\ i <= ns.length /\ out.length <= i /\ 0 <= k /\ k <= B /\ 0 <= m /\ m <= 67108864 * i /\ feF f ns B i k m
abbrev sh56a : SV := S [(2, .v I), (3, bF), (8, .arr 1 I), (9, .own 2 I), (10, .v I), (11, .v I), (24, .v L), (25, .v I), (26, .v I)]
abbrev sh56e : SV := S [(9, .own 0 I)]
abbrev sh56b : SV := S [(2, .v I), (3, bF), (8, .arr 1 I), (9, .own 2 I), (10, .v I), (11, .v I), (12, .v I), (13, .v I), (14, .v I), (24, .v L), (25, .v I), (26, .v I)]
def s56b (B : Int) (f : Fd) (a out : List Int) (m k day need n : Int) (ns : List Int) (len i : Int) (Q : LQ) : Prop :=
 (okP f ns B i k m out /\ rowsA f ns B true a 0 /\ day = i /\ i < ns.length /\ need = ns.getD i.toNat 0 /\ 0 <= n /\ n <= cF f ns B i k m) /\
 Q (.exit 2) (stS 3 sh56a (B, f, a, out ++ [cF f ns B i k m], m + cF f ns B i k m * prF f i, k + cF f ns B i k m, ns, len, i, ()))
abbrev lc56b : LC2 := ⟨0, sh56b, 3, fun (B, f, a, out, m, k, day, need, n, ns, len, i, _) Q => s56b B f a out m k day need n ns len i Q⟩
theorem v56b (B : Int) (f : Fd) (a out : List Int) (m k day need n : Int) (ns : List Int) (len i : Int) (Q : AX -> St -> Prop) : (xloop2 Tryz.prog {} 5 30 1 lc56b (fun _ => some (sh56a, 3)) (fun (_, _, _, _, _, _, _, _, n, _, _, _, _) => (66 - n).toNat) (B, f, a, out, m, k, day, need, n, ns, len, i, ()) Q) =
 (req (decide ((0 : Int) <= day /\ day < (↑(List.length (f.2.2.2.1)) : Int))) (fork (decide (n <= List.getD (f.2.2.2.1) (Int.toNat day) (0 : Int))) (req (inR IntKind.i64 (k + n)) (fork (decide (k + n <= B)) (req (decide ((0 :
 Int) <= day /\ day < (↑(List.length (f.2.2.2.2.1)) : Int))) (req (inR IntKind.i64 (n * (List.getD (f.2.2.2.2.1) (Int.toNat day) ((0 : Int), (0 : Int))).1)) (req (inR IntKind.i64 (m + n * (List.getD (f.2.2.2.2.1) (Int.toNat
 day) ((0 : Int), (0 : Int))).1)) (fork (decide (m + n * (List.getD (f.2.2.2.2.1) (Int.toNat day) ((0 : Int), (0 : Int))).1 >= need)) (req (inR IntKind.i64 (day + 1)) (req (inR IntKind.i64 (k + n)) (req (decide ((0 : Int) <=
 day + 1 /\ day + 1 < (13 : Int))) (req (decide ((0 : Int) <= k + n /\ k + n < (65 : Int))) (req (decide (0 + addN (Int.toNat (day + 1) * 65) (Int.toNat (k + n)) < a.length)) (fork (decide (m + n * (List.getD (f.2.2.2.2.1)
 (Int.toNat day) ((0 : Int), (0 : Int))).1 >= List.getD a (0 + addN (Int.toNat (day + 1) * 65) (Int.toNat (k + n))) (0 : Int))) (req (inR IntKind.i64 (k + n)) (req (decide (0 + out.length <= out.length)) (req (fitsN
 (out.length + List.length (seg 0 1 [n])) 8) (req (decide (0 + (out.length + List.length (seg 0 1 [n])) <= List.length (seg 0 (out.length) out ++ seg 0 1 [n]))) (Q (AX.exit 2) (stS 3 sh56a (B, f, a, seg 0 (out.length +
 List.length (seg 0 1 [n])) (seg 0 (out.length) out ++ seg 0 1 [n]), m + n * (List.getD (f.2.2.2.2.1) (Int.toNat day) ((0 : Int), (0 : Int))).1, k + n, ns, len, i, ()))))))) (req (inR IntKind.i64 (n + 1)) (req (decide (0 +
 out.length <= out.length)) (Int.toNat ((66 : SV.den (SV.slot 14 (SV.v I))) - (n + 1)) < Int.toNat ((66 : SV.den (SV.slot 14 (SV.v I))) - n) /\ LC2.spec lc56b (B, f, a, seg 0 (out.length) out, m, k, day, need, n + 1, ns,
 len, i, ()) Q))))))))) (req (inR IntKind.i64 (n + 1)) (req (decide (0 + out.length <= out.length)) (Int.toNat ((66 : SV.den (SV.slot 14 (SV.v I))) - (n + 1)) < Int.toNat ((66 : SV.den (SV.slot 14 (SV.v I))) - n) /\ LC2.spec
 lc56b (B, f, a, seg 0 (out.length) out, m, k, day, need, n + 1, ns, len, i, ()) Q))))))) (req (decide (0 + out.length <= out.length)) (Q (AX.exit 2) (stS 3 sh56a (B, f, a, seg 0 (out.length) out, m, k, ns, len, i, ()))))))
 (req (decide (0 + out.length <= out.length)) (Q (AX.exit 2) (stS 3 sh56a (B, f, a, seg 0 (out.length) out, m, k, ns, len, i, ())))))) := by kernel_rfl
def s56a (B : Int) (f : Fd) (a out : List Int) (m k : Int) (ns : List Int) (len i : Int) (Q : LQ) : Prop :=
 (okP f ns B i k m out /\ rowsA f ns B true a 0 /\ len = ns.length) /\ Q (.exit 0) (stS 1 sh56e (out ++ plK f ns B i k m, ()))
abbrev lc56a : LC2 := ⟨0, sh56a, 3, fun (B, f, a, out, m, k, ns, len, i, _) Q => s56a B f a out m k ns len i Q⟩
theorem v56a (B : Int) (f : Fd) (a out : List Int) (m k : Int) (ns : List Int) (len i : Int) (Q : AX -> St -> Prop) : (xloop2 Tryz.prog { l2 := [(30, 1, lc56b)] } 5 30 0 lc56a (fun _ => some (sh56e, 1)) (fun (_, _, _, _, _, _, ns, _, i, _) => mL ns i) (B, f, a, out, m, k, ns, len, i, ()) Q) =
 (fork (decide (i < len)) (req (decide ((0 : Int) <= i /\ i < (↑(ns.length) : Int))) (req (decide (0 + out.length <= out.length)) ((okP f ns B i k m (seg 0 (out.length) out) /\ rowsA f ns B true a (0 : Int) /\ i = i /\ i <
 (↑(ns.length) : Int) /\ List.getD ns (Int.toNat i) (0 : Int) = List.getD ns (Int.toNat i) (0 : Int) /\ (0 : Int) <= (0 : Int) /\ (0 : Int) <= cF f ns B i k m) /\ req (inR IntKind.i64 (i + 1)) (req (decide (0 + List.length (seg
 0 (out.length) out ++ [cF f ns B i k m]) <= List.length (seg 0 (out.length) out ++ [cF f ns B i k m]))) (mL ns (i + 1) < mL ns i /\ LC2.spec lc56a (B, f, a, seg 0 (List.length (seg 0 (out.length) out ++ [cF f ns B i k m]))
 (seg 0 (out.length) out ++ [cF f ns B i k m]), m + cF f ns B i k m * prF f i, k + cF f ns B i k m, ns, len, i + 1, ()) Q))))) (req (decide (0 + out.length <= out.length)) (Q (AX.exit 0) (stS 1 sh56e (seg 0 (out.length)
 out, ()))))) := by kernel_rfl
def planR (f : Fd) (ns : List Int) (B : Int) : List Int × Bool := if 0 < askF f ns B true 0 0 then ([], false) else (plK f ns B 0 0 0, true)
abbrev fcPl : FC := ⟨[.v TF, .v L, .v I], [L, .b], fun x K => needB x.1 x.2.1 x.2.2.1 /\ K ((planR x.1 x.2.1 x.2.2.1).1, (planR x.1 x.2.1 x.2.2.1).2, ())⟩
theorem v56F (f : Fd) (ns : List Int) (B : Int) (K : dens [L, .b] -> Prop) : (xfn1 Tryz.prog { f := [(22, fcAsk true)], l2 := [(30, 0, lc56a)] } 5 30 fcPl (f, ns, B, ()) K) =
 ((needB f ns B /\ true = true) /\ ∀ (r : List Int), rowsA f ns B true r (0 : Int) -> req (decide (r.length = 845)) (req (decide (r.length = 845)) (req (decide (0 < r.length)) (fork (decide (List.getD r 0 (0 : Int) > (0 :
 Int))) (K ([], false, ())) ((okP f ns B (0 : Int) (0 : Int) (0 : Int) [] /\ rowsA f ns B true r (0 : Int) /\ (↑(ns.length) : Int) = (↑(ns.length) : Int)) /\ req (decide (0 + List.length ([] ++ plK f ns B (0 : Int) (0 : Int)
 (0 : Int)) <= List.length ([] ++ plK f ns B (0 : Int) (0 : Int) (0 : Int)))) (K (seg 0 (List.length ([] ++ plK f ns B (0 : Int) (0 : Int) (0 : Int))) ([] ++ plK f ns B (0 : Int) (0 : Int) (0 : Int)), true, ()))))))) := by kernel_rfl
def fewI (f : Fd) (ns : List Int) : Nat -> Int -> Int
 | 0, _ => -1
 | j + 1, i => if askF f ns i true 0 0 <= 0 then i else fewI f ns j (i + 1)
def fewN (f : Fd) (ns : List Int) : Int := fewI f ns (fBars f + 1).toNat 0
abbrev shR20 : SV := S [(2, .v L), (3, .v I), (4, .v E)]
def ex20 : Ex2
 | .ret => some (shR20, 0)
 | _ => some (.nil, 0)
abbrev sh20 : SV := S [(6, bF), (7, .v L), (22, .v I), (23, .v I)]
def s20 (f : Fd) (ns : List Int) (m i : Int) (Q : LQ) : Prop := (needB f ns (fBars f) /\ m = fBars f + 1 /\ 0 <= i /\ i <= m) /\
 (fewI f ns (m - i).toNat i < 0 -> Q (.exit 0) (stS 0 .nil ())) /\ (∀ b, b = fewI f ns (m - i).toNat i -> 0 <= b -> Q .ret (stS 0 shR20 (plK f ns b 0 0 0, b, 0, ())))
abbrev lc20 : LC2 := ⟨0, sh20, 1, fun (f, ns, m, i, _) Q => s20 f ns m i Q⟩
theorem v20L (f : Fd) (ns : List Int) (m i : Int) (Q : AX -> St -> Prop) : (xloop2 Tryz.prog { f := [(30, fcPl)] } 5 16 0 lc20 ex20 (fun (_, _, m, i, _) => (m - i).toNat) (f, ns, m, i, ()) Q) =
 (fork (decide (i < m)) (needB f ns i /\ fork ((planR f ns i).2) (Q AX.ret (stS 0 shR20 ((planR f ns i).1, i, (0 : Int), ()))) (req (inR IntKind.i64 (i + 1)) (Int.toNat (m - (i + 1)) < Int.toNat (m - i) /\ LC2.spec lc20 (f,
 ns, m, i + 1, ()) Q))) (Q (AX.exit 0) (stS 0 SV.nil ()))) := by kernel_rfl
def leastR (f : Fd) : List Int × Int × Int := if okF f = true then (if fewN f (needsL f) < 0 then ([], 0, 4) else (plK f (needsL f) (fewN f (needsL f)) 0 0 0, fewN f (needsL f), 0)) else ([], 0, 90)
abbrev fcLeast : FC := ⟨[.v TF], [L, I, E], fun x K => bigF x.1 /\ K ((leastR x.1).1, (leastR x.1).2.1, (leastR x.1).2.2, ())⟩
theorem v20F (f : Fd) (K : dens [L, I, E] -> Prop) : (xfn1 Tryz.prog { f := [(10, fcCheck), (23, fcN0)], l2 := [(16, 0, lc20)] } 5 16 fcLeast (f, ()) K) =
 (bigF f /\ fork (chkE f != (0 : Int)) (K ([], (0 : Int), chkE f, ())) (okF f = true /\ req (inR IntKind.i64 (f.2.2.2.2.2.2.2.2 + 1)) ((needB f (needsL f) (fBars f) /\ f.2.2.2.2.2.2.2.2 + 1 = fBars f + 1 /\ (0 : Int) <= (0 :
 Int) /\ (0 : Int) <= f.2.2.2.2.2.2.2.2 + 1) /\ (fewI f (needsL f) (Int.toNat (f.2.2.2.2.2.2.2.2 + 1 - 0)) (0 : Int) < (0 : Int) -> K ([], (0 : Int), (4 : Int), ())) /\ ∀ (b : Int), b = fewI f (needsL f) (Int.toNat
 (f.2.2.2.2.2.2.2.2 + 1 - 0)) (0 : Int) -> (0 : Int) <= b -> K (plK f (needsL f) b (0 : Int) (0 : Int) (0 : Int), b, (0 : SV.den (SV.slot 4 (SV.v E))), ())))) := by kernel_rfl
abbrev fcPlanE : FC := ⟨[.v TF], [L, E], fun x K => bigF x.1 /\ K ((leastR x.1).1, (leastR x.1).2.2, ())⟩
theorem v22F (f : Fd) (K : dens [L, E] -> Prop) : (xfn1 Tryz.prog { f := [(16, fcLeast)] } 5 7 fcPlanE (f, ()) K) =
 (bigF f /\ K ((leastR f).1, (leastR f).2.2, ())) := by kernel_rfl
def lackF (f : Fd) : Int := maxI 0 (askF f (needsL f) (fBars f) false 0 0)
abbrev fcLack : FC := ⟨[.v TF], [I], fun x K => okF x.1 = true /\ K (lackF x.1, ())⟩
theorem v60F (f : Fd) (K : dens [I] -> Prop) : (xfn1 Tryz.prog { f := [(23, fcN0), (22, fcAsk false)] } 5 11 fcLack (f, ()) K) =
 (okF f = true /\ AV.int IntKind.i64 (f.2.2.2.2.2.2.2.2) = AV.int IntKind.i64 (f.2.2.2.2.2.2.2.2) /\ AV.agg [AV.int IntKind.i64 (f.1), AV.rl Sp (f.2.1), AV.rl I (f.2.2.1), AV.rl I (f.2.2.2.1), AV.rl Sp (f.2.2.2.2.1), AV.rl
 G3 (f.2.2.2.2.2.1), AV.rl G3 (f.2.2.2.2.2.2.1), AV.int IntKind.i64 (f.2.2.2.2.2.2.2.1), AV.int IntKind.i64 (f.2.2.2.2.2.2.2.2)] = AV.agg [AV.int IntKind.i64 (f.1), AV.rl Sp (f.2.1), AV.rl I (f.2.2.1), AV.rl I (f.2.2.2.1),
 AV.rl Sp (f.2.2.2.2.1), AV.rl G3 (f.2.2.2.2.2.1), AV.rl G3 (f.2.2.2.2.2.2.1), AV.int IntKind.i64 (f.2.2.2.2.2.2.2.1), AV.int IntKind.i64 (f.2.2.2.2.2.2.2.2)] /\ (needB f (needsL f) (f.2.2.2.2.2.2.2.2) /\ false = false) /\ ∀
 (r : List Int), rowsA f (needsL f) (f.2.2.2.2.2.2.2.2) false r (0 : Int) -> AV.int IntKind.i64 (f.2.2.2.2.2.2.2.2) = AV.int IntKind.i64 (f.2.2.2.2.2.2.2.2) /\ AV.agg [AV.int IntKind.i64 (f.1), AV.rl Sp (f.2.1), AV.rl I
 (f.2.2.1), AV.rl I (f.2.2.2.1), AV.rl Sp (f.2.2.2.2.1), AV.rl G3 (f.2.2.2.2.2.1), AV.rl G3 (f.2.2.2.2.2.2.1), AV.int IntKind.i64 (f.2.2.2.2.2.2.2.1), AV.int IntKind.i64 (f.2.2.2.2.2.2.2.2)] = AV.agg [AV.int IntKind.i64
 (f.1), AV.rl Sp (f.2.1), AV.rl I (f.2.2.1), AV.rl I (f.2.2.2.1), AV.rl Sp (f.2.2.2.2.1), AV.rl G3 (f.2.2.2.2.2.1), AV.rl G3 (f.2.2.2.2.2.2.1), AV.int IntKind.i64 (f.2.2.2.2.2.2.2.1), AV.int IntKind.i64
 (f.2.2.2.2.2.2.2.2)] /\ AV.agg [AV.int IntKind.i64 (f.1), AV.rl Sp (f.2.1), AV.rl I (f.2.2.1), AV.rl I (f.2.2.2.1), AV.rl Sp (f.2.2.2.2.1), AV.rl G3 (f.2.2.2.2.2.1), AV.rl G3 (f.2.2.2.2.2.2.1), AV.int IntKind.i64
 (f.2.2.2.2.2.2.2.1), AV.int IntKind.i64 (f.2.2.2.2.2.2.2.2)] = AV.agg [AV.int IntKind.i64 (f.1), AV.rl Sp (f.2.1), AV.rl I (f.2.2.1), AV.rl I (f.2.2.2.1), AV.rl Sp (f.2.2.2.2.1), AV.rl G3 (f.2.2.2.2.2.1), AV.rl G3
 (f.2.2.2.2.2.2.1), AV.int IntKind.i64 (f.2.2.2.2.2.2.2.1), AV.int IntKind.i64 (f.2.2.2.2.2.2.2.2)] /\ req (decide (r.length = 845)) (req (decide (r.length = 845)) (req (decide (0 < r.length)) (K (if List.getD r 0 (0 : Int)
 > (0 : Int) then List.getD r 0 (0 : Int) else (0 : Int), ()))))) := by kernel_rfl
def capR (f : Fd) : Int := if okF f = true then lackF f else 0
abbrev fcCap : FC := ⟨[.v TF], [I, E], fun x K => bigF x.1 /\ K (capR x.1, chkE x.1, ())⟩
theorem v23F (f : Fd) (K : dens [I, E] -> Prop) : (xfn1 Tryz.prog { f := [(10, fcCheck), (11, fcLack)] } 5 4 fcCap (f, ()) K) =
 (bigF f /\ fork (chkE f != (0 : Int)) (K ((0 : Int), chkE f, ())) (okF f = true /\ K (lackF f, (0 : Int), ()))) := by kernel_rfl
end Go.P9
