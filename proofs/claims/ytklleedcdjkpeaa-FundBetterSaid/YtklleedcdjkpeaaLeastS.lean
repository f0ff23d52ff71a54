/- Funds: the least sound plan, the capital, how many groups a fund bears: states and what is to be shown, reduced. No conditions. -/
import Derived.Test.YtklleedcdjkpeaaAskS
import Derived.Test.YtklleedcdjkpeaaPlanS
set_option linter.unusedSimpArgs false
set_option linter.unusedVariables false
set_option linter.constructorNameAsVariable false
set_option maxRecDepth 100000
set_option maxHeartbeats 2000000
namespace Go.P9
open Go.Lom Go.Proofs Go

/-! the plan -/
def cF (f : Fd) (ns : List Int) (B i k m : Int) : Int := firstC (okCh (prF f) (slF f) B (ns.getD i.toNat 0) (ns.drop (i + 1).toNat) i k m) (askC (slF f) B i k) 0
def plK (f : Fd) (ns : List Int) (B i k m : Int) : List Int := planK (prF f) (slF f) B (ns.drop i.toNat) i k m
def feF (f : Fd) (ns : List Int) (B i k m : Int) : Prop := feas (prF f) (slF f) (· = B) (ns.drop i.toNat) i k m
def okP (f : Fd) (ns : List Int) (B i k m : Int) (out : List Int) : Prop := needB f ns B ∧ 0 ≤ i ∧ i ≤ ns.length ∧ out.length ≤ i ∧ 0 ≤ k ∧ k ≤ B ∧ 0 ≤ m ∧ m ≤ 67108864 * i ∧ feF f ns B i k m
abbrev sh56a : SV := S [(2, .v I), (3, bF), (8, .arr 1 I), (9, .own 2 I), (10, .v I), (11, .v I), (24, .v L), (25, .v I), (26, .v I)]
abbrev sh56e : SV := S [(9, .own 0 I)]
abbrev sh56b : SV := S [(2, .v I), (3, bF), (8, .arr 1 I), (9, .own 2 I), (10, .v I), (11, .v I), (12, .v I), (13, .v I), (14, .v I), (24, .v L), (25, .v I), (26, .v I)]
def s56b (B : Int) (f : Fd) (a out : List Int) (m k day need n : Int) (ns : List Int) (len i : Int) (Q : LQ) : Prop :=
  (okP f ns B i k m out ∧ rowsA f ns B true a 0 ∧ day = i ∧ i < ns.length ∧ need = ns.getD i.toNat 0 ∧ 0 ≤ n ∧ n ≤ cF f ns B i k m) ∧
  Q (.exit 2) (stS 3 sh56a (B, f, a, out ++ [cF f ns B i k m], m + cF f ns B i k m * prF f i, k + cF f ns B i k m, ns, len, i, ()))
abbrev lc56b : LC2 := ⟨0, sh56b, 3, fun (B, f, a, out, m, k, day, need, n, ns, len, i, _) Q => s56b B f a out m k day need n ns len i Q⟩
theorem v56b (B : Int) (f : Fd) (a out : List Int) (m k day need n : Int) (ns : List Int) (len i : Int) (Q : AX → St → Prop) : (xloop2 Try.prog {} 5 56 1 lc56b (fun _ => some (sh56a, 3)) (fun (_, _, _, _, _, _, _, _, n, _, _, _, _) => (66 - n).toNat) (B, f, a, out, m, k, day, need, n, ns, len, i, ()) Q) =
(req (decide ((0 : Int) ≤ day ∧ day < (↑(List.length (Prod.fst (Prod.snd (Prod.snd (Prod.snd f))))) : Int))) (fork (decide (n ≤ List.getD (Prod.fst (Prod.snd (Prod.snd (Prod.snd f)))) (Int.toNat day) (0 : Int))) (req
 (inR Go.IntKind.i64 (k + n)) (fork (decide (k + n ≤ B)) (req (decide ((0 : Int) ≤ day ∧ day < (↑(List.length (Prod.fst (Prod.snd (Prod.snd (Prod.snd (Prod.snd f)))))) : Int))) (req (inR Go.IntKind.i64 (n * Prod.fst
 (List.getD (Prod.fst (Prod.snd (Prod.snd (Prod.snd (Prod.snd f))))) (Int.toNat day) ((0 : Int), (0 : Int))))) (req (inR Go.IntKind.i64 (m + n * Prod.fst (List.getD (Prod.fst (Prod.snd (Prod.snd (Prod.snd (Prod.snd f)))))
 (Int.toNat day) ((0 : Int), (0 : Int))))) (fork (decide (m + n * Prod.fst (List.getD (Prod.fst (Prod.snd (Prod.snd (Prod.snd (Prod.snd f))))) (Int.toNat day) ((0 : Int), (0 : Int))) ≥ need)) (req (inR Go.IntKind.i64 (day
 + (1 : Int))) (req (inR Go.IntKind.i64 (k + n)) (req (decide ((0 : Int) ≤ day + (1 : Int) ∧ day + (1 : Int) < (13 : Int))) (req (decide ((0 : Int) ≤ k + n ∧ k + n < (65 : Int))) (req (decide ((0 : Nat) + addN (Int.toNat
 (day + (1 : Int)) * (65 : Nat)) (Int.toNat (k + n)) < List.length a)) (fork (decide (m + n * Prod.fst (List.getD (Prod.fst (Prod.snd (Prod.snd (Prod.snd (Prod.snd f))))) (Int.toNat day) ((0 : Int), (0 : Int))) ≥
 List.getD a ((0 : Nat) + addN (Int.toNat (day + (1 : Int)) * (65 : Nat)) (Int.toNat (k + n))) (0 : Int))) (req (inR Go.IntKind.i64 (k + n)) (req (decide ((0 : Nat) + List.length out ≤ List.length out)) (req (fitsN
 (List.length out + List.length (seg (0 : Nat) (1 : Nat) [n])) (8 : Nat)) (req (decide ((0 : Nat) + (List.length out + List.length (seg (0 : Nat) (1 : Nat) [n])) ≤ List.length (seg (0 : Nat) (List.length out) out ++ seg
 (0 : Nat) (1 : Nat) [n]))) (Q (AX.exit (2 : Nat)) (stS (3 : Nat) Go.P9.sh56a (B, f, a, seg (0 : Nat) (List.length out + List.length (seg (0 : Nat) (1 : Nat) [n])) (seg (0 : Nat) (List.length out) out ++ seg (0 : Nat) (1
 : Nat) [n]), m + n * Prod.fst (List.getD (Prod.fst (Prod.snd (Prod.snd (Prod.snd (Prod.snd f))))) (Int.toNat day) ((0 : Int), (0 : Int))), k + n, ns, len, i, ()))))))) (req (inR Go.IntKind.i64 (n + (1 : Int))) (req
 (decide ((0 : Nat) + List.length out ≤ List.length out)) (Int.toNat ((66 : SV.den (SV.slot (14 : Nat) (SV.v Go.P9.I))) - (n + (1 : Int))) < Int.toNat ((66 : SV.den (SV.slot (14 : Nat) (SV.v Go.P9.I))) - n) ∧ LC2.spec
 Go.P9.lc56b (B, f, a, seg (0 : Nat) (List.length out) out, m, k, day, need, n + (1 : Int), ns, len, i, ()) Q))))))))) (req (inR Go.IntKind.i64 (n + (1 : Int))) (req (decide ((0 : Nat) + List.length out ≤ List.length
 out)) (Int.toNat ((66 : SV.den (SV.slot (14 : Nat) (SV.v Go.P9.I))) - (n + (1 : Int))) < Int.toNat ((66 : SV.den (SV.slot (14 : Nat) (SV.v Go.P9.I))) - n) ∧ LC2.spec Go.P9.lc56b (B, f, a, seg (0 : Nat) (List.length out)
 out, m, k, day, need, n + (1 : Int), ns, len, i, ()) Q))))))) (req (decide ((0 : Nat) + List.length out ≤ List.length out)) (Q (AX.exit (2 : Nat)) (stS (3 : Nat) Go.P9.sh56a (B, f, a, seg (0 : Nat) (List.length out) out,
 m, k, ns, len, i, ())))))) (req (decide ((0 : Nat) + List.length out ≤ List.length out)) (Q (AX.exit (2 : Nat)) (stS (3 : Nat) Go.P9.sh56a (B, f, a, seg (0 : Nat) (List.length out) out, m, k, ns, len, i, ())))))) := by kernel_rfl
def s56a (B : Int) (f : Fd) (a out : List Int) (m k : Int) (ns : List Int) (len i : Int) (Q : LQ) : Prop :=
  (okP f ns B i k m out ∧ rowsA f ns B true a 0 ∧ len = ns.length) ∧ Q (.exit 0) (stS 1 sh56e (out ++ plK f ns B i k m, ()))
abbrev lc56a : LC2 := ⟨0, sh56a, 3, fun (B, f, a, out, m, k, ns, len, i, _) Q => s56a B f a out m k ns len i Q⟩
theorem v56a (B : Int) (f : Fd) (a out : List Int) (m k : Int) (ns : List Int) (len i : Int) (Q : AX → St → Prop) : (xloop2 Try.prog { l2 := [(56, 1, lc56b)] } 5 56 0 lc56a (fun _ => some (sh56e, 1)) (fun (_, _, _, _, _, _, ns, _, i, _) => mL ns i) (B, f, a, out, m, k, ns, len, i, ()) Q) =
(fork (decide (i < len)) (req (decide ((0 : Int) ≤ i ∧ i < (↑(List.length ns) : Int))) (req (decide ((0 : Nat) + List.length out ≤ List.length out)) ((Go.P9.okP f ns B i k m (seg (0 : Nat) (List.length out) out) ∧
 Go.P9.rowsA f ns B Bool.true a (0 : Int) ∧ i = i ∧ i < (↑(List.length ns) : Int) ∧ List.getD ns (Int.toNat i) (0 : Int) = List.getD ns (Int.toNat i) (0 : Int) ∧ (0 : Int) ≤ (0 : Int) ∧ (0 : Int) ≤ Go.P9.cF f ns B i k m)
 ∧ req (inR Go.IntKind.i64 (i + (1 : Int))) (req (decide ((0 : Nat) + List.length (seg (0 : Nat) (List.length out) out ++ [Go.P9.cF f ns B i k m]) ≤ List.length (seg (0 : Nat) (List.length out) out ++ [Go.P9.cF f ns B i k
 m]))) (Go.P9.mL ns (i + (1 : Int)) < Go.P9.mL ns i ∧ LC2.spec Go.P9.lc56a (B, f, a, seg (0 : Nat) (List.length (seg (0 : Nat) (List.length out) out ++ [Go.P9.cF f ns B i k m])) (seg (0 : Nat) (List.length out) out ++
 [Go.P9.cF f ns B i k m]), m + Go.P9.cF f ns B i k m * Go.P9.prF f i, k + Go.P9.cF f ns B i k m, ns, len, i + (1 : Int), ()) Q))))) (req (decide ((0 : Nat) + List.length out ≤ List.length out)) (Q (AX.exit (0 : Nat)) (stS
 (1 : Nat) Go.P9.sh56e (seg (0 : Nat) (List.length out) out, ()))))) := by kernel_rfl
def planR (f : Fd) (ns : List Int) (B : Int) : List Int × Bool := if 0 < askF f ns B true 0 0 then ([], false) else (plK f ns B 0 0 0, true)
abbrev fcPl : FC := ⟨[.v TF, .v L, .v I], [L, .b], fun x K => needB x.1 x.2.1 x.2.2.1 ∧ K ((planR x.1 x.2.1 x.2.2.1).1, (planR x.1 x.2.1 x.2.2.1).2, ())⟩
theorem v56F (f : Fd) (ns : List Int) (B : Int) (K : dens [L, .b] → Prop) : (xfn1 Try.prog { f := [(76, fcAsk true)], l2 := [(56, 0, lc56a)] } 5 56 fcPl (f, ns, B, ()) K) =
((Go.P9.needB f ns B ∧ Bool.true = Bool.true) ∧ ∀ (r : List Int), Go.P9.rowsA f ns B Bool.true r (0 : Int) → req (decide (List.length r = (845 : Nat))) (req (decide (List.length r = (845 : Nat))) (req (decide ((0 : Nat)
 < List.length r)) (fork (decide (List.getD r (0 : Nat) (0 : Int) > (0 : Int))) (K ([], Bool.false, ())) ((Go.P9.okP f ns B (0 : Int) (0 : Int) (0 : Int) [] ∧ Go.P9.rowsA f ns B Bool.true r (0 : Int) ∧ (↑(List.length ns)
 : Int) = (↑(List.length ns) : Int)) ∧ req (decide ((0 : Nat) + List.length ([] ++ Go.P9.plK f ns B (0 : Int) (0 : Int) (0 : Int)) ≤ List.length ([] ++ Go.P9.plK f ns B (0 : Int) (0 : Int) (0 : Int)))) (K (seg (0 : Nat)
 (List.length ([] ++ Go.P9.plK f ns B (0 : Int) (0 : Int) (0 : Int))) ([] ++ Go.P9.plK f ns B (0 : Int) (0 : Int) (0 : Int)), Bool.true, ()))))))) := by kernel_rfl

/-! the least one -/
def fewI (f : Fd) (ns : List Int) : Nat → Int → Int
  | 0, _ => -1
  | j + 1, i => if askF f ns i true 0 0 ≤ 0 then i else fewI f ns j (i + 1)
def fewN (f : Fd) (ns : List Int) : Int := fewI f ns (fBars f + 1).toNat 0
abbrev shR20 : SV := S [(2, .v L), (3, .v I), (4, .v E)]
def ex20 : Ex2
  | .ret => some (shR20, 0)
  | _ => some (.nil, 0)
abbrev sh20 : SV := S [(6, bF), (7, .v L), (22, .v I), (23, .v I)]
def s20 (f : Fd) (ns : List Int) (m i : Int) (Q : LQ) : Prop := (needB f ns (fBars f) ∧ m = fBars f + 1 ∧ 0 ≤ i ∧ i ≤ m) ∧
  (fewI f ns (m - i).toNat i < 0 → Q (.exit 0) (stS 0 .nil ())) ∧ (∀ b, b = fewI f ns (m - i).toNat i → 0 ≤ b → Q .ret (stS 0 shR20 (plK f ns b 0 0 0, b, 0, ())))
abbrev lc20 : LC2 := ⟨0, sh20, 1, fun (f, ns, m, i, _) Q => s20 f ns m i Q⟩
theorem v20L (f : Fd) (ns : List Int) (m i : Int) (Q : AX → St → Prop) : (xloop2 Try.prog { f := [(56, fcPl)] } 5 20 0 lc20 ex20 (fun (_, _, m, i, _) => (m - i).toNat) (f, ns, m, i, ()) Q) =
(fork (decide (i < m)) (Go.P9.needB f ns i ∧ fork (Prod.snd (Go.P9.planR f ns i)) (Q AX.ret (stS (0 : Nat) Go.P9.shR20 (Prod.fst (Go.P9.planR f ns i), i, (0 : Int), ()))) (req (inR Go.IntKind.i64 (i + (1 : Int)))
 (Int.toNat (m - (i + (1 : Int))) < Int.toNat (m - i) ∧ LC2.spec Go.P9.lc20 (f, ns, m, i + (1 : Int), ()) Q))) (Q (AX.exit (0 : Nat)) (stS (0 : Nat) SV.nil ()))) := by kernel_rfl
def leastR (f : Fd) : List Int × Int × Int := if okF f = true then (if fewN f (needsL f) < 0 then ([], 0, 4) else (plK f (needsL f) (fewN f (needsL f)) 0 0 0, fewN f (needsL f), 0)) else ([], 0, 90)
abbrev fcLeast : FC := ⟨[.v TF], [L, I, E], fun x K => bigF x.1 ∧ K ((leastR x.1).1, (leastR x.1).2.1, (leastR x.1).2.2, ())⟩
theorem v20F (f : Fd) (K : dens [L, I, E] → Prop) : (xfn1 Try.prog { f := [(29, fcCheck), (54, fcN0)], l2 := [(20, 0, lc20)] } 5 20 fcLeast (f, ()) K) =
(Go.P9.bigF f ∧ fork (Go.P9.chkE f != (0 : Int)) (K ([], (0 : Int), Go.P9.chkE f, ())) (Go.P9.okF f = Bool.true ∧ req (inR Go.IntKind.i64 (Prod.snd (Prod.snd (Prod.snd (Prod.snd (Prod.snd (Prod.snd (Prod.snd (Prod.snd
 f))))))) + (1 : Int))) ((Go.P9.needB f (Go.P9.needsL f) (Go.P9.fBars f) ∧ Prod.snd (Prod.snd (Prod.snd (Prod.snd (Prod.snd (Prod.snd (Prod.snd (Prod.snd f))))))) + (1 : Int) = Go.P9.fBars f + (1 : Int) ∧ (0 : Int) ≤ (0 :
 Int) ∧ (0 : Int) ≤ Prod.snd (Prod.snd (Prod.snd (Prod.snd (Prod.snd (Prod.snd (Prod.snd (Prod.snd f))))))) + (1 : Int)) ∧ (Go.P9.fewI f (Go.P9.needsL f) (Int.toNat (Prod.snd (Prod.snd (Prod.snd (Prod.snd (Prod.snd
 (Prod.snd (Prod.snd (Prod.snd f))))))) + (1 : Int) - (0 : Int))) (0 : Int) < (0 : Int) → K ([], (0 : Int), (4 : Int), ())) ∧ ∀ (b : Int), b = Go.P9.fewI f (Go.P9.needsL f) (Int.toNat (Prod.snd (Prod.snd (Prod.snd
 (Prod.snd (Prod.snd (Prod.snd (Prod.snd (Prod.snd f))))))) + (1 : Int) - (0 : Int))) (0 : Int) → (0 : Int) ≤ b → K (Go.P9.plK f (Go.P9.needsL f) b (0 : Int) (0 : Int) (0 : Int), b, (0 : SV.den (SV.slot (4 : Nat) (SV.v
 Go.P9.E))), ())))) := by kernel_rfl

/-! the capital -/
def lackF (f : Fd) : Int := maxI 0 (askF f (needsL f) (fBars f) false 0 0)
abbrev fcLack : FC := ⟨[.v TF], [I], fun x K => okF x.1 = true ∧ K (lackF x.1, ())⟩
theorem v60F (f : Fd) (K : dens [I] → Prop) : (xfn1 Try.prog { f := [(54, fcN0), (76, fcAsk false)] } 5 60 fcLack (f, ()) K) =
(Go.P9.okF f = Bool.true ∧ AV.int Go.IntKind.i64 (Prod.snd (Prod.snd (Prod.snd (Prod.snd (Prod.snd (Prod.snd (Prod.snd (Prod.snd f)))))))) = AV.int Go.IntKind.i64 (Prod.snd (Prod.snd (Prod.snd (Prod.snd (Prod.snd
 (Prod.snd (Prod.snd (Prod.snd f)))))))) ∧ AV.agg [AV.int Go.IntKind.i64 (Prod.fst f), AV.rl Go.P9.Sp (Prod.fst (Prod.snd f)), AV.rl Go.P9.I (Prod.fst (Prod.snd (Prod.snd f))), AV.rl Go.P9.I (Prod.fst (Prod.snd (Prod.snd
 (Prod.snd f)))), AV.rl Go.P9.Sp (Prod.fst (Prod.snd (Prod.snd (Prod.snd (Prod.snd f))))), AV.rl Go.P9.G3 (Prod.fst (Prod.snd (Prod.snd (Prod.snd (Prod.snd (Prod.snd f)))))), AV.rl Go.P9.G3 (Prod.fst (Prod.snd (Prod.snd
 (Prod.snd (Prod.snd (Prod.snd (Prod.snd f))))))), AV.int Go.IntKind.i64 (Prod.fst (Prod.snd (Prod.snd (Prod.snd (Prod.snd (Prod.snd (Prod.snd (Prod.snd f)))))))), AV.int Go.IntKind.i64 (Prod.snd (Prod.snd (Prod.snd
 (Prod.snd (Prod.snd (Prod.snd (Prod.snd (Prod.snd f))))))))] = AV.agg [AV.int Go.IntKind.i64 (Prod.fst f), AV.rl Go.P9.Sp (Prod.fst (Prod.snd f)), AV.rl Go.P9.I (Prod.fst (Prod.snd (Prod.snd f))), AV.rl Go.P9.I (Prod.fst
 (Prod.snd (Prod.snd (Prod.snd f)))), AV.rl Go.P9.Sp (Prod.fst (Prod.snd (Prod.snd (Prod.snd (Prod.snd f))))), AV.rl Go.P9.G3 (Prod.fst (Prod.snd (Prod.snd (Prod.snd (Prod.snd (Prod.snd f)))))), AV.rl Go.P9.G3 (Prod.fst
 (Prod.snd (Prod.snd (Prod.snd (Prod.snd (Prod.snd (Prod.snd f))))))), AV.int Go.IntKind.i64 (Prod.fst (Prod.snd (Prod.snd (Prod.snd (Prod.snd (Prod.snd (Prod.snd (Prod.snd f)))))))), AV.int Go.IntKind.i64 (Prod.snd
 (Prod.snd (Prod.snd (Prod.snd (Prod.snd (Prod.snd (Prod.snd (Prod.snd f))))))))] ∧ (Go.P9.needB f (Go.P9.needsL f) (Prod.snd (Prod.snd (Prod.snd (Prod.snd (Prod.snd (Prod.snd (Prod.snd (Prod.snd f)))))))) ∧ Bool.false =
 Bool.false) ∧ ∀ (r : List Int), Go.P9.rowsA f (Go.P9.needsL f) (Prod.snd (Prod.snd (Prod.snd (Prod.snd (Prod.snd (Prod.snd (Prod.snd (Prod.snd f)))))))) Bool.false r (0 : Int) → AV.int Go.IntKind.i64 (Prod.snd (Prod.snd
 (Prod.snd (Prod.snd (Prod.snd (Prod.snd (Prod.snd (Prod.snd f)))))))) = AV.int Go.IntKind.i64 (Prod.snd (Prod.snd (Prod.snd (Prod.snd (Prod.snd (Prod.snd (Prod.snd (Prod.snd f)))))))) ∧ AV.agg [AV.int Go.IntKind.i64
 (Prod.fst f), AV.rl Go.P9.Sp (Prod.fst (Prod.snd f)), AV.rl Go.P9.I (Prod.fst (Prod.snd (Prod.snd f))), AV.rl Go.P9.I (Prod.fst (Prod.snd (Prod.snd (Prod.snd f)))), AV.rl Go.P9.Sp (Prod.fst (Prod.snd (Prod.snd (Prod.snd
 (Prod.snd f))))), AV.rl Go.P9.G3 (Prod.fst (Prod.snd (Prod.snd (Prod.snd (Prod.snd (Prod.snd f)))))), AV.rl Go.P9.G3 (Prod.fst (Prod.snd (Prod.snd (Prod.snd (Prod.snd (Prod.snd (Prod.snd f))))))), AV.int Go.IntKind.i64
 (Prod.fst (Prod.snd (Prod.snd (Prod.snd (Prod.snd (Prod.snd (Prod.snd (Prod.snd f)))))))), AV.int Go.IntKind.i64 (Prod.snd (Prod.snd (Prod.snd (Prod.snd (Prod.snd (Prod.snd (Prod.snd (Prod.snd f))))))))] = AV.agg [AV.int
 Go.IntKind.i64 (Prod.fst f), AV.rl Go.P9.Sp (Prod.fst (Prod.snd f)), AV.rl Go.P9.I (Prod.fst (Prod.snd (Prod.snd f))), AV.rl Go.P9.I (Prod.fst (Prod.snd (Prod.snd (Prod.snd f)))), AV.rl Go.P9.Sp (Prod.fst (Prod.snd
 (Prod.snd (Prod.snd (Prod.snd f))))), AV.rl Go.P9.G3 (Prod.fst (Prod.snd (Prod.snd (Prod.snd (Prod.snd (Prod.snd f)))))), AV.rl Go.P9.G3 (Prod.fst (Prod.snd (Prod.snd (Prod.snd (Prod.snd (Prod.snd (Prod.snd f))))))),
 AV.int Go.IntKind.i64 (Prod.fst (Prod.snd (Prod.snd (Prod.snd (Prod.snd (Prod.snd (Prod.snd (Prod.snd f)))))))), AV.int Go.IntKind.i64 (Prod.snd (Prod.snd (Prod.snd (Prod.snd (Prod.snd (Prod.snd (Prod.snd (Prod.snd
 f))))))))] ∧ AV.agg [AV.int Go.IntKind.i64 (Prod.fst f), AV.rl Go.P9.Sp (Prod.fst (Prod.snd f)), AV.rl Go.P9.I (Prod.fst (Prod.snd (Prod.snd f))), AV.rl Go.P9.I (Prod.fst (Prod.snd (Prod.snd (Prod.snd f)))), AV.rl
 Go.P9.Sp (Prod.fst (Prod.snd (Prod.snd (Prod.snd (Prod.snd f))))), AV.rl Go.P9.G3 (Prod.fst (Prod.snd (Prod.snd (Prod.snd (Prod.snd (Prod.snd f)))))), AV.rl Go.P9.G3 (Prod.fst (Prod.snd (Prod.snd (Prod.snd (Prod.snd
 (Prod.snd (Prod.snd f))))))), AV.int Go.IntKind.i64 (Prod.fst (Prod.snd (Prod.snd (Prod.snd (Prod.snd (Prod.snd (Prod.snd (Prod.snd f)))))))), AV.int Go.IntKind.i64 (Prod.snd (Prod.snd (Prod.snd (Prod.snd (Prod.snd
 (Prod.snd (Prod.snd (Prod.snd f))))))))] = AV.agg [AV.int Go.IntKind.i64 (Prod.fst f), AV.rl Go.P9.Sp (Prod.fst (Prod.snd f)), AV.rl Go.P9.I (Prod.fst (Prod.snd (Prod.snd f))), AV.rl Go.P9.I (Prod.fst (Prod.snd (Prod.snd
 (Prod.snd f)))), AV.rl Go.P9.Sp (Prod.fst (Prod.snd (Prod.snd (Prod.snd (Prod.snd f))))), AV.rl Go.P9.G3 (Prod.fst (Prod.snd (Prod.snd (Prod.snd (Prod.snd (Prod.snd f)))))), AV.rl Go.P9.G3 (Prod.fst (Prod.snd (Prod.snd
 (Prod.snd (Prod.snd (Prod.snd (Prod.snd f))))))), AV.int Go.IntKind.i64 (Prod.fst (Prod.snd (Prod.snd (Prod.snd (Prod.snd (Prod.snd (Prod.snd (Prod.snd f)))))))), AV.int Go.IntKind.i64 (Prod.snd (Prod.snd (Prod.snd
 (Prod.snd (Prod.snd (Prod.snd (Prod.snd (Prod.snd f))))))))] ∧ req (decide (List.length r = (845 : Nat))) (req (decide (List.length r = (845 : Nat))) (req (decide ((0 : Nat) < List.length r)) (K (if List.getD r (0 : Nat)
 (0 : Int) > (0 : Int) then List.getD r (0 : Nat) (0 : Int) else (0 : Int), ()))))) := by kernel_rfl
def capR (f : Fd) : Int := if okF f = true then lackF f else 0
abbrev fcCap : FC := ⟨[.v TF], [I, E], fun x K => bigF x.1 ∧ K (capR x.1, chkE x.1, ())⟩
theorem v23F (f : Fd) (K : dens [I, E] → Prop) : (xfn1 Try.prog { f := [(29, fcCheck), (60, fcLack)] } 5 23 fcCap (f, ()) K) =
(Go.P9.bigF f ∧ fork (Go.P9.chkE f != (0 : Int)) (K ((0 : Int), Go.P9.chkE f, ())) (Go.P9.okF f = Bool.true ∧ K (Go.P9.lackF f, (0 : Int), ()))) := by kernel_rfl

/-! how many groups -/
abbrev wB (f : Fd) (n : Int) : Fd := (fCash f, fIn f, fBonds f, fSell f, fPrices f, fGroups f, fWays f, n, fBars f)
def lackB (f : Fd) (n : Int) : Bool := decide (0 < lackF (wB f n))
abbrev fc62 : FC := ⟨[.v I, .ref TF], [.b], fun x K => (okF x.2.1 = true ∧ 0 ≤ x.1 ∧ x.1 ≤ (fGroups x.2.1).length) ∧ K (lackB x.2.1 x.1, ())⟩
theorem v62F (n : Int) (f : Fd) (K : dens [.b] → Prop) : (xfn1 Try.prog { f := [(60, fcLack)] } 5 62 fc62 (n, f, ()) K) =
(Go.P9.okF (Prod.fst f, Prod.fst (Prod.snd f), Prod.fst (Prod.snd (Prod.snd f)), Prod.fst (Prod.snd (Prod.snd (Prod.snd f))), Prod.fst (Prod.snd (Prod.snd (Prod.snd (Prod.snd f)))), Prod.fst (Prod.snd (Prod.snd (Prod.snd
 (Prod.snd (Prod.snd f))))), Prod.fst (Prod.snd (Prod.snd (Prod.snd (Prod.snd (Prod.snd (Prod.snd f)))))), n, Prod.snd (Prod.snd (Prod.snd (Prod.snd (Prod.snd (Prod.snd (Prod.snd (Prod.snd f)))))))) = Bool.true ∧ K
 (decide (Go.P9.lackF (Prod.fst f, Prod.fst (Prod.snd f), Prod.fst (Prod.snd (Prod.snd f)), Prod.fst (Prod.snd (Prod.snd (Prod.snd f))), Prod.fst (Prod.snd (Prod.snd (Prod.snd (Prod.snd f)))), Prod.fst (Prod.snd (Prod.snd
 (Prod.snd (Prod.snd (Prod.snd f))))), Prod.fst (Prod.snd (Prod.snd (Prod.snd (Prod.snd (Prod.snd (Prod.snd f)))))), n, Prod.snd (Prod.snd (Prod.snd (Prod.snd (Prod.snd (Prod.snd (Prod.snd (Prod.snd f)))))))) > (0 :
 Int)), ())) := by kernel_rfl
abbrev aC62 : AT := .clo 62 [] [(true, TF)]
abbrev sh61 : SV := S [(0, .v L), (1, .a aC62), (7, .v I), (8, .v I)]
def ex61 : Ex2
  | .ret => some (S [(4, .v I)], 0)
  | _ => some (.nil, 0)
def s61 (l : List Int) (f : Fd) (m i : Int) (Q : LQ) : Prop := (0 ≤ i ∧ i ≤ l.length ∧ m = l.length ∧ l.length ≤ 9223372036854775807 ∧ okF f = true ∧ ∀ x ∈ l, 0 ≤ x ∧ x ≤ (fGroups f).length) ∧ ((l.drop i.toNat).any (lackB f) = false → Q (.exit 0) (stS 0 .nil ())) ∧ ((l.drop i.toNat).any (lackB f) = true → Q .ret (stS 0 (S [(4, .v I)]) (firstIx (lackB f) (l.drop i.toNat) i, ())))
abbrev lc61 : LC2 := ⟨0, sh61, 0, fun x Q => s61 x.1 x.2.1.2.1 x.2.2.1 x.2.2.2.1 Q⟩
theorem v61L (l : List Int) (f : Fd) (m i : Int) (Q : AX → St → Prop) : (xloop2 Try.prog { f := [(62, fc62)] } 5 61 0 lc61 ex61 (fun x => mL x.1 x.2.2.2.1) (l, ((), f, ()), m, i, ()) Q) =
(fork (decide (i < m)) (req (decide ((0 : Int) ≤ i ∧ i < (↑(List.length l) : Int))) ((Go.P9.okF f = Bool.true ∧ (0 : AT.den (AT.v Go.P9.I)) ≤ List.getD l (Int.toNat i) (0 : Int) ∧ List.getD l (Int.toNat i) (0 : Int) ≤
 (↑(List.length (Go.P9.fGroups f)) : AT.den (AT.v Go.P9.I))) ∧ fork (Go.P9.lackB f (List.getD l (Int.toNat i) (0 : Int))) (Q AX.ret (stS (0 : Nat) (Go.P9.S [((4 : Nat), SV.v Go.P9.I)]) (i, ()))) (req (inR Go.IntKind.i64
 (i + (1 : Int))) (Go.P9.mL l (i + (1 : Int)) < Go.P9.mL l i ∧ LC2.spec Go.P9.lc61 (l, ((), f, ()), m, i + (1 : Int), ()) Q)))) (Q (AX.exit (0 : Nat)) (stS (0 : Nat) SV.nil ()))) := by kernel_rfl
abbrev fc61 : FC := ⟨[.v L, aC62], [I], fun x K => (x.1.length ≤ 9223372036854775807 ∧ okF x.2.1.2.1 = true ∧ ∀ y ∈ x.1, 0 ≤ y ∧ y ≤ (fGroups x.2.1.2.1).length) ∧ K (firstIx (lackB x.2.1.2.1) x.1 0, ())⟩
theorem v61F (l : List Int) (f : Fd) (K : dens [I] → Prop) : (xfn1 Try.prog { l2 := [(61, 0, lc61)] } 5 61 fc61 (l, ((), f, ()), ()) K) =
(((0 : Int) ≤ (0 : Int) ∧ (0 : Int) ≤ (↑(List.length l) : Int) ∧ (↑(List.length l) : Int) = (↑(List.length l) : Int) ∧ List.length l ≤ (9223372036854775807 : Nat) ∧ Go.P9.okF f = Bool.true ∧ ∀ (x : Int), x ∈ l → (0 :
 Int) ≤ x ∧ x ≤ (↑(List.length (Go.P9.fGroups f)) : Int)) ∧ (List.any (List.drop (0 : Nat) l) (Go.P9.lackB f) = Bool.false → K ((-1 : Int), ())) ∧ (List.any (List.drop (0 : Nat) l) (Go.P9.lackB f) = Bool.true → K
 (Go.P9.firstIx (Go.P9.lackB f) (List.drop (0 : Nat) l) (0 : Int), ()))) := by kernel_rfl
def numL (m i : Int) : List Int := ((List.range m.toNat).drop i.toNat).map fun k : Nat => (k : Int)
abbrev sh25 : SV := S [(1, bF), (5, .own 1 I), (16, .v I), (17, .v I)]
abbrev sh25e : SV := S [(1, bF), (5, .v L)]
def s25 (f : Fd) (out : List Int) (m i : Int) (Q : LQ) : Prop := (0 ≤ i ∧ i ≤ m ∧ m ≤ 9 ∧ out.length ≤ i) ∧ Q (.exit 0) (stS 1 sh25e (f, out ++ numL m i, ()))
abbrev lc25 : LC2 := ⟨0, sh25, 2, fun (f, out, m, i, _) Q => s25 f out m i Q⟩
theorem v25L (f : Fd) (out : List Int) (m i : Int) (Q : AX → St → Prop) : (xloop2 Try.prog {} 5 25 0 lc25 (fun _ => some (sh25e, 1)) (fun (_, _, m, i, _) => (m - i).toNat) (f, out, m, i, ()) Q) =
(fork (decide (i < m)) (req (decide ((0 : Nat) + List.length out ≤ List.length out)) (req (fitsN (List.length out + List.length (seg (0 : Nat) (1 : Nat) [i])) (8 : Nat)) (req (inR Go.IntKind.i64 (i + (1 : Int))) (req
 (decide ((0 : Nat) + (List.length out + List.length (seg (0 : Nat) (1 : Nat) [i])) ≤ List.length (seg (0 : Nat) (List.length out) out ++ seg (0 : Nat) (1 : Nat) [i]))) (Int.toNat (m - (i + (1 : Int))) < Int.toNat (m - i)
 ∧ LC2.spec Go.P9.lc25 (f, seg (0 : Nat) (List.length out + List.length (seg (0 : Nat) (1 : Nat) [i])) (seg (0 : Nat) (List.length out) out ++ seg (0 : Nat) (1 : Nat) [i]), m, i + (1 : Int), ()) Q))))) (req (decide ((0 :
 Nat) + List.length out ≤ List.length out)) (Q (AX.exit (0 : Nat)) (stS (1 : Nat) Go.P9.sh25e (f, seg (0 : Nat) (List.length out) out, ()))))) := by kernel_rfl
def bearA (f : Fd) : Int := firstIx (lackB f) (numL ((fGroups f).length + 1) 0) 0
def bearsR (f : Fd) : Int × Int := if okF f = true then (if bearA f = 0 then (0, 4) else if bearA f = -1 then ((fGroups f).length, 0) else (bearA f - 1, 0)) else (0, 90)
abbrev fcBears : FC := ⟨[.v TF], [I, E], fun x K => bigF x.1 ∧ K ((bearsR x.1).1, (bearsR x.1).2, ())⟩
theorem v25F (f : Fd) (K : dens [I, E] → Prop) : (xfn1 Try.prog { f := [(29, fcCheck), (61, fc61)], l2 := [(25, 0, lc25)] } 5 25 fcBears (f, ()) K) =
(Go.P9.bigF f ∧ fork (Go.P9.chkE f != (0 : Int)) (K ((0 : Int), Go.P9.chkE f, ())) (req (inR Go.IntKind.i64 ((↑(List.length (Prod.fst (Prod.snd (Prod.snd (Prod.snd (Prod.snd (Prod.snd f))))))) : Int) + (1 : Int))) (((0 :
 Int) ≤ (0 : Int) ∧ (0 : Int) ≤ (↑(List.length (Prod.fst (Prod.snd (Prod.snd (Prod.snd (Prod.snd (Prod.snd f))))))) : Int) + (1 : Int) ∧ (↑(List.length (Prod.fst (Prod.snd (Prod.snd (Prod.snd (Prod.snd (Prod.snd f)))))))
 : Int) + (1 : Int) ≤ (9 : Int) ∧ (0 : Int) ≤ (0 : Int)) ∧ (List.length ([] ++ Go.P9.numL ((↑(List.length (Prod.fst (Prod.snd (Prod.snd (Prod.snd (Prod.snd (Prod.snd f))))))) : Int) + (1 : Int)) (0 : Int)) ≤
 (9223372036854775807 : Nat) ∧ Go.P9.okF f = Bool.true ∧ ∀ (y : Ty.den Go.P9.I), y ∈ [] ++ Go.P9.numL ((↑(List.length (Prod.fst (Prod.snd (Prod.snd (Prod.snd (Prod.snd (Prod.snd f))))))) : Int) + (1 : Int)) (0 : Int) → (0
 : Ty.den Go.P9.I) ≤ y ∧ y ≤ (↑(List.length (Go.P9.fGroups f)) : Ty.den Go.P9.I)) ∧ fork (Go.P9.firstIx (Go.P9.lackB f) ([] ++ Go.P9.numL ((↑(List.length (Prod.fst (Prod.snd (Prod.snd (Prod.snd (Prod.snd (Prod.snd
 f))))))) : Int) + (1 : Int)) (0 : Int)) (0 : Int) == (0 : Int)) (K ((0 : Int), (4 : Int), ())) (fork (Go.P9.firstIx (Go.P9.lackB f) ([] ++ Go.P9.numL ((↑(List.length (Prod.fst (Prod.snd (Prod.snd (Prod.snd (Prod.snd
 (Prod.snd f))))))) : Int) + (1 : Int)) (0 : Int)) (0 : Int) == (-1 : Int)) (K ((↑(List.length (Prod.fst (Prod.snd (Prod.snd (Prod.snd (Prod.snd (Prod.snd f))))))) : Int), (0 : Int), ())) (req (inR Go.IntKind.i64
 (Go.P9.firstIx (Go.P9.lackB f) ([] ++ Go.P9.numL ((↑(List.length (Prod.fst (Prod.snd (Prod.snd (Prod.snd (Prod.snd (Prod.snd f))))))) : Int) + (1 : Int)) (0 : Int)) (0 : Int) - (1 : Int))) (K (Go.P9.firstIx (Go.P9.lackB
 f) ([] ++ Go.P9.numL ((↑(List.length (Prod.fst (Prod.snd (Prod.snd (Prod.snd (Prod.snd (Prod.snd f))))))) : Int) + (1 : Int)) (0 : Int)) (0 : Int) - (1 : Int), (0 : Int), ()))))))) := by kernel_rfl
end Go.P9
