/- Windows: states and what is to be shown, reduced. No conditions. -/
import Derived.Test.YtfenogdjhadcoaaGreatZatS1
set_option linter.unusedSimpArgs false
set_option linter.unusedVariables false
set_option linter.constructorNameAsVariable false
set_option maxRecDepth 100000
set_option maxHeartbeats 2000000
namespace Go.P8
open Go.Lom Go.Proofs Go

abbrev Wat : Type := TWt.den
/-! watchOf -/
abbrev sh66 : SV := S [(0, .v LD), (1, .v L2), (5, .box 0 (.v TW)), (6, .box 1 (.v TWt)), (7, .v E), (8, .v .b), (9, .v I), (20, .v LD), (21, .v I), (22, .v I)]
abbrev sh66e : SV := S [(0, .v LD), (1, .v L2), (5, .box 0 (.v TW)), (6, .box 1 (.v TWt)), (7, .v E), (8, .v .b)]
abbrev lc66 : LC2 := ⟨0, sh66, 2, fun (l0, ls, w, r, e, b, last, l, m, i, _) Q => (l.length ≤ big ∧ m = l.length ∧ 0 ≤ i ∧ i ≤ l.length) ∧ ∀ b1 : Bool, b1 = (b || !dlsOk (l.drop i.toNat) last) → Q (.exit 0) (stS 2 sh66e (l0, ls, w, r, e, b1, ()))⟩
theorem v66L (l0 : List Dl) (ls : List Lk) (w : Wt) (r : Wat) (e : Int) (b : Bool) (last : Int) (l : List Dl) (m i : Int) (Q : AX → St → Prop) : (xloop2 Tryz.prog {} 5 17 0 lc66 (fun _ => some (sh66e, 2)) (fun (_, _, _, _, _, _, _, l, _, i, _) => mL l i) (l0, ls, w, r, e, b, last, l, m, i, ()) Q) =
  (fork (decide (i < m)) (req (decide ((0 : Int) ≤ i ∧ i < (↑(l.length) : Int))) (fork b (req (inR IntKind.i64 (i + 1)) (Go.P8.mL l (i + 1) < Go.P8.mL l i ∧ LC2.spec Go.P8.lc66 (l0, ls, w, r, e, true, (List.getD l
 (Int.toNat i) ((0 : Int), (0 : Int), (0 : Int))).1, l, m, i + 1, ()) Q)) (fork (decide ((List.getD l (Int.toNat i) ((0 : Int), (0 : Int), (0 : Int))).1 ≥ last)) (fork (!decide ((List.getD l (Int.toNat i) ((0 : Int), (0 :
 Int), (0 : Int))).1 ≤ (36500 : Int))) (req (inR IntKind.i64 (i + 1)) (Go.P8.mL l (i + 1) < Go.P8.mL l i ∧ LC2.spec Go.P8.lc66 (l0, ls, w, r, e, true, (List.getD l (Int.toNat i) ((0 : Int), (0 : Int), (0 : Int))).1, l, m,
 i + 1, ()) Q)) (fork (decide ((List.getD l (Int.toNat i) ((0 : Int), (0 : Int), (0 : Int))).2.1 ≥ (0 : Int))) (fork (!decide ((List.getD l (Int.toNat i) ((0 : Int), (0 : Int), (0 : Int))).2.1 ≤ (23 : Int))) (req (inR
 IntKind.i64 (i + 1)) (Go.P8.mL l (i + 1) < Go.P8.mL l i ∧ LC2.spec Go.P8.lc66 (l0, ls, w, r, e, true, (List.getD l (Int.toNat i) ((0 : Int), (0 : Int), (0 : Int))).1, l, m, i + 1, ()) Q)) (fork (decide ((List.getD l
 (Int.toNat i) ((0 : Int), (0 : Int), (0 : Int))).2.2 ≥ (1 : Int))) (req (inR IntKind.i64 (i + 1)) (Go.P8.mL l (i + 1) < Go.P8.mL l i ∧ LC2.spec Go.P8.lc66 (l0, ls, w, r, e, !decide ((List.getD l (Int.toNat i) ((0 : Int),
 (0 : Int), (0 : Int))).2.2 ≤ (1073741824 : Int)), (List.getD l (Int.toNat i) ((0 : Int), (0 : Int), (0 : Int))).1, l, m, i + 1, ()) Q)) (req (inR IntKind.i64 (i + 1)) (Go.P8.mL l (i + 1) < Go.P8.mL l i ∧ LC2.spec
 Go.P8.lc66 (l0, ls, w, r, e, !false, (List.getD l (Int.toNat i) ((0 : Int), (0 : Int), (0 : Int))).1, l, m, i + 1, ()) Q)))) (req (inR IntKind.i64 (i + 1)) (Go.P8.mL l (i + 1) < Go.P8.mL l i ∧ LC2.spec Go.P8.lc66 (l0, ls,
 w, r, e, true, (List.getD l (Int.toNat i) ((0 : Int), (0 : Int), (0 : Int))).1, l, m, i + 1, ()) Q)))) (req (inR IntKind.i64 (i + 1)) (Go.P8.mL l (i + 1) < Go.P8.mL l i ∧ LC2.spec Go.P8.lc66 (l0, ls, w, r, e, true,
 (List.getD l (Int.toNat i) ((0 : Int), (0 : Int), (0 : Int))).1, l, m, i + 1, ()) Q))))) (Q (AX.exit 0) (stS 2 Go.P8.sh66e (l0, ls, w, r, e, b, ())))) := by kernel_rfl
abbrev fcWatch : FC := ⟨[.v LD, .v L2, .v TW], [TWt, E], fun x K => (x.1.length ≤ big ∧ x.2.1.length ≤ big) ∧ (watOk x.1 x.2.1 x.2.2.1 = true → ∀ h : Ar, arL 23 h = headOf x.2.1 → HeadsOk x.2.1 (headOf x.2.1) → K ((x.2.2.1, x.1, h), 0, ())) ∧ (watOk x.1 x.2.1 x.2.2.1 = false → K (Ty.dflt TWt, 83, ()))⟩
theorem v66F (l : List Dl) (ls : List Lk) (w : Wt) (K : dens [TWt, E] → Prop) : (xfn1 Tryz.prog { f := [(12, fc64), (13, fc65h)], l2 := [(17, 0, lc66)] } 5 17 fcWatch (l, ls, w, ()) K) =
  (ls.length ≤ 9223372036854775807 ∧ ∀ (b : Bool), b = Go.P8.linkedOk ls → fork (!b) ((l.length ≤ 9223372036854775807 ∧ (↑(l.length) : Int) = (↑(l.length) : SV.den (SV.slot 21 (SV.v Go.P8.I))) ∧ (0 : SV.den (SV.slot 22
 (SV.v Go.P8.I))) ≤ (0 : Int) ∧ (0 : Int) ≤ (↑(l.length) : SV.den (SV.slot 22 (SV.v Go.P8.I)))) ∧ ∀ (b1 : Bool), b1 = (true || !Go.P8.dlsOk (List.drop 0 l) (0 : Int)) → fork b1 (K ((((0 : Int), (0 : Int), (0 : Int), (0 :
 Int)), [], (0 : Int), (0 : Int), (0 : Int), (0 : Int), (0 : Int), (0 : Int), (0 : Int), (0 : Int), (0 : Int), (0 : Int), (0 : Int), (0 : Int), (0 : Int), (0 : Int), (0 : Int), (0 : Int), (0 : Int), (0 : Int), (0 : Int),
 (0 : Int), (0 : Int), (0 : Int), (0 : Int), (0 : Int)), (83 : Int), ())) (fork (decide (w.1 ≥ (1 : Int))) (fork (!decide (w.1 ≤ (366 : Int))) (K ((((0 : Int), (0 : Int), (0 : Int), (0 : Int)), [], (0 : Int), (0 : Int), (0
 : Int), (0 : Int), (0 : Int), (0 : Int), (0 : Int), (0 : Int), (0 : Int), (0 : Int), (0 : Int), (0 : Int), (0 : Int), (0 : Int), (0 : Int), (0 : Int), (0 : Int), (0 : Int), (0 : Int), (0 : Int), (0 : Int), (0 : Int), (0 :
 Int), (0 : Int)), (83 : Int), ())) (fork (decide (w.2.1 ≥ (1 : Int))) (fork (!decide (w.2.1 ≤ (1073741824 : Int))) (K ((((0 : Int), (0 : Int), (0 : Int), (0 : Int)), [], (0 : Int), (0 : Int), (0 : Int), (0 : Int), (0 :
 Int), (0 : Int), (0 : Int), (0 : Int), (0 : Int), (0 : Int), (0 : Int), (0 : Int), (0 : Int), (0 : Int), (0 : Int), (0 : Int), (0 : Int), (0 : Int), (0 : Int), (0 : Int), (0 : Int), (0 : Int), (0 : Int), (0 : Int)), (83 :
 Int), ())) (fork (decide (w.2.2.1 ≥ (1 : Int))) (fork (!decide (w.2.2.1 ≤ w.2.1)) (K ((((0 : Int), (0 : Int), (0 : Int), (0 : Int)), [], (0 : Int), (0 : Int), (0 : Int), (0 : Int), (0 : Int), (0 : Int), (0 : Int), (0 :
 Int), (0 : Int), (0 : Int), (0 : Int), (0 : Int), (0 : Int), (0 : Int), (0 : Int), (0 : Int), (0 : Int), (0 : Int), (0 : Int), (0 : Int), (0 : Int), (0 : Int), (0 : Int), (0 : Int)), (83 : Int), ())) (fork (decide
 (w.2.2.2 ≥ (1 : Int))) (fork (!decide (w.2.2.2 ≤ (64 : Int))) (K ((((0 : Int), (0 : Int), (0 : Int), (0 : Int)), [], (0 : Int), (0 : Int), (0 : Int), (0 : Int), (0 : Int), (0 : Int), (0 : Int), (0 : Int), (0 : Int), (0 :
 Int), (0 : Int), (0 : Int), (0 : Int), (0 : Int), (0 : Int), (0 : Int), (0 : Int), (0 : Int), (0 : Int), (0 : Int), (0 : Int), (0 : Int), (0 : Int), (0 : Int)), (83 : Int), ())) (Go.P8.lksOk ls ∧ ∀ (h : Go.P8.Ar),
 Go.P8.arL 23 h = Go.P8.headOf ls → Go.P8.HeadsOk ls (Go.P8.headOf ls) → AV.agg [AV.int IntKind.i64 (w.1), AV.int IntKind.i64 (w.2.1), AV.int IntKind.i64 (w.2.2.1), AV.int IntKind.i64 (w.2.2.2)] = AV.agg [AV.int
 IntKind.i64 (w.1), AV.int IntKind.i64 (w.2.1), AV.int IntKind.i64 (w.2.2.1), AV.int IntKind.i64 (w.2.2.2)] ∧ K ((w, l, h), (0 : Int), ()))) (K ((((0 : Int), (0 : Int), (0 : Int), (0 : Int)), [], (0 : Int), (0 : Int), (0 :
 Int), (0 : Int), (0 : Int), (0 : Int), (0 : Int), (0 : Int), (0 : Int), (0 : Int), (0 : Int), (0 : Int), (0 : Int), (0 : Int), (0 : Int), (0 : Int), (0 : Int), (0 : Int), (0 : Int), (0 : Int), (0 : Int), (0 : Int), (0 :
 Int), (0 : Int)), (83 : Int), ())))) (K ((((0 : Int), (0 : Int), (0 : Int), (0 : Int)), [], (0 : Int), (0 : Int), (0 : Int), (0 : Int), (0 : Int), (0 : Int), (0 : Int), (0 : Int), (0 : Int), (0 : Int), (0 : Int), (0 :
 Int), (0 : Int), (0 : Int), (0 : Int), (0 : Int), (0 : Int), (0 : Int), (0 : Int), (0 : Int), (0 : Int), (0 : Int), (0 : Int), (0 : Int)), (83 : Int), ())))) (K ((((0 : Int), (0 : Int), (0 : Int), (0 : Int)), [], (0 :
 Int), (0 : Int), (0 : Int), (0 : Int), (0 : Int), (0 : Int), (0 : Int), (0 : Int), (0 : Int), (0 : Int), (0 : Int), (0 : Int), (0 : Int), (0 : Int), (0 : Int), (0 : Int), (0 : Int), (0 : Int), (0 : Int), (0 : Int), (0 :
 Int), (0 : Int), (0 : Int), (0 : Int)), (83 : Int), ())))) (K ((((0 : Int), (0 : Int), (0 : Int), (0 : Int)), [], (0 : Int), (0 : Int), (0 : Int), (0 : Int), (0 : Int), (0 : Int), (0 : Int), (0 : Int), (0 : Int), (0 :
 Int), (0 : Int), (0 : Int), (0 : Int), (0 : Int), (0 : Int), (0 : Int), (0 : Int), (0 : Int), (0 : Int), (0 : Int), (0 : Int), (0 : Int), (0 : Int), (0 : Int)), (83 : Int), ())))) ((l.length ≤ 9223372036854775807 ∧
 (↑(l.length) : Int) = (↑(l.length) : SV.den (SV.slot 21 (SV.v Go.P8.I))) ∧ (0 : SV.den (SV.slot 22 (SV.v Go.P8.I))) ≤ (0 : Int) ∧ (0 : Int) ≤ (↑(l.length) : SV.den (SV.slot 22 (SV.v Go.P8.I)))) ∧ ∀ (b1 : Bool), b1 =
 (decide ((↑(l.length) : Int) > (64 : Int)) || !Go.P8.dlsOk (List.drop 0 l) (0 : Int)) → fork b1 (K ((((0 : Int), (0 : Int), (0 : Int), (0 : Int)), [], (0 : Int), (0 : Int), (0 : Int), (0 : Int), (0 : Int), (0 : Int), (0 :
 Int), (0 : Int), (0 : Int), (0 : Int), (0 : Int), (0 : Int), (0 : Int), (0 : Int), (0 : Int), (0 : Int), (0 : Int), (0 : Int), (0 : Int), (0 : Int), (0 : Int), (0 : Int), (0 : Int), (0 : Int)), (83 : Int), ())) (fork
 (decide (w.1 ≥ (1 : Int))) (fork (!decide (w.1 ≤ (366 : Int))) (K ((((0 : Int), (0 : Int), (0 : Int), (0 : Int)), [], (0 : Int), (0 : Int), (0 : Int), (0 : Int), (0 : Int), (0 : Int), (0 : Int), (0 : Int), (0 : Int), (0 :
 Int), (0 : Int), (0 : Int), (0 : Int), (0 : Int), (0 : Int), (0 : Int), (0 : Int), (0 : Int), (0 : Int), (0 : Int), (0 : Int), (0 : Int), (0 : Int), (0 : Int)), (83 : Int), ())) (fork (decide (w.2.1 ≥ (1 : Int))) (fork
 (!decide (w.2.1 ≤ (1073741824 : Int))) (K ((((0 : Int), (0 : Int), (0 : Int), (0 : Int)), [], (0 : Int), (0 : Int), (0 : Int), (0 : Int), (0 : Int), (0 : Int), (0 : Int), (0 : Int), (0 : Int), (0 : Int), (0 : Int), (0 :
 Int), (0 : Int), (0 : Int), (0 : Int), (0 : Int), (0 : Int), (0 : Int), (0 : Int), (0 : Int), (0 : Int), (0 : Int), (0 : Int), (0 : Int)), (83 : Int), ())) (fork (decide (w.2.2.1 ≥ (1 : Int))) (fork (!decide (w.2.2.1 ≤
 w.2.1)) (K ((((0 : Int), (0 : Int), (0 : Int), (0 : Int)), [], (0 : Int), (0 : Int), (0 : Int), (0 : Int), (0 : Int), (0 : Int), (0 : Int), (0 : Int), (0 : Int), (0 : Int), (0 : Int), (0 : Int), (0 : Int), (0 : Int), (0 :
 Int), (0 : Int), (0 : Int), (0 : Int), (0 : Int), (0 : Int), (0 : Int), (0 : Int), (0 : Int), (0 : Int)), (83 : Int), ())) (fork (decide (w.2.2.2 ≥ (1 : Int))) (fork (!decide (w.2.2.2 ≤ (64 : Int))) (K ((((0 : Int), (0 :
 Int), (0 : Int), (0 : Int)), [], (0 : Int), (0 : Int), (0 : Int), (0 : Int), (0 : Int), (0 : Int), (0 : Int), (0 : Int), (0 : Int), (0 : Int), (0 : Int), (0 : Int), (0 : Int), (0 : Int), (0 : Int), (0 : Int), (0 : Int),
 (0 : Int), (0 : Int), (0 : Int), (0 : Int), (0 : Int), (0 : Int), (0 : Int)), (83 : Int), ())) (Go.P8.lksOk ls ∧ ∀ (h : Go.P8.Ar), Go.P8.arL 23 h = Go.P8.headOf ls → Go.P8.HeadsOk ls (Go.P8.headOf ls) → AV.agg [AV.int
 IntKind.i64 (w.1), AV.int IntKind.i64 (w.2.1), AV.int IntKind.i64 (w.2.2.1), AV.int IntKind.i64 (w.2.2.2)] = AV.agg [AV.int IntKind.i64 (w.1), AV.int IntKind.i64 (w.2.1), AV.int IntKind.i64 (w.2.2.1), AV.int IntKind.i64
 (w.2.2.2)] ∧ K ((w, l, h), (0 : Int), ()))) (K ((((0 : Int), (0 : Int), (0 : Int), (0 : Int)), [], (0 : Int), (0 : Int), (0 : Int), (0 : Int), (0 : Int), (0 : Int), (0 : Int), (0 : Int), (0 : Int), (0 : Int), (0 : Int),
 (0 : Int), (0 : Int), (0 : Int), (0 : Int), (0 : Int), (0 : Int), (0 : Int), (0 : Int), (0 : Int), (0 : Int), (0 : Int), (0 : Int), (0 : Int)), (83 : Int), ())))) (K ((((0 : Int), (0 : Int), (0 : Int), (0 : Int)), [], (0
 : Int), (0 : Int), (0 : Int), (0 : Int), (0 : Int), (0 : Int), (0 : Int), (0 : Int), (0 : Int), (0 : Int), (0 : Int), (0 : Int), (0 : Int), (0 : Int), (0 : Int), (0 : Int), (0 : Int), (0 : Int), (0 : Int), (0 : Int), (0 :
 Int), (0 : Int), (0 : Int), (0 : Int)), (83 : Int), ())))) (K ((((0 : Int), (0 : Int), (0 : Int), (0 : Int)), [], (0 : Int), (0 : Int), (0 : Int), (0 : Int), (0 : Int), (0 : Int), (0 : Int), (0 : Int), (0 : Int), (0 :
 Int), (0 : Int), (0 : Int), (0 : Int), (0 : Int), (0 : Int), (0 : Int), (0 : Int), (0 : Int), (0 : Int), (0 : Int), (0 : Int), (0 : Int), (0 : Int), (0 : Int)), (83 : Int), ())))) (K ((((0 : Int), (0 : Int), (0 : Int), (0
 : Int)), [], (0 : Int), (0 : Int), (0 : Int), (0 : Int), (0 : Int), (0 : Int), (0 : Int), (0 : Int), (0 : Int), (0 : Int), (0 : Int), (0 : Int), (0 : Int), (0 : Int), (0 : Int), (0 : Int), (0 : Int), (0 : Int), (0 : Int),
 (0 : Int), (0 : Int), (0 : Int), (0 : Int), (0 : Int)), (83 : Int), ()))))) := by kernel_rfl
/-! window, sums, reported -/
def dayOk (d : Dl) : Prop := 0 ≤ d.1 ∧ d.1 ≤ 36500 ∧ 0 ≤ d.2.1 ∧ d.2.1 ≤ 23 ∧ 1 ≤ d.2.2 ∧ d.2.2 ≤ 1073741824
def watP (w : Wat) : Prop := wtOk w.1 = true ∧ w.2.1.length ≤ 64 ∧ ∀ d ∈ w.2.1, dayOk d
abbrev FWy (i j : Nat) : SV := S [(2, .box 1 (.v TWt)), (4, .box 2 (.own i I)), (5, .box 3 (.own j I)), (6, .box 4 (.v I))]
abbrev Wy := (Wat × List Int × List Int × Int × Unit) × Rng
abbrev mkY (rg : Rng) (w : Wat) (a s : List Int) (n : Int) : Wy := ((w, a, s, n, ()), rg)
abbrev sh111 : SV := S [(0, .yf 0 (FWy 9 10)), (1, .box 7 (.v TWt)), (2, .box 8 (.v I)), (10, .v LD), (11, .v I), (12, .v I)]
abbrev sh111e : SV := S [(0, .yf 0 (FWy 9 10)), (1, .box 7 (.v TWt)), (2, .box 8 (.v I))]
abbrev lc111 : LC2 := ⟨9, sh111, 11, fun (y, w, k, l, m, i, _) Q => (watP w ∧ y.2 = rngOf Tryz.prog 21 0 ∧ y.1.1 = w ∧ (0 ≤ k ∧ k < w.2.1.length) ∧ l = w.2.1.take (k + 1).toNat ∧ m = k + 1 ∧ (0 ≤ i ∧ i ≤ m) ∧ y.1.2.1.length ≤ i ∧ y.1.2.2.1.length ≤ i ∧ 0 ≤ y.1.2.2.2.1 ∧ y.1.2.2.2.1 ≤ i * 1073741824) ∧
  ∀ (a s : List Int) (n : Int), a = y.1.2.1 ++ winF w.1 w.2.1 (arL 23 w.2.2) k (m - i).toNat i → s = y.1.2.2.1 ++ (winF w.1 w.2.1 (arL 23 w.2.2) k (m - i).toNat i).filter (smallB w.1 w.2.1) → n = y.1.2.2.2.1 + sumOf w.2.1 (winF w.1 w.2.1 (arL 23 w.2.2) k (m - i).toNat i) → Q (.exit 0) (stS 11 sh111e (mkY (rngOf Tryz.prog 21 0) w a s n, w, k, ()))⟩
theorem v111L (tw : Wt) (l : List Dl) (h : Ar) (a s : List Int) (n k : Int) (l1 : List Dl) (m i : Int) (Q : AX → St → Prop) : (xloop2 Tryz.prog { nm := true } 5 65 0 lc111 (fun _ => some (sh111e, 11)) (fun (_, _, _, _, m, i, _) => (m - i).toNat) ((((tw, l, h), a, s, n, ()), rngOf Tryz.prog 21 0), (tw, l, h), k, l1, m, i, ()) Q) =
  (fork (decide (i < m)) (req (decide ((0 : Int) ≤ i ∧ i < (↑(l1.length) : Int))) (req (decide ((0 : Int) ≤ (List.getD l1 (Int.toNat i) ((0 : Int), (0 : Int), (0 : Int))).2.1 ∧ (List.getD l1 (Int.toNat i) ((0 : Int), (0 :
 Int), (0 : Int))).2.1 < (24 : Int))) (req (selOk IntKind.i64 (Ty.enc Go.P8.TWt (tw, l, h)) (5 + Int.toNat ((List.getD l1 (Int.toNat i) ((0 : Int), (0 : Int), (0 : Int))).2.1))) (req (decide ((0 : Int) ≤ k ∧ k <
 (↑(l.length) : Int))) (req (decide ((0 : Int) ≤ (List.getD l (Int.toNat k) ((0 : Int), (0 : Int), (0 : Int))).2.1 ∧ (List.getD l (Int.toNat k) ((0 : Int), (0 : Int), (0 : Int))).2.1 < (24 : Int))) (req (selOk IntKind.i64
 (Ty.enc Go.P8.TWt (tw, l, h)) (5 + Int.toNat ((List.getD l (Int.toNat k) ((0 : Int), (0 : Int), (0 : Int))).2.1))) (fork (selI (Ty.enc Go.P8.TWt (tw, l, h)) (5 + Int.toNat ((List.getD l1 (Int.toNat i) ((0 : Int), (0 :
 Int), (0 : Int))).2.1)) == selI (Ty.enc Go.P8.TWt (tw, l, h)) (5 + Int.toNat ((List.getD l (Int.toNat k) ((0 : Int), (0 : Int), (0 : Int))).2.1))) (req (decide ((0 : Int) ≤ k ∧ k < (↑(l.length) : Int))) (req (inR
 IntKind.i64 ((List.getD l (Int.toNat k) ((0 : Int), (0 : Int), (0 : Int))).1 - tw.1)) (fork (decide ((List.getD l1 (Int.toNat i) ((0 : Int), (0 : Int), (0 : Int))).1 > (List.getD l (Int.toNat k) ((0 : Int), (0 : Int), (0
 : Int))).1 - tw.1)) (req (decide (0 + a.length ≤ a.length)) (req (fitsN (a.length + 1) 8) (∀ (ys : List (Ty.den (Ty.i IntKind.i64))), ys = seg 0 (a.length) a ++ [i] → req (inR IntKind.i64 (n + (List.getD l1 (Int.toNat i)
 ((0 : Int), (0 : Int), (0 : Int))).2.2)) (req (inR IntKind.i64 (tw.2.1 - 1)) (fork (decide ((List.getD l1 (Int.toNat i) ((0 : Int), (0 : Int), (0 : Int))).2.2 ≥ tw.2.2.1)) (fork (decide ((List.getD l1 (Int.toNat i) ((0 :
 Int), (0 : Int), (0 : Int))).2.2 ≤ tw.2.1 - 1)) (req (decide (0 + s.length ≤ s.length)) (req (fitsN (s.length + 1) 8) (∀ (ys_1 : List (Ty.den (Ty.i IntKind.i64))), ys_1 = seg 0 (s.length) s ++ [i] → req (inR IntKind.i64
 (i + 1)) (req (decide (0 + (a.length + 1) ≤ ys.length)) (req (decide (0 + (s.length + 1) ≤ ys_1.length)) (Int.toNat (m - (i + 1)) < Int.toNat (m - i) ∧ LC2.spec Go.P8.lc111 ((((tw, l, h), seg 0 (a.length + 1) ys, seg 0
 (s.length + 1) ys_1, n + (List.getD l1 (Int.toNat i) ((0 : Int), (0 : Int), (0 : Int))).2.2, ()), rngOf Go.Proofs.Tryz.prog 21 0), (tw, l, h), k, l1, m, i + 1, ()) Q)))))) (req (inR IntKind.i64 (i + 1)) (req (decide (0 +
 (a.length + 1) ≤ ys.length)) (req (decide (0 + s.length ≤ s.length)) (Int.toNat (m - (i + 1)) < Int.toNat (m - i) ∧ LC2.spec Go.P8.lc111 ((((tw, l, h), seg 0 (a.length + 1) ys, seg 0 (s.length) s, n + (List.getD l1
 (Int.toNat i) ((0 : Int), (0 : Int), (0 : Int))).2.2, ()), rngOf Go.Proofs.Tryz.prog 21 0), (tw, l, h), k, l1, m, i + 1, ()) Q))))) (req (inR IntKind.i64 (i + 1)) (req (decide (0 + (a.length + 1) ≤ ys.length)) (req
 (decide (0 + s.length ≤ s.length)) (Int.toNat (m - (i + 1)) < Int.toNat (m - i) ∧ LC2.spec Go.P8.lc111 ((((tw, l, h), seg 0 (a.length + 1) ys, seg 0 (s.length) s, n + (List.getD l1 (Int.toNat i) ((0 : Int), (0 : Int), (0
 : Int))).2.2, ()), rngOf Go.Proofs.Tryz.prog 21 0), (tw, l, h), k, l1, m, i + 1, ()) Q))))))))) (req (inR IntKind.i64 (i + 1)) (req (decide (0 + a.length ≤ a.length)) (req (decide (0 + s.length ≤ s.length)) (Int.toNat (m
 - (i + 1)) < Int.toNat (m - i) ∧ LC2.spec Go.P8.lc111 ((((tw, l, h), seg 0 (a.length) a, seg 0 (s.length) s, n, ()), rngOf Go.Proofs.Tryz.prog 21 0), (tw, l, h), k, l1, m, i + 1, ()) Q))))))) (req (inR IntKind.i64 (i +
 1)) (req (decide (0 + a.length ≤ a.length)) (req (decide (0 + s.length ≤ s.length)) (Int.toNat (m - (i + 1)) < Int.toNat (m - i) ∧ LC2.spec Go.P8.lc111 ((((tw, l, h), seg 0 (a.length) a, seg 0 (s.length) s, n, ()), rngOf
 Go.Proofs.Tryz.prog 21 0), (tw, l, h), k, l1, m, i + 1, ()) Q))))))))))) (req (decide (0 + a.length ≤ a.length)) (req (decide (0 + s.length ≤ s.length)) (Q (AX.exit 0) (stS 11 Go.P8.sh111e ((((tw, l, h), seg 0 (a.length)
 a, seg 0 (s.length) s, n, ()), rngOf Go.Proofs.Tryz.prog 21 0), (tw, l, h), k, ())))))) := by kernel_rfl
abbrev pre111 : SV := A [.yf 0 (FWy 5 6), .box 7 (.v TWt), .box 8 (.v I)]
abbrev post111 : SV := A [.yf 0 (FWy 9 10), .any, .any]
abbrev fc111 : FC2 := ⟨pre111, 9, post111, 11, fun (y, w, k, _) K => (watP w ∧ y.2 = rngOf Tryz.prog 21 0 ∧ y.1.1 = w ∧ (0 ≤ k ∧ k < w.2.1.length) ∧ y.1.2.1.length = 0 ∧ y.1.2.2.1.length = 0 ∧ y.1.2.2.2.1 = 0) ∧
  ∀ (a s : List Int) (n : Int), a = allI w.1 w.2.1 (arL 23 w.2.2) k → s = smallI w.1 w.2.1 (arL 23 w.2.2) k → n = sumOf w.2.1 (allI w.1 w.2.1 (arL 23 w.2.2) k) → K (mkY (rngOf Tryz.prog 21 0) w a s n, (), (), ())⟩
theorem v111F (tw : Wt) (l : List Dl) (h : Ar) (a s : List Int) (n k : Int) (K : post111.den → Prop) : (xfn2 Tryz.prog { l2 := [(65, 0, lc111)] } 5 65 fc111 ((((tw, l, h), a, s, n, ()), rngOf Tryz.prog 21 0), (tw, l, h), k, ()) K) =
  (req (inR IntKind.i64 (k + 1)) (req (decide ((0 : Int) ≤ (0 : Int) ∧ (0 : Int) ≤ k + 1 ∧ k + 1 ≤ (↑(l.length) : Int))) (req (decide (0 + a.length ≤ a.length)) (req (decide (0 + s.length ≤ s.length)) ((Go.P8.watP (tw, l,
 h) ∧ rngOf Go.Proofs.Tryz.prog 21 0 = rngOf Go.Proofs.Tryz.prog 21 0 ∧ (tw, l, h) = (tw, l, h) ∧ ((0 : SV.den (SV.slot 2 (SV.box 8 (SV.v Go.P8.I)))) ≤ k ∧ k < (↑(l.length) : SV.den (SV.slot 2 (SV.box 8 (SV.v Go.P8.I)))))
 ∧ List.drop 0 (List.take (Int.toNat (k + 1)) l) = List.take (Int.toNat (k + (1 : SV.den (SV.slot 2 (SV.box 8 (SV.v Go.P8.I)))))) l ∧ (↑(List.length (List.drop 0 (List.take (Int.toNat (k + 1)) l))) : Int) = k + (1 : SV.den
 (SV.slot 11 (SV.v Go.P8.I))) ∧ ((0 : SV.den (SV.slot 12 (SV.v Go.P8.I))) ≤ (0 : Int) ∧ (0 : Int) ≤ (↑(List.length (List.drop 0 (List.take (Int.toNat (k + 1)) l))) : Int)) ∧ (↑(List.length (seg 0 (a.length) a)) : SV.den
 (SV.slot 12 (SV.v Go.P8.I))) ≤ (0 : Int) ∧ (↑(List.length (seg 0 (s.length) s)) : SV.den (SV.slot 12 (SV.v Go.P8.I))) ≤ (0 : Int) ∧ (0 : SV.den (SV.slot 6 (SV.box 4 (SV.v Go.P8.I)))) ≤ n ∧ n ≤ (0 : Int) * (1073741824 :
 SV.den (SV.slot 6 (SV.box 4 (SV.v Go.P8.I))))) ∧ ∀ (a_1 s_1 : List Int) (n_1 : Int), a_1 = seg 0 (a.length) a ++ Go.P8.winF tw l (Go.P8.arL 23 h) k (Int.toNat ((↑(List.length (List.drop 0 (List.take (Int.toNat (k + 1))
 l))) : Int) - 0)) (0 : Int) → s_1 = seg 0 (s.length) s ++ List.filter (Go.P8.smallB tw l) (Go.P8.winF tw l (Go.P8.arL 23 h) k (Int.toNat ((↑(List.length (List.drop 0 (List.take (Int.toNat (k + 1)) l))) : Int) - 0)) (0 :
 Int)) → n_1 = n + Go.P8.sumOf l (Go.P8.winF tw l (Go.P8.arL 23 h) k (Int.toNat ((↑(List.length (List.drop 0 (List.take (Int.toNat (k + 1)) l))) : Int) - 0)) (0 : Int)) → req (decide (0 + List.length ((((tw, l, h), a_1,
 s_1, n_1, ()), rngOf Go.Proofs.Tryz.prog 21 0).1.2.1) ≤ List.length ((((tw, l, h), a_1, s_1, n_1, ()), rngOf Go.Proofs.Tryz.prog 21 0).1.2.1))) (req (decide (0 + List.length ((((tw, l, h), a_1, s_1, n_1, ()), rngOf
 Go.Proofs.Tryz.prog 21 0).1.2.2.1) ≤ List.length ((((tw, l, h), a_1, s_1, n_1, ()), rngOf Go.Proofs.Tryz.prog 21 0).1.2.2.1))) (K ((((((tw, l, h), a_1, s_1, n_1, ()), rngOf Go.Proofs.Tryz.prog 21 0).1.1, seg 0
 (List.length ((((tw, l, h), a_1, s_1, n_1, ()), rngOf Go.Proofs.Tryz.prog 21 0).1.2.1)) ((((tw, l, h), a_1, s_1, n_1, ()), rngOf Go.Proofs.Tryz.prog 21 0).1.2.1), seg 0 (List.length ((((tw, l, h), a_1, s_1, n_1, ()),
 rngOf Go.Proofs.Tryz.prog 21 0).1.2.2.1)) ((((tw, l, h), a_1, s_1, n_1, ()), rngOf Go.Proofs.Tryz.prog 21 0).1.2.2.1), (((tw, l, h), a_1, s_1, n_1, ()), rngOf Go.Proofs.Tryz.prog 21 0).1.2.2.2.1, ()), rngOf
 Go.Proofs.Tryz.prog 21 0), (), (), ())))))))) := by kernel_rfl
abbrev fcSums : FC := ⟨[.v TWt, .v I], [L, L, I], fun x K => (watP x.1 ∧ 0 ≤ x.2.1 ∧ x.2.1 < x.1.2.1.length) ∧
  ∀ (a s : List Int) (n : Int), a = allI x.1.1 x.1.2.1 (arL 23 x.1.2.2) x.2.1 → s = smallI x.1.1 x.1.2.1 (arL 23 x.1.2.2) x.2.1 → n = sumOf x.1.2.1 (allI x.1.1 x.1.2.1 (arL 23 x.1.2.2) x.2.1) → K (a, s, n, ())⟩
theorem v70F (tw : Wt) (l : List Dl) (h : Ar) (k : Int) (K : dens [L, L, I] → Prop) : (xfn1 Tryz.prog { f2 := [(65, fc111)] } 5 21 fcSums ((tw, l, h), k, ()) K) =
  ((Go.P8.watP (tw, l, h) ∧ rngOf Go.Proofs.Tryz.prog 21 0 = rngOf Go.Proofs.Tryz.prog 21 0 ∧ (tw, l, h) = (tw, l, h) ∧ ((0 : SV.den (SV.box 8 (SV.v Go.P8.I))) ≤ k ∧ k < (↑(l.length) : SV.den (SV.box 8 (SV.v Go.P8.I)))) ∧ 0
 = 0 ∧ 0 = 0 ∧ (0 : Int) = (0 : SV.den (SV.slot 6 (SV.box 4 (SV.v Go.P8.I))))) ∧ ∀ (a s : List Int) (n : Int), a = Go.P8.allI tw l (Go.P8.arL 23 h) k → s = Go.P8.smallI tw l (Go.P8.arL 23 h) k → n = Go.P8.sumOf l
 (Go.P8.allI tw l (Go.P8.arL 23 h) k) → AV.int IntKind.i64 ((((tw, l, h), a, s, n, ()), rngOf Go.Proofs.Tryz.prog 21 0).1.2.2.2.1) = AV.int IntKind.i64 ((((tw, l, h), a, s, n, ()), rngOf Go.Proofs.Tryz.prog 21
 0).1.2.2.2.1) ∧ AV.sl 18 1 0 (List.length ((((tw, l, h), a, s, n, ()), rngOf Go.Proofs.Tryz.prog 21 0).1.2.2.1)) none = AV.sl 18 1 0 (List.length ((((tw, l, h), a, s, n, ()), rngOf Go.Proofs.Tryz.prog 21 0).1.2.2.1)) none
 ∧ AV.int IntKind.i64 ((((tw, l, h), a, s, n, ()), rngOf Go.Proofs.Tryz.prog 21 0).1.2.2.2.1) = AV.int IntKind.i64 ((((tw, l, h), a, s, n, ()), rngOf Go.Proofs.Tryz.prog 21 0).1.2.2.2.1) ∧ req (decide (0 + List.length
 ((((tw, l, h), a, s, n, ()), rngOf Go.Proofs.Tryz.prog 21 0).1.2.1) ≤ List.length ((((tw, l, h), a, s, n, ()), rngOf Go.Proofs.Tryz.prog 21 0).1.2.1))) (req (decide (0 + List.length ((((tw, l, h), a, s, n, ()), rngOf
 Go.Proofs.Tryz.prog 21 0).1.2.2.1) ≤ List.length ((((tw, l, h), a, s, n, ()), rngOf Go.Proofs.Tryz.prog 21 0).1.2.2.1))) (K (seg 0 (List.length ((((tw, l, h), a, s, n, ()), rngOf Go.Proofs.Tryz.prog 21 0).1.2.1)) ((((tw,
 l, h), a, s, n, ()), rngOf Go.Proofs.Tryz.prog 21 0).1.2.1), seg 0 (List.length ((((tw, l, h), a, s, n, ()), rngOf Go.Proofs.Tryz.prog 21 0).1.2.2.1)) ((((tw, l, h), a, s, n, ()), rngOf Go.Proofs.Tryz.prog 21 0).1.2.2.1),
 (((tw, l, h), a, s, n, ()), rngOf Go.Proofs.Tryz.prog 21 0).1.2.2.2.1, ())))) := by kernel_rfl
abbrev fcRep : FC := ⟨[.v TWt, .v I], [.b], fun x K => (watP x.1 ∧ 0 ≤ x.2.1 ∧ x.2.1 < x.1.2.1.length) ∧ ∀ b : Bool, b = repB x.1.1 x.1.2.1 (arL 23 x.1.2.2) x.2.1 → K (b, ())⟩
theorem v69F (tw : Wt) (l : List Dl) (h : Ar) (k : Int) (K : dens [.b] → Prop) : (xfn1 Tryz.prog { f := [(21, fcSums)] } 5 20 fcRep ((tw, l, h), k, ()) K) =
  ((Go.P8.watP (tw, l, h) ∧ (0 : AT.den (AT.v Go.P8.I)) ≤ k ∧ k < (↑(l.length) : AT.den (AT.v Go.P8.I))) ∧ ∀ (a s : List Int) (n : Int), a = Go.P8.allI tw l (Go.P8.arL 23 h) k → s = Go.P8.smallI tw l (Go.P8.arL 23 h) k → n
 = Go.P8.sumOf l (Go.P8.allI tw l (Go.P8.arL 23 h) k) → fork (decide (n ≥ tw.2.1)) (K (true, ())) (K (decide ((↑(s.length) : Int) ≥ tw.2.2.2), ()))) := by kernel_rfl
end Go.P8
