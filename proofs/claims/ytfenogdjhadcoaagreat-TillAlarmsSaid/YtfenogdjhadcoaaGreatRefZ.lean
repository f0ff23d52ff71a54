/- The reference's watches: states and what is to be shown, reduced. No conditions. -/
import Derived.Test.YtfenogdjhadcoaaGreatZlarmS
set_option linter.unusedSimpArgs false
set_option linter.unusedVariables false
set_option linter.constructorNameAsVariable false
set_option maxRecDepth 100000
set_option maxHeartbeats 2000000
namespace Go.P8
open Go.Lom Go.Proofs Go

abbrev fcFromZ : FC := ⟨[.v I, .v I, .v I], [.b], fun x K => ∀ b : Bool, b = decide (x.1 ≤ x.2.1 ∧ x.2.1 ≤ x.2.2.1) → K (b, ())⟩
theorem v28Z (a n b : Int) (K : dens [.b] → Prop) : (xfn1 Tryz.prog {} 5 28 fcFromZ (a, n, b, ()) K) =
  (fork (decide (a ≤ n)) (K (decide (n ≤ b), ())) (K (false, ()))) := by kernel_rfl
/-! linking, linked, Linked -/
abbrev sh15z : SV := S [(0, .v L2), (3, .v I)]
abbrev sh15ze : SV := S [(0, .v L2)]
abbrev sh2r : SV := S [(2, .v .b)]
def ex15z : Ex2
  | .ret => some (sh2r, 0)
  | _ => some (sh15ze, 0)
abbrev lc15z : LC2 := ⟨0, sh15z, 0, fun (l, i, _) Q => (l.length ≤ big ∧ 0 ≤ i ∧ i ≤ l.length) ∧ ((l.drop i.toNat).all okLink = true → Q (.exit 0) (stS 0 sh15ze (l, ()))) ∧ ((l.drop i.toNat).all okLink = false → Q .ret (stS 0 sh2r (false, ())))⟩
theorem v15Z (l : List Lk) (i : Int) (Q : AX → St → Prop) : (xloop2 Tryz.prog { f := [(28, fcFromZ)] } 5 15 0 lc15z ex15z (fun (l, i, _) => mL l i) (l, i, ()) Q) =
  (fork (decide (i < (↑(l.length) : Int))) (req (decide ((0 : Int) ≤ i ∧ i < (↑(l.length) : Int))) (∀ (b : Bool), b = decide ((0 : Int) ≤ (List.getD l (Int.toNat i) ((0 : Int), (0 : Int))).1 ∧ (List.getD l (Int.toNat i) ((0
 : Int), (0 : Int))).1 ≤ (23 : Int)) → fork (!b) (Q AX.ret (stS 0 Go.P8.sh2r (false, ()))) (req (decide ((0 : Int) ≤ i ∧ i < (↑(l.length) : Int))) (∀ (b : Bool), b = decide ((0 : Int) ≤ (List.getD l (Int.toNat i) ((0 :
 Int), (0 : Int))).2 ∧ (List.getD l (Int.toNat i) ((0 : Int), (0 : Int))).2 ≤ (23 : Int)) → fork (!b) (Q AX.ret (stS 0 Go.P8.sh2r (false, ()))) (req (decide ((0 : Int) ≤ i ∧ i < (↑(l.length) : Int))) (req (decide ((0 :
 Int) ≤ i ∧ i < (↑(l.length) : Int))) (fork ((List.getD l (Int.toNat i) ((0 : Int), (0 : Int))).1 == (List.getD l (Int.toNat i) ((0 : Int), (0 : Int))).2) (Q AX.ret (stS 0 Go.P8.sh2r (false, ()))) (req (inR IntKind.i64 (i
 + 1)) (Go.P8.mL l (i + 1) < Go.P8.mL l i ∧ LC2.spec Go.P8.lc15z (l, i + 1, ()) Q))))))))) (Q (AX.exit 0) (stS 0 Go.P8.sh15ze (l, ())))) := by kernel_rfl
theorem v15ZF (l : List Lk) (K : dens [.b] → Prop) : (xfn1 Tryz.prog { l2 := [(15, 0, lc15z)] } 5 15 fc64 (l, ()) K) =
  ((l.length ≤ 9223372036854775807 ∧ (0 : SV.den (SV.slot 3 (SV.v Go.P8.I))) ≤ (0 : Int) ∧ (0 : Int) ≤ (↑(l.length) : SV.den (SV.slot 3 (SV.v Go.P8.I)))) ∧ (List.all (List.drop 0 l) Go.P8.okLink = true → K (decide
 ((↑(l.length) : Int) ≤ (64 : Int)), ())) ∧ (List.all (List.drop 0 l) Go.P8.okLink = false → K (false, ()))) := by kernel_rfl
abbrev sh16za : SV := S [(0, .v L2), (3, .own 0 I), (4, .v I)]
abbrev sh16zae : SV := S [(0, .v L2), (3, .own 0 I)]
abbrev lc16za : LC2 := ⟨0, sh16za, 1, fun (ls, o, i, _) Q => (0 ≤ i ∧ i ≤ 24 ∧ o.length = i ∧ ∀ k : Nat, (k : Int) < i → o.getD k 0 = k) ∧ ∀ o1 : List Int, HeadsOk [] o1 → Q (.exit 0) (stS 1 sh16zae (ls, o1, ()))⟩
theorem v16ZA (ls : List Lk) (o : List Int) (i : Int) (Q : AX → St → Prop) : (xloop2 Tryz.prog { nm := true } 5 16 0 lc16za (fun _ => some (sh16zae, 1)) (fun (_, _, i, _) => (24 - i).toNat) (ls, o, i, ()) Q) =
  (fork (decide (i < (24 : Int))) (req (decide (0 + o.length ≤ o.length)) (req (fitsN (o.length + 1) 8) (∀ (ys : List (Ty.den (Ty.i IntKind.i64))), ys = seg 0 (o.length) o ++ [i] → req (inR IntKind.i64 (i + 1)) (req (decide
 (0 + (o.length + 1) ≤ ys.length)) (Int.toNat ((24 : SV.den (SV.slot 4 (SV.v Go.P8.I))) - (i + 1)) < Int.toNat ((24 : SV.den (SV.slot 4 (SV.v Go.P8.I))) - i) ∧ LC2.spec Go.P8.lc16za (ls, seg 0 (o.length + 1) ys, i + 1, ())
 Q))))) (req (decide (0 + o.length ≤ o.length)) (Q (AX.exit 0) (stS 1 Go.P8.sh16zae (ls, seg 0 (o.length) o, ()))))) := by kernel_rfl
def joinV (a b v : Int) : Int := if v = max a b then min a b else v
abbrev sh16zc : SV := S [(0, .v L2), (3, .own 0 I), (5, .v I), (6, .v I), (7, .v I), (8, .v I)]
abbrev sh16zce : SV := S [(0, .v L2), (3, .own 0 I), (5, .v I)]
abbrev lc16zc : LC2 := ⟨0, sh16zc, 1, fun (ls, o, i, a, b, k, _) Q => (o.length = 24 ∧ 0 ≤ k ∧ k ≤ 24) ∧ ∀ o1 : List Int, o1 = o.take k.toNat ++ (o.drop k.toNat).map (joinV a b) → Q (.exit 4) (stS 1 sh16zce (ls, o1, i, ()))⟩
theorem v16ZC (ls : List Lk) (o : List Int) (i a b k : Int) (Q : AX → St → Prop) : (xloop2 Tryz.prog { nm := true } 5 16 2 lc16zc (fun _ => some (sh16zce, 1)) (fun (_, _, _, _, _, k, _) => (24 - k).toNat) (ls, o, i, a, b, k, ()) Q) =
  (fork (decide (k < (24 : Int))) (req (decide ((0 : Int) ≤ k ∧ k < (↑(o.length) : Int))) (req (decide (Int.toNat k + 0 < o.length)) (fork (List.getD o (Int.toNat k + 0) (0 : Int) == if b > a then b else a) (req (decide ((0
 : Int) ≤ k ∧ k < (↑(o.length) : Int))) (req (decide (Int.toNat k + 0 < o.length)) (∀ (ys : List (Ty.den Go.P8.I)), ys = List.set o (Int.toNat k + 0) (if b < a then b else a) → req (inR IntKind.i64 (k + 1)) (req (decide (0
 + o.length ≤ ys.length)) (Int.toNat ((24 : SV.den (SV.slot 8 (SV.v Go.P8.I))) - (k + 1)) < Int.toNat ((24 : SV.den (SV.slot 8 (SV.v Go.P8.I))) - k) ∧ LC2.spec Go.P8.lc16zc (ls, seg 0 (o.length) ys, i, a, b, k + 1, ())
 Q))))) (req (inR IntKind.i64 (k + 1)) (req (decide (0 + o.length ≤ o.length)) (Int.toNat ((24 : SV.den (SV.slot 8 (SV.v Go.P8.I))) - (k + 1)) < Int.toNat ((24 : SV.den (SV.slot 8 (SV.v Go.P8.I))) - k) ∧ LC2.spec
 Go.P8.lc16zc (ls, seg 0 (o.length) o, i, a, b, k + 1, ()) Q)))))) (req (decide (0 + o.length ≤ o.length)) (Q (AX.exit 4) (stS 1 Go.P8.sh16zce (ls, seg 0 (o.length) o, i, ()))))) := by kernel_rfl
abbrev sh16zb : SV := S [(0, .v L2), (3, .own 0 I), (5, .v I)]
abbrev sh16zbe : SV := S [(3, .own 0 I)]
abbrev lc16zb : LC2 := ⟨0, sh16zb, 1, fun (ls, o, i, _) Q => (lksOk ls ∧ 0 ≤ i ∧ i ≤ ls.length ∧ HeadsOk (ls.take i.toNat) o) ∧ ∀ o1 : List Int, HeadsOk ls o1 → Q (.exit 2) (stS 1 sh16zbe (o1, ()))⟩
theorem v16ZB (ls : List Lk) (o : List Int) (i : Int) (Q : AX → St → Prop) : (xloop2 Tryz.prog { nm := true, l2 := [(16, 2, lc16zc)] } 5 16 1 lc16zb (fun _ => some (sh16zbe, 1)) (fun (ls, _, i, _) => mL ls i) (ls, o, i, ()) Q) =
  (fork (decide (i < (↑(ls.length) : Int))) (req (decide ((0 : Int) ≤ i ∧ i < (↑(ls.length) : Int))) (req (decide ((0 : Int) ≤ (List.getD ls (Int.toNat i) ((0 : Int), (0 : Int))).1 ∧ (List.getD ls (Int.toNat i) ((0 : Int),
 (0 : Int))).1 < (↑(o.length) : Int))) (req (decide (Int.toNat ((List.getD ls (Int.toNat i) ((0 : Int), (0 : Int))).1) + 0 < o.length)) (req (decide ((0 : Int) ≤ i ∧ i < (↑(ls.length) : Int))) (req (decide ((0 : Int) ≤
 (List.getD ls (Int.toNat i) ((0 : Int), (0 : Int))).2 ∧ (List.getD ls (Int.toNat i) ((0 : Int), (0 : Int))).2 < (↑(o.length) : Int))) (req (decide (Int.toNat ((List.getD ls (Int.toNat i) ((0 : Int), (0 : Int))).2) + 0 <
 o.length)) (fork (List.getD o (Int.toNat ((List.getD ls (Int.toNat i) ((0 : Int), (0 : Int))).1) + 0) (0 : Int) == List.getD o (Int.toNat ((List.getD ls (Int.toNat i) ((0 : Int), (0 : Int))).2) + 0) (0 : Int)) (req (inR
 IntKind.i64 (i + 1)) (req (decide (0 + o.length ≤ o.length)) (Go.P8.mL ls (i + 1) < Go.P8.mL ls i ∧ LC2.spec Go.P8.lc16zb (ls, seg 0 (o.length) o, i + 1, ()) Q))) (req (decide (0 + o.length ≤ o.length)) ((List.length (seg
 0 (o.length) o) = 24 ∧ (0 : SV.den (SV.slot 8 (SV.v Go.P8.I))) ≤ (0 : Int) ∧ (0 : Int) ≤ (24 : SV.den (SV.slot 8 (SV.v Go.P8.I)))) ∧ ∀ (o1 : List Int), o1 = List.take 0 (seg 0 (o.length) o) ++ List.map (Go.P8.joinV
 (List.getD o (Int.toNat ((List.getD ls (Int.toNat i) ((0 : Int), (0 : Int))).1) + 0) (0 : Int)) (List.getD o (Int.toNat ((List.getD ls (Int.toNat i) ((0 : Int), (0 : Int))).2) + 0) (0 : Int))) (List.drop 0 (seg 0
 (o.length) o)) → req (inR IntKind.i64 (i + 1)) (req (decide (0 + o1.length ≤ o1.length)) (Go.P8.mL ls (i + 1) < Go.P8.mL ls i ∧ LC2.spec Go.P8.lc16zb (ls, seg 0 (o1.length) o1, i + 1, ()) Q))))))))))) (req (decide (0 +
 o.length ≤ o.length)) (Q (AX.exit 2) (stS 1 Go.P8.sh16zbe (seg 0 (o.length) o, ()))))) := by kernel_rfl
abbrev fc16z : FC := ⟨[.v L2], [L], fun x K => lksOk x.1 ∧ ∀ h : List Int, HeadsOk x.1 h → K (h, ())⟩
theorem v16ZF (ls : List Lk) (K : dens [L] → Prop) : (xfn1 Tryz.prog { l2 := [(16, 0, lc16za), (16, 1, lc16zb)] } 5 16 fc16z (ls, ()) K) =
  (((0 : SV.den (SV.slot 4 (SV.v Go.P8.I))) ≤ (0 : Int) ∧ (0 : Int) ≤ (24 : SV.den (SV.slot 4 (SV.v Go.P8.I))) ∧ (↑0 : SV.den (SV.slot 4 (SV.v Go.P8.I))) = (0 : Int) ∧ ∀ (k : Nat), (↑k : Int) < (0 : Int) → List.getD [] k (0
 : Ty.den Go.P8.I) = (↑k : Ty.den Go.P8.I)) ∧ ∀ (o1 : List Int), Go.P8.HeadsOk [] o1 → req (decide (0 + o1.length ≤ o1.length)) ((Go.P8.lksOk ls ∧ (0 : SV.den (SV.slot 5 (SV.v Go.P8.I))) ≤ (0 : Int) ∧ (0 : Int) ≤
 (↑(ls.length) : SV.den (SV.slot 5 (SV.v Go.P8.I))) ∧ Go.P8.HeadsOk (List.take 0 ls) (seg 0 (o1.length) o1)) ∧ ∀ (o1 : List Int), Go.P8.HeadsOk ls o1 → req (decide (0 + o1.length ≤ o1.length)) (K (seg 0 (o1.length) o1,
 ())))) := by kernel_rfl
theorem v5ZF (ls : List Lk) (K : dens [L, E] → Prop) : (xfn1 Tryz.prog { f := [(15, fc64), (16, fc16z)] } 5 5 fcLinked (ls, ()) K) =
  (ls.length ≤ 9223372036854775807 ∧ ∀ (b : Bool), b = Go.P8.linkedOk ls → fork (!b) (K ([], (83 : Int), ())) (Go.P8.lksOk ls ∧ ∀ (h : List Int), Go.P8.HeadsOk ls h → K (h, (0 : Int), ()))) := by kernel_rfl
/-! dealing -/
abbrev sh22z : SV := S [(0, .v LD), (1, .v L2), (5, .box 0 (.v TW)), (7, .v I), (8, .v I)]
abbrev sh22ze : SV := S [(0, .v LD), (1, .v L2), (5, .box 0 (.v TW))]
abbrev sh6r : SV := S [(6, .v .b)]
def ex22z : Ex2
  | .ret => some (sh6r, 0)
  | _ => some (sh22ze, 1)
abbrev lc22z : LC2 := ⟨0, sh22z, 1, fun (l, ls, w, last, i, _) Q => (l.length ≤ big ∧ 0 ≤ i ∧ i ≤ l.length) ∧ (dlsOk (l.drop i.toNat) last = true → Q (.exit 0) (stS 1 sh22ze (l, ls, w, ()))) ∧ (dlsOk (l.drop i.toNat) last = false → Q .ret (stS 0 sh6r (false, ())))⟩
theorem v22Z (l : List Dl) (ls : List Lk) (w : Wt) (last i : Int) (Q : AX → St → Prop) : (xloop2 Tryz.prog { f := [(28, fcFromZ)] } 5 22 0 lc22z ex22z (fun (l, _, _, _, i, _) => mL l i) (l, ls, w, last, i, ()) Q) =
  (fork (decide (i < (↑(l.length) : Int))) (req (decide ((0 : Int) ≤ i ∧ i < (↑(l.length) : Int))) (∀ (b : Bool), b = decide (last ≤ (List.getD l (Int.toNat i) ((0 : Int), (0 : Int), (0 : Int))).1 ∧ (List.getD l (Int.toNat
 i) ((0 : Int), (0 : Int), (0 : Int))).1 ≤ (36500 : Int)) → fork (!b) (Q AX.ret (stS 0 Go.P8.sh6r (false, ()))) (req (decide ((0 : Int) ≤ i ∧ i < (↑(l.length) : Int))) (∀ (b : Bool), b = decide ((0 : Int) ≤ (List.getD l
 (Int.toNat i) ((0 : Int), (0 : Int), (0 : Int))).2.1 ∧ (List.getD l (Int.toNat i) ((0 : Int), (0 : Int), (0 : Int))).2.1 ≤ (23 : Int)) → fork (!b) (Q AX.ret (stS 0 Go.P8.sh6r (false, ()))) (req (decide ((0 : Int) ≤ i ∧ i
 < (↑(l.length) : Int))) (∀ (b : Bool), b = decide ((1 : Int) ≤ (List.getD l (Int.toNat i) ((0 : Int), (0 : Int), (0 : Int))).2.2 ∧ (List.getD l (Int.toNat i) ((0 : Int), (0 : Int), (0 : Int))).2.2 ≤ (1073741824 : Int)) →
 fork (!b) (Q AX.ret (stS 0 Go.P8.sh6r (false, ()))) (req (decide ((0 : Int) ≤ i ∧ i < (↑(l.length) : Int))) (req (inR IntKind.i64 (i + 1)) (Go.P8.mL l (i + 1) < Go.P8.mL l i ∧ LC2.spec Go.P8.lc22z (l, ls, w, (List.getD l
 (Int.toNat i) ((0 : Int), (0 : Int), (0 : Int))).1, i + 1, ()) Q))))))))) (Q (AX.exit 0) (stS 1 Go.P8.sh22ze (l, ls, w, ())))) := by kernel_rfl
abbrev fc22z : FC := ⟨[.v LD, .v L2, .v TW], [.b], fun x K => (x.1.length ≤ big ∧ x.2.1.length ≤ big) ∧ ∀ b : Bool, b = watOk x.1 x.2.1 x.2.2.1 → K (b, ())⟩
theorem v22ZF (l : List Dl) (ls : List Lk) (w : Wt) (K : dens [.b] → Prop) : (xfn1 Tryz.prog { f := [(28, fcFromZ), (15, fc64)], l2 := [(22, 0, lc22z)] } 5 22 fc22z (l, ls, w, ()) K) =
  ((l.length ≤ 9223372036854775807 ∧ (0 : SV.den (SV.slot 8 (SV.v Go.P8.I))) ≤ (0 : Int) ∧ (0 : Int) ≤ (↑(l.length) : SV.den (SV.slot 8 (SV.v Go.P8.I)))) ∧ (Go.P8.dlsOk (List.drop 0 l) (0 : Int) = true → fork (decide
 ((↑(l.length) : Int) ≤ (64 : Int))) (ls.length ≤ 9223372036854775807 ∧ ∀ (b : Bool), b = Go.P8.linkedOk ls → fork b (∀ (b : Bool), b = decide ((1 : Int) ≤ w.1 ∧ w.1 ≤ (366 : Int)) → fork b (∀ (b : Bool), b = decide ((1 :
 Int) ≤ w.2.1 ∧ w.2.1 ≤ (1073741824 : Int)) → fork b (∀ (b : Bool), b = decide ((1 : Int) ≤ w.2.2.1 ∧ w.2.2.1 ≤ w.2.1) → fork b (∀ (b : Bool), b = decide ((1 : Int) ≤ w.2.2.2 ∧ w.2.2.2 ≤ (64 : Int)) → K (b, ())) (K (false,
 ()))) (K (false, ()))) (K (false, ()))) (K (false, ()))) (K (false, ()))) ∧ (Go.P8.dlsOk (List.drop 0 l) (0 : Int) = false → K (false, ()))) := by kernel_rfl
/-! window, total, small, reported -/
def dlP (w : Wt) (l : List Dl) : Prop := wtOk w = true ∧ l.length ≤ 64 ∧ ∀ d ∈ l, dayOk d
abbrev sh23z : SV := S [(0, .v LD), (1, .v L), (3, .v I), (6, .box 0 (.v TW)), (9, .own 1 I), (10, .v I)]
abbrev sh23ze : SV := S [(9, .own 1 I)]
abbrev lc23z : LC2 := ⟨0, sh23z, 2, fun (l, h, k, w, o, i, _) Q => (dlP w l ∧ h.length = 24 ∧ 0 ≤ k ∧ k < l.length ∧ 0 ≤ i ∧ i ≤ k + 1 ∧ o.length ≤ i) ∧ ∀ r : List Int, r = o ++ winF w l h k (k + 1 - i).toNat i → Q (.exit 0) (stS 2 sh23ze (r, ()))⟩
theorem v23Z (l : List Dl) (h : List Int) (k : Int) (w : Wt) (o : List Int) (i : Int) (Q : AX → St → Prop) : (xloop2 Tryz.prog { nm := true } 5 23 0 lc23z (fun _ => some (sh23ze, 2)) (fun (_, _, k, _, _, i, _) => (k + 1 - i).toNat) (l, h, k, w, o, i, ()) Q) =
  (fork (decide (i ≤ k)) (req (decide ((0 : Int) ≤ i ∧ i < (↑(l.length) : Int))) (req (decide ((0 : Int) ≤ (List.getD l (Int.toNat i) ((0 : Int), (0 : Int), (0 : Int))).2.1 ∧ (List.getD l (Int.toNat i) ((0 : Int), (0 :
 Int), (0 : Int))).2.1 < (↑(h.length) : Int))) (req (decide ((0 : Int) ≤ k ∧ k < (↑(l.length) : Int))) (req (decide ((0 : Int) ≤ (List.getD l (Int.toNat k) ((0 : Int), (0 : Int), (0 : Int))).2.1 ∧ (List.getD l (Int.toNat
 k) ((0 : Int), (0 : Int), (0 : Int))).2.1 < (↑(h.length) : Int))) (fork (List.getD h (Int.toNat ((List.getD l (Int.toNat i) ((0 : Int), (0 : Int), (0 : Int))).2.1)) (0 : Int) == List.getD h (Int.toNat ((List.getD l
 (Int.toNat k) ((0 : Int), (0 : Int), (0 : Int))).2.1)) (0 : Int)) (req (decide ((0 : Int) ≤ i ∧ i < (↑(l.length) : Int))) (req (decide ((0 : Int) ≤ k ∧ k < (↑(l.length) : Int))) (req (inR IntKind.i64 ((List.getD l
 (Int.toNat k) ((0 : Int), (0 : Int), (0 : Int))).1 - w.1)) (fork (decide ((List.getD l (Int.toNat i) ((0 : Int), (0 : Int), (0 : Int))).1 > (List.getD l (Int.toNat k) ((0 : Int), (0 : Int), (0 : Int))).1 - w.1)) (req
 (decide (0 + o.length ≤ o.length)) (req (fitsN (o.length + 1) 8) (∀ (ys : List (Ty.den (Ty.i IntKind.i64))), ys = seg 0 (o.length) o ++ [i] → req (inR IntKind.i64 (i + 1)) (req (decide (0 + (o.length + 1) ≤ ys.length))
 (Int.toNat (k + (1 : SV.den (SV.slot 3 (SV.v Go.P8.I))) - (i + 1)) < Int.toNat (k + (1 : SV.den (SV.slot 3 (SV.v Go.P8.I))) - i) ∧ LC2.spec Go.P8.lc23z (l, h, k, w, seg 0 (o.length + 1) ys, i + 1, ()) Q))))) (req (inR
 IntKind.i64 (i + 1)) (req (decide (0 + o.length ≤ o.length)) (Int.toNat (k + (1 : SV.den (SV.slot 3 (SV.v Go.P8.I))) - (i + 1)) < Int.toNat (k + (1 : SV.den (SV.slot 3 (SV.v Go.P8.I))) - i) ∧ LC2.spec Go.P8.lc23z (l, h,
 k, w, seg 0 (o.length) o, i + 1, ()) Q))))))) (req (inR IntKind.i64 (i + 1)) (req (decide (0 + o.length ≤ o.length)) (Int.toNat (k + (1 : SV.den (SV.slot 3 (SV.v Go.P8.I))) - (i + 1)) < Int.toNat (k + (1 : SV.den (SV.slot
 3 (SV.v Go.P8.I))) - i) ∧ LC2.spec Go.P8.lc23z (l, h, k, w, seg 0 (o.length) o, i + 1, ()) Q)))))))) (req (decide (0 + o.length ≤ o.length)) (Q (AX.exit 0) (stS 2 Go.P8.sh23ze (seg 0 (o.length) o, ()))))) := by kernel_rfl
abbrev fc23z : FC := ⟨[.v LD, .v L, .v TW, .v I], [L], fun x K => (dlP x.2.2.1 x.1 ∧ x.2.1.length = 24 ∧ 0 ≤ x.2.2.2.1 ∧ x.2.2.2.1 < x.1.length) ∧ ∀ r : List Int, r = allI x.2.2.1 x.1 x.2.1 x.2.2.2.1 → K (r, ())⟩
theorem v23ZF (l : List Dl) (h : List Int) (w : Wt) (k : Int) (K : dens [L] → Prop) : (xfn1 Tryz.prog { l2 := [(23, 0, lc23z)] } 5 23 fc23z (l, h, w, k, ()) K) =
  ((Go.P8.dlP w l ∧ h.length = 24 ∧ (0 : SV.den (SV.slot 3 (SV.v Go.P8.I))) ≤ k ∧ k < (↑(l.length) : SV.den (SV.slot 3 (SV.v Go.P8.I))) ∧ (0 : SV.den (SV.slot 10 (SV.v Go.P8.I))) ≤ (0 : Int) ∧ (0 : Int) ≤ k + (1 : SV.den
 (SV.slot 10 (SV.v Go.P8.I))) ∧ (↑0 : SV.den (SV.slot 10 (SV.v Go.P8.I))) ≤ (0 : Int)) ∧ ∀ (r : List Int), r = [] ++ Go.P8.winF w l h k (Int.toNat (k + (1 : SV.den (SV.slot 3 (SV.v Go.P8.I))) - 0)) (0 : Int) → req (decide
 (0 + r.length ≤ r.length)) (K (seg 0 (r.length) r, ()))) := by kernel_rfl
def ixP (l : List Dl) (is : List Int) : Prop := l.length ≤ 64 ∧ (∀ d ∈ l, dayOk d) ∧ is.length ≤ 64 ∧ ∀ i ∈ is, 0 ≤ i ∧ i < l.length
abbrev sh25z : SV := S [(0, .v LD), (1, .v L), (5, .v I), (6, .v I)]
abbrev sh25ze : SV := S [(5, .v I)]
abbrev lc25z : LC2 := ⟨0, sh25z, 0, fun (l, is, n, i, _) Q => (ixP l is ∧ 0 ≤ i ∧ i ≤ is.length ∧ 0 ≤ n ∧ n ≤ i * 1073741824) ∧ ∀ r, r = n + sumOf l (is.drop i.toNat) → Q (.exit 0) (stS 0 sh25ze (r, ()))⟩
theorem v25Z (l : List Dl) (is : List Int) (n i : Int) (Q : AX → St → Prop) : (xloop2 Tryz.prog {} 5 25 0 lc25z (fun _ => some (sh25ze, 0)) (fun (_, is, _, i, _) => mL is i) (l, is, n, i, ()) Q) =
  (fork (decide (i < (↑(is.length) : Int))) (req (decide ((0 : Int) ≤ i ∧ i < (↑(is.length) : Int))) (req (decide ((0 : Int) ≤ List.getD is (Int.toNat i) (0 : Int) ∧ List.getD is (Int.toNat i) (0 : Int) < (↑(l.length) :
 Int))) (req (inR IntKind.i64 (n + ((List.getD l (Int.toNat (List.getD is (Int.toNat i) (0 : Int))) ((0 : Int), (0 : Int), (0 : Int))).2).2)) (req (inR IntKind.i64 (i + 1)) (Go.P8.mL is (i + 1) < Go.P8.mL is i ∧ LC2.spec
 Go.P8.lc25z (l, is, n + ((List.getD l (Int.toNat (List.getD is (Int.toNat i) (0 : Int))) ((0 : Int), (0 : Int), (0 : Int))).2).2, i + 1, ()) Q))))) (Q (AX.exit 0) (stS 0 Go.P8.sh25ze (n, ())))) := by kernel_rfl
abbrev fc25z : FC := ⟨[.v LD, .v L], [I], fun x K => ixP x.1 x.2.1 ∧ ∀ r, r = sumOf x.1 x.2.1 → K (r, ())⟩
theorem v25ZF (l : List Dl) (is : List Int) (K : dens [I] → Prop) : (xfn1 Tryz.prog { l2 := [(25, 0, lc25z)] } 5 25 fc25z (l, is, ()) K) =
  ((Go.P8.ixP l is ∧ (0 : SV.den (SV.slot 6 (SV.v Go.P8.I))) ≤ (0 : Int) ∧ (0 : Int) ≤ (↑(is.length) : SV.den (SV.slot 6 (SV.v Go.P8.I))) ∧ (0 : SV.den (SV.slot 5 (SV.v Go.P8.I))) ≤ (0 : Int) ∧ (0 : Int) ≤ (0 : Int) *
 (1073741824 : SV.den (SV.slot 5 (SV.v Go.P8.I)))) ∧ ∀ (r : SV.den (SV.slot ((5, SV.v Go.P8.I).1) ((5, SV.v Go.P8.I).2))), r = (0 : Int) + Go.P8.sumOf l (List.drop 0 is) → K (r, ())) := by kernel_rfl
abbrev sh30z : SV := S [(0, .v LD), (2, .v L), (4, .box 0 (.v TW)), (7, .own 1 I), (8, .v I)]
abbrev sh30ze : SV := S [(7, .own 1 I)]
abbrev lc30z : LC2 := ⟨0, sh30z, 2, fun (l, is, w, o, i, _) Q => (wtOk w = true ∧ ixP l is ∧ 0 ≤ i ∧ i ≤ is.length ∧ o.length ≤ i) ∧ ∀ r : List Int, r = o ++ (is.drop i.toNat).filter (smallB w l) → Q (.exit 0) (stS 2 sh30ze (r, ()))⟩
theorem v30Z (l : List Dl) (is : List Int) (w : Wt) (o : List Int) (i : Int) (Q : AX → St → Prop) : (xloop2 Tryz.prog { nm := true, f := [(28, fcFromZ)] } 5 30 0 lc30z (fun _ => some (sh30ze, 2)) (fun (_, is, _, _, i, _) => mL is i) (l, is, w, o, i, ()) Q) =
  (fork (decide (i < (↑(is.length) : Int))) (req (decide ((0 : Int) ≤ i ∧ i < (↑(is.length) : Int))) (req (decide ((0 : Int) ≤ List.getD is (Int.toNat i) (0 : Int) ∧ List.getD is (Int.toNat i) (0 : Int) < (↑(l.length) :
 Int))) (req (inR IntKind.i64 (w.2.1 - 1)) (∀ (b : Bool), b = decide (w.2.2.1 ≤ ((List.getD l (Int.toNat (List.getD is (Int.toNat i) (0 : Int))) ((0 : Int), (0 : Int), (0 : Int))).2).2 ∧ ((List.getD l (Int.toNat (List.getD
 is (Int.toNat i) (0 : Int))) ((0 : Int), (0 : Int), (0 : Int))).2).2 ≤ w.2.1 - 1) → fork b (req (decide ((0 : Int) ≤ i ∧ i < (↑(is.length) : Int))) (req (decide (0 + o.length ≤ o.length)) (req (fitsN (o.length + 1) 8) (∀
 (ys : List (Ty.den (Ty.i IntKind.i64))), ys = seg 0 (o.length) o ++ [List.getD is (Int.toNat i) (0 : Int)] → req (inR IntKind.i64 (i + 1)) (req (decide (0 + (o.length + 1) ≤ ys.length)) (Go.P8.mL is (i + 1) < Go.P8.mL is
 i ∧ LC2.spec Go.P8.lc30z (l, is, w, seg 0 (o.length + 1) ys, i + 1, ()) Q)))))) (req (inR IntKind.i64 (i + 1)) (req (decide (0 + o.length ≤ o.length)) (Go.P8.mL is (i + 1) < Go.P8.mL is i ∧ LC2.spec Go.P8.lc30z (l, is, w,
 seg 0 (o.length) o, i + 1, ()) Q))))))) (req (decide (0 + o.length ≤ o.length)) (Q (AX.exit 0) (stS 2 Go.P8.sh30ze (seg 0 (o.length) o, ()))))) := by kernel_rfl
abbrev fc30z : FC := ⟨[.v LD, .v TW, .v L], [L], fun x K => (wtOk x.2.1 = true ∧ ixP x.1 x.2.2.1) ∧ ∀ r : List Int, r = x.2.2.1.filter (smallB x.2.1 x.1) → K (r, ())⟩
theorem v30ZF (l : List Dl) (w : Wt) (is : List Int) (K : dens [L] → Prop) : (xfn1 Tryz.prog { l2 := [(30, 0, lc30z)] } 5 30 fc30z (l, w, is, ()) K) =
  ((Go.P8.wtOk w = true ∧ Go.P8.ixP l is ∧ (0 : SV.den (SV.slot 8 (SV.v Go.P8.I))) ≤ (0 : Int) ∧ (0 : Int) ≤ (↑(is.length) : SV.den (SV.slot 8 (SV.v Go.P8.I))) ∧ (↑0 : SV.den (SV.slot 8 (SV.v Go.P8.I))) ≤ (0 : Int)) ∧ ∀ (r
 : List Int), r = [] ++ List.filter (Go.P8.smallB w l) (List.drop 0 is) → req (decide (0 + r.length ≤ r.length)) (K (seg 0 (r.length) r, ()))) := by kernel_rfl
abbrev fc24z : FC := ⟨[.v LD, .v TW, .v L], [.b], fun x K => (wtOk x.2.1 = true ∧ ixP x.1 x.2.2.1) ∧ ∀ b : Bool, b = (decide (x.2.1.2.1 ≤ sumOf x.1 x.2.2.1) || decide (x.2.1.2.2.2 ≤ ((x.2.2.1.filter (smallB x.2.1 x.1)).length : Int))) → K (b, ())⟩
theorem v24ZF (l : List Dl) (w : Wt) (is : List Int) (K : dens [.b] → Prop) : (xfn1 Tryz.prog { f := [(25, fc25z), (30, fc30z)] } 5 24 fc24z (l, w, is, ()) K) =
  (Go.P8.ixP l is ∧ ∀ (r : Int), r = Go.P8.sumOf l is → AV.int IntKind.i64 (w.2.1) = AV.int IntKind.i64 (w.2.1) ∧ fork (decide (r ≥ w.2.1)) (K (true, ())) ((Go.P8.wtOk w = true ∧ Go.P8.ixP l is) ∧ ∀ (r : List Int), r =
 List.filter (Go.P8.smallB w l) is → AV.int IntKind.i64 (w.2.2.2) = AV.int IntKind.i64 (w.2.2.2) ∧ K (decide ((↑(r.length) : Int) ≥ w.2.2.2), ()))) := by kernel_rfl
end Go.P8
