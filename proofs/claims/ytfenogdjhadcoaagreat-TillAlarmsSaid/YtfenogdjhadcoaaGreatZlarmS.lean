/- Alarms: states and what is to be shown, reduced. No conditions. -/
import Derived.Test.YtfenogdjhadcoaaGreatZatS3
import Derived.Test.YtfenogdjhadcoaaGreatAlarmL
set_option linter.unusedSimpArgs false
set_option linter.unusedVariables false
set_option linter.constructorNameAsVariable false
set_option maxRecDepth 100000
set_option maxHeartbeats 2000000
namespace Go.P8
open Go.Lom Go.Proofs Go

abbrev cl68 : SV := .fn 19 .nil (A [.box 0 (.v TWt), .box 1 (.v I)])
abbrev sh67 : SV := S [(0, .v LD), (1, cl68), (7, .v I), (8, .v I)]
abbrev sh67r : SV := S [(1, cl68), (4, .v I)]
abbrev sh67e : SV := S [(1, cl68)]
def ex67 : Ex2
  | .ret => some (sh67r, 2)
  | _ => some (sh67e, 2)
abbrev lc67 : LC2 := ⟨2, sh67, 2, fun (l, f, m, i, _) Q => (watP f.2.1 ∧ l = f.2.1.2.1 ∧ m = l.length ∧ 0 ≤ i ∧ i ≤ l.length) ∧ ∀ r : Int, r = idxP l (arL 23 f.2.1.2.2) f.2.2.1 (l.length - i.toNat) i → (r = -1 → Q (.exit 0) (stS 2 sh67e (f, ()))) ∧ (r ≠ -1 → Q .ret (stS 2 sh67r (f, r, ())))⟩
theorem v67L (l0 : List Dl) (tw : Wt) (l : List Dl) (h : Ar) (p m i : Int) (Q : AX → St → Prop) : (xloop2 Tryz.prog {} 5 18 0 lc67 ex67 (fun (l, _, _, i, _) => mL l i) (l0, ((), ((tw, l, h), p, ())), m, i, ()) Q) =
  (fork (decide (i < m)) (req (decide ((0 : Int) ≤ i ∧ i < (↑(l0.length) : Int))) (req (decide ((0 : Int) ≤ (List.getD l0 (Int.toNat i) ((0 : Int), (0 : Int), (0 : Int))).2.1 ∧ (List.getD l0 (Int.toNat i) ((0 : Int), (0 :
 Int), (0 : Int))).2.1 < (24 : Int))) (req (selOk IntKind.i64 (Ty.enc Go.P8.TWt (tw, l, h)) (5 + Int.toNat ((List.getD l0 (Int.toNat i) ((0 : Int), (0 : Int), (0 : Int))).2.1))) (fork (selI (Ty.enc Go.P8.TWt (tw, l, h)) (5
 + Int.toNat ((List.getD l0 (Int.toNat i) ((0 : Int), (0 : Int), (0 : Int))).2.1)) == p) (Q AX.ret (stS 2 Go.P8.sh67r (((), (tw, l, h), p, ()), i, ()))) (req (inR IntKind.i64 (i + 1)) (Go.P8.mL l0 (i + 1) < Go.P8.mL l0 i ∧
 LC2.spec Go.P8.lc67 (l0, ((), (tw, l, h), p, ()), m, i + 1, ()) Q)))))) (Q (AX.exit 0) (stS 2 Go.P8.sh67e (((), (tw, l, h), p, ()), ())))) := by kernel_rfl
abbrev fc67 : FC2 := ⟨A [.v LD, cl68], 2, A [.any, cl68, .v I], 2, fun (l, f, _) K => (watP f.2.1 ∧ l = f.2.1.2.1) ∧ ∀ r : Int, r = idxP l (arL 23 f.2.1.2.2) f.2.2.1 l.length 0 → K ((), f, r, ())⟩
theorem v67F (l0 : List Dl) (tw : Wt) (l : List Dl) (h : Ar) (p : Int) (K : fc67.post.den → Prop) : (xfn2 Tryz.prog { l2 := [(18, 0, lc67)] } 5 18 fc67 (l0, ((), ((tw, l, h), p, ())), ()) K) =
  ((Go.P8.watP (tw, l, h) ∧ l0 = l ∧ (↑(l0.length) : Int) = (↑(l0.length) : SV.den (SV.slot 7 (SV.v Go.P8.I))) ∧ (0 : SV.den (SV.slot 8 (SV.v Go.P8.I))) ≤ (0 : Int) ∧ (0 : Int) ≤ (↑(l0.length) : SV.den (SV.slot 8 (SV.v
 Go.P8.I)))) ∧ ∀ (r : Int), r = Go.P8.idxP l0 (Go.P8.arL 23 h) p (l0.length) (0 : Int) → (r = (-1 : Int) → K ((), ((), (tw, l, h), p, ()), (-1 : Int), ())) ∧ (r ≠ (-1 : Int) → K ((), ((), (tw, l, h), p, ()), r, ()))) := by kernel_rfl
abbrev sh32b : SV := S [(0, .v LD), (8, .box 0 (.v TWt)), (10, .own 1 TD), (11, .box 2 (.v I)), (12, .v I), (26, .v I)]
abbrev lc32b : LC2 := ⟨0, sh32b, 3, fun (l, w, o, p, k, q, _) Q => (watP w ∧ l = w.2.1 ∧ -1 ≤ k ∧ k ≤ l.length) ∧ ∀ k1 : Int, k1 = (if k < 0 then k else firstRep w.1 w.2.1 (arL 23 w.2.2) p (l.length - k.toNat) k) → Q (.exit 2) (stS 3 sh32b (l, w, o, p, k1, q, ()))⟩
theorem v32B (l0 : List Dl) (tw : Wt) (l : List Dl) (h : Ar) (o : List Dl) (p k q : Int) (Q : AX → St → Prop) : (xloop2 Tryz.prog { f := [(20, fcRep)] } 5 7 1 lc32b (fun _ => some (sh32b, 3)) (fun (l, _, _, _, k, _) => mL l k) (l0, (tw, l, h), o, p, k, q, ()) Q) =
  (fork (decide (k ≥ (0 : Int))) (fork (decide (k < (↑(l0.length) : Int))) (req (decide ((0 : Int) ≤ k ∧ k < (↑(l0.length) : Int))) (req (decide ((0 : Int) ≤ (List.getD l0 (Int.toNat k) ((0 : Int), (0 : Int), (0 :
 Int))).2.1 ∧ (List.getD l0 (Int.toNat k) ((0 : Int), (0 : Int), (0 : Int))).2.1 < (24 : Int))) (req (selOk IntKind.i64 (Ty.enc Go.P8.TWt (tw, l, h)) (5 + Int.toNat ((List.getD l0 (Int.toNat k) ((0 : Int), (0 : Int), (0 :
 Int))).2.1))) (fork (selI (Ty.enc Go.P8.TWt (tw, l, h)) (5 + Int.toNat ((List.getD l0 (Int.toNat k) ((0 : Int), (0 : Int), (0 : Int))).2.1)) != p) (req (inR IntKind.i64 (k + 1)) (req (decide (0 + o.length ≤ o.length))
 (Go.P8.mL l0 (k + 1) < Go.P8.mL l0 k ∧ LC2.spec Go.P8.lc32b (l0, (tw, l, h), seg 0 (o.length) o, p, k + 1, q, ()) Q))) ((Go.P8.watP (tw, l, h) ∧ (0 : AT.den (AT.v Go.P8.I)) ≤ k ∧ k < (↑(l.length) : AT.den (AT.v Go.P8.I)))
 ∧ ∀ (b : Bool), b = Go.P8.repB tw l (Go.P8.arL 23 h) k → fork (!b) (req (inR IntKind.i64 (k + 1)) (req (decide (0 + o.length ≤ o.length)) (Go.P8.mL l0 (k + 1) < Go.P8.mL l0 k ∧ LC2.spec Go.P8.lc32b (l0, (tw, l, h), seg 0
 (o.length) o, p, k + 1, q, ()) Q))) (req (decide (0 + o.length ≤ o.length)) (Q (AX.exit 2) (stS 3 Go.P8.sh32b (l0, (tw, l, h), seg 0 (o.length) o, p, k, q, ()))))))))) (req (decide (0 + o.length ≤ o.length)) (Q (AX.exit
 2) (stS 3 Go.P8.sh32b (l0, (tw, l, h), seg 0 (o.length) o, p, k, q, ()))))) (req (decide (0 + o.length ≤ o.length)) (Q (AX.exit 2) (stS 3 Go.P8.sh32b (l0, (tw, l, h), seg 0 (o.length) o, p, k, q, ()))))) := by kernel_rfl
abbrev sh32a : SV := S [(0, .v LD), (8, .box 0 (.v TWt)), (10, .own 1 TD), (26, .v I)]
abbrev sh32e : SV := S [(10, .own 1 TD)]
abbrev lc32a : LC2 := ⟨0, sh32a, 2, fun (l, w, o, p, _) Q => (watP w ∧ l = w.2.1 ∧ 0 ≤ p ∧ p ≤ 24 ∧ o.length ≤ p) ∧ ∀ o1 : List Dl, o1 = o ++ alarmsF w.1 w.2.1 (arL 23 w.2.2) (24 - p.toNat) p → Q (.exit 0) (stS 2 sh32e (o1, ()))⟩
theorem v32A (l0 : List Dl) (tw : Wt) (l : List Dl) (h : Ar) (o : List Dl) (p : Int) (Q : AX → St → Prop) : (xloop2 Tryz.prog { nm := true, f := [(21, fcSums)], f2 := [(18, fc67)], l2 := [(7, 1, lc32b)] } 5 7 0 lc32a (fun _ => some (sh32e, 2)) (fun (_, _, _, p, _) => (24 - p).toNat) (l0, (tw, l, h), o, p, ()) Q) =
  (fork (decide (p < (24 : Int))) ((Go.P8.watP (tw, l, h) ∧ l0 = l) ∧ ∀ (r : Int), r = Go.P8.idxP l0 (Go.P8.arL 23 h) p (l0.length) (0 : Int) → req (decide (0 + o.length ≤ o.length)) ((Go.P8.watP (tw, l, h) ∧ l0 = l ∧ (-1 :
 SV.den (SV.slot 12 (SV.v Go.P8.I))) ≤ r ∧ r ≤ (↑(l0.length) : SV.den (SV.slot 12 (SV.v Go.P8.I)))) ∧ ∀ (k1 : Int), (k1 = if r < (0 : SV.den (SV.slot 12 (SV.v Go.P8.I))) then r else Go.P8.firstRep tw l (Go.P8.arL 23 h) p
 (l0.length - Int.toNat r) r) → fork (decide (k1 < (0 : Int))) (req (inR IntKind.i64 (p + 1)) (req (decide (0 + List.length (seg 0 (o.length) o) ≤ List.length (seg 0 (o.length) o))) (Int.toNat ((24 : SV.den (SV.slot 26
 (SV.v Go.P8.I))) - (p + 1)) < Int.toNat ((24 : SV.den (SV.slot 26 (SV.v Go.P8.I))) - p) ∧ LC2.spec Go.P8.lc32a (l0, (tw, l, h), seg 0 (List.length (seg 0 (o.length) o)) (seg 0 (o.length) o), p + 1, ()) Q))) (fork (k1 ==
 (↑(l0.length) : Int)) (req (inR IntKind.i64 (p + 1)) (req (decide (0 + List.length (seg 0 (o.length) o) ≤ List.length (seg 0 (o.length) o))) (Int.toNat ((24 : SV.den (SV.slot 26 (SV.v Go.P8.I))) - (p + 1)) < Int.toNat
 ((24 : SV.den (SV.slot 26 (SV.v Go.P8.I))) - p) ∧ LC2.spec Go.P8.lc32a (l0, (tw, l, h), seg 0 (List.length (seg 0 (o.length) o)) (seg 0 (o.length) o), p + 1, ()) Q))) ((Go.P8.watP (tw, l, h) ∧ (0 : AT.den (AT.v Go.P8.I))
 ≤ k1 ∧ k1 < (↑(l.length) : AT.den (AT.v Go.P8.I))) ∧ ∀ (a s : List Int) (n : Int), a = Go.P8.allI tw l (Go.P8.arL 23 h) k1 → s = Go.P8.smallI tw l (Go.P8.arL 23 h) k1 → n = Go.P8.sumOf l (Go.P8.allI tw l (Go.P8.arL 23 h)
 k1) → req (decide (0 + List.length (seg 0 (o.length) o) ≤ List.length (seg 0 (o.length) o))) (req (fitsN (List.length (seg 0 (o.length) o) + 1) 24) (∀ (ys : List (Ty.den (Ty.pr (Ty.i IntKind.i64) (Ty.pr (Ty.i IntKind.i64)
 (Ty.i IntKind.i64))))), ys = seg 0 (List.length (seg 0 (o.length) o)) (seg 0 (o.length) o) ++ [(p, k1, n)] → req (inR IntKind.i64 (p + 1)) (req (decide (0 + (List.length (seg 0 (o.length) o) + 1) ≤ ys.length)) (Int.toNat
 ((24 : SV.den (SV.slot 26 (SV.v Go.P8.I))) - (p + 1)) < Int.toNat ((24 : SV.den (SV.slot 26 (SV.v Go.P8.I))) - p) ∧ LC2.spec Go.P8.lc32a (l0, (tw, l, h), seg 0 (List.length (seg 0 (o.length) o) + 1) ys, p + 1, ())
 Q)))))))) (req (decide (0 + o.length ≤ o.length)) (Q (AX.exit 0) (stS 2 Go.P8.sh32e (seg 0 (o.length) o, ()))))) := by kernel_rfl
abbrev fcAlarms : FC := ⟨[.v LD, .v L2, .v TW], [LD, E], fun x K => (x.1.length ≤ big ∧ x.2.1.length ≤ big) ∧ ∀ (r : List Dl) (e : Int), (r, e) = alarmsR x.1 x.2.1 x.2.2.1 → K (r, e, ())⟩
theorem v32F (l : List Dl) (ls : List Lk) (w : Wt) (K : dens [LD, E] → Prop) : (xfn1 Tryz.prog { f := [(17, fcWatch)], l2 := [(7, 0, lc32a)] } 5 7 fcAlarms (l, ls, w, ()) K) =
  ((l.length ≤ 9223372036854775807 ∧ ls.length ≤ 9223372036854775807) ∧ (Go.P8.watOk l ls w = true → ∀ (h : Go.P8.Ar), Go.P8.arL 23 h = Go.P8.headOf ls → Go.P8.HeadsOk ls (Go.P8.headOf ls) → (Go.P8.watP (w, l, h) ∧ l = l ∧
 (0 : SV.den (SV.slot 26 (SV.v Go.P8.I))) ≤ (0 : Int) ∧ (0 : Int) ≤ (24 : SV.den (SV.slot 26 (SV.v Go.P8.I))) ∧ (↑0 : SV.den (SV.slot 26 (SV.v Go.P8.I))) ≤ (0 : Int)) ∧ ∀ (o1 : List Go.P8.Dl), o1 = [] ++ Go.P8.alarmsF w l
 (Go.P8.arL 23 h) 24 (0 : Int) → req (decide (0 + o1.length ≤ o1.length)) (K (seg 0 (o1.length) o1, (0 : Int), ()))) ∧ (Go.P8.watOk l ls w = false → K ([], (83 : Ty.den Go.P8.E), ()))) := by kernel_rfl
end Go.P8
