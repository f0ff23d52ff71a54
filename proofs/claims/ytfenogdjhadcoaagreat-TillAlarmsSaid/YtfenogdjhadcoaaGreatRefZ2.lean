/- The reference's most, least, Alarms, Reasons: states and what is to be shown, reduced. No conditions. -/
import Derived.Test.YtfenogdjhadcoaaGreatRefZ
set_option linter.unusedSimpArgs false
set_option linter.unusedVariables false
set_option linter.constructorNameAsVariable false
set_option maxRecDepth 100000
set_option maxHeartbeats 2000000
namespace Go.P8
open Go.Lom Go.Proofs Go

/-! most -/
abbrev sh48m : SV := S [(0, .v LD), (1, .v L), (2, .v I), (7, .v I), (8, .v I)]
abbrev sh48me : SV := S [(0, .v LD), (1, .v L), (2, .v I), (7, .v I)]
abbrev lc48m : LC2 := ⟨0, sh48m, 0, fun (l, is, m, best, i, _) Q => (ixP l is ∧ 0 ≤ i ∧ i ≤ is.length ∧ 0 ≤ best ∧ best < is.length ∧ ∀ j : Nat, (j : Int) < i → amt l (is.getD j 0) ≤ amt l (is.getD best.toNat 0)) ∧
  ∀ b1 : Int, 0 ≤ b1 → b1 < is.length → (∀ j ∈ is, amt l j ≤ amt l (is.getD b1.toNat 0)) → Q (.exit 0) (stS 0 sh48me (l, is, m, b1, ()))⟩
theorem v48M (l : List Dl) (is : List Int) (m best i : Int) (Q : AX → St → Prop) : (xloop2 Tryz.prog {} 5 48 0 lc48m (fun _ => some (sh48me, 0)) (fun (_, is, _, _, i, _) => mL is i) (l, is, m, best, i, ()) Q) =
  (fork (decide (i < (↑(is.length) : Int))) (req (decide ((0 : Int) ≤ i ∧ i < (↑(is.length) : Int))) (req (decide ((0 : Int) ≤ List.getD is (Int.toNat i) (0 : Int) ∧ List.getD is (Int.toNat i) (0 : Int) < (↑(l.length) :
 Int))) (req (decide ((0 : Int) ≤ best ∧ best < (↑(is.length) : Int))) (req (decide ((0 : Int) ≤ List.getD is (Int.toNat best) (0 : Int) ∧ List.getD is (Int.toNat best) (0 : Int) < (↑(l.length) : Int))) (fork (decide
 (((List.getD l (Int.toNat (List.getD is (Int.toNat i) (0 : Int))) ((0 : Int), (0 : Int), (0 : Int))).2).2 > ((List.getD l (Int.toNat (List.getD is (Int.toNat best) (0 : Int))) ((0 : Int), (0 : Int), (0 : Int))).2).2))
 (req (inR IntKind.i64 (i + 1)) (Go.P8.mL is (i + 1) < Go.P8.mL is i ∧ LC2.spec Go.P8.lc48m (l, is, m, i, i + 1, ()) Q)) (req (inR IntKind.i64 (i + 1)) (Go.P8.mL is (i + 1) < Go.P8.mL is i ∧ LC2.spec Go.P8.lc48m (l, is, m,
 best, i + 1, ()) Q))))))) (Q (AX.exit 0) (stS 0 Go.P8.sh48me (l, is, m, best, ())))) := by kernel_rfl
abbrev fcMost (c : Nat) : FC := ⟨[.v LD, .v L, .v I], [I], fun x K => (ixP x.1 x.2.1 ∧ 0 ≤ x.2.2.1 ∧ x.2.2.1 ≤ 1000 ∧ x.2.1.length < c) ∧ ∀ r : Int, r = grt x.1 x.2.1 x.2.2.1.toNat → K (r, ())⟩
theorem v48MF (c : Nat) (l : List Dl) (is : List Int) (m : Int) (K : dens [I] → Prop) : (xfn1 Tryz.prog { nm := true, f := [(48, fcMost c)], l2 := [(48, 0, lc48m)] } 5 48 (fcMost (c + 1)) (l, is, m, ()) K) =
  (fork (m == (0 : Int)) (K ((0 : Int), ())) (fork ((↑(is.length) : Int) == (0 : Int)) (K ((0 : Int), ())) ((Go.P8.ixP l is ∧ (0 : SV.den (SV.slot 8 (SV.v Go.P8.I))) ≤ (0 : Int) ∧ (0 : Int) ≤ (↑(is.length) : SV.den (SV.slot
 8 (SV.v Go.P8.I))) ∧ (0 : SV.den (SV.slot 7 (SV.v Go.P8.I))) ≤ (0 : Int) ∧ (0 : Int) < (↑(is.length) : SV.den (SV.slot 7 (SV.v Go.P8.I))) ∧ ∀ (j : Nat), (↑j : Int) < (0 : Int) → Go.P8.amt l (List.getD is j (0 : Ty.den
 Go.P8.I)) ≤ Go.P8.amt l (List.getD is 0 (0 : Ty.den Go.P8.I))) ∧ ∀ (b1 : Int), (0 : Int) ≤ b1 → b1 < (↑(is.length) : Int) → (∀ (j : Ty.den Go.P8.I), j ∈ is → Go.P8.amt l j ≤ Go.P8.amt l (List.getD is (Int.toNat b1) (0 :
 Ty.den Go.P8.I))) → req (decide ((0 : Int) ≤ (0 : Int) ∧ (0 : Int) ≤ b1 ∧ b1 ≤ (↑(is.length) : Int))) (req (inR IntKind.i64 (b1 + 1)) (req (decide ((0 : Int) ≤ b1 + 1 ∧ b1 + 1 ≤ (↑(is.length) : Int) ∧ (↑(is.length) : Int)
 ≤ (↑(is.length) : Int))) (req (fitsN (0 + List.length (List.drop 0 (List.take (Int.toNat b1) is))) 8) (∀ (ys : List (Ty.den (Ty.i IntKind.i64))), ys = [] ++ List.drop 0 (List.take (Int.toNat b1) is) → req (decide (0 + (0
 + List.length (List.drop 0 (List.take (Int.toNat b1) is))) ≤ ys.length)) (req (fitsN (0 + List.length (List.drop 0 (List.take (Int.toNat b1) is)) + List.length (List.drop (Int.toNat (b1 + 1)) (List.take (is.length) is)))
 8) (∀ (ys_1 : List (Ty.den (Ty.i IntKind.i64))), ys_1 = seg 0 (0 + List.length (List.drop 0 (List.take (Int.toNat b1) is))) ys ++ List.drop (Int.toNat (b1 + 1)) (List.take (is.length) is) → req (decide ((0 : Int) ≤ b1 ∧
 b1 < (↑(is.length) : Int))) (req (decide ((0 : Int) ≤ List.getD is (Int.toNat b1) (0 : Int) ∧ List.getD is (Int.toNat b1) (0 : Int) < (↑(l.length) : Int))) (req (inR IntKind.i64 (m - 1)) (req (decide (0 + (0 + List.length
 (List.drop 0 (List.take (Int.toNat b1) is)) + List.length (List.drop (Int.toNat (b1 + 1)) (List.take (is.length) is))) ≤ ys_1.length)) ((Go.P8.ixP l (seg 0 (0 + List.length (List.drop 0 (List.take (Int.toNat b1) is)) +
 List.length (List.drop (Int.toNat (b1 + 1)) (List.take (is.length) is))) ys_1) ∧ (0 : AT.den (AT.v Go.P8.I)) ≤ m - 1 ∧ m - 1 ≤ (1000 : AT.den (AT.v Go.P8.I)) ∧ List.length (seg 0 (0 + List.length (List.drop 0 (List.take
 (Int.toNat b1) is)) + List.length (List.drop (Int.toNat (b1 + 1)) (List.take (is.length) is))) ys_1) < c) ∧ ∀ (r : Int), r = Go.P8.grt l (seg 0 (0 + List.length (List.drop 0 (List.take (Int.toNat b1) is)) + List.length
 (List.drop (Int.toNat (b1 + 1)) (List.take (is.length) is))) ys_1) (Int.toNat (m - 1)) → AV.int IntKind.i64 (((List.getD l (Int.toNat (List.getD is (Int.toNat b1) (0 : Int))) ((0 : Int), (0 : Int), (0 : Int))).2).2) =
 AV.int IntKind.i64 (((List.getD l (Int.toNat (List.getD is (Int.toNat b1) (0 : Int))) ((0 : Int), (0 : Int), (0 : Int))).2).2) ∧ AV.int IntKind.i64 (List.getD is (Int.toNat b1) (0 : Int)) = AV.int IntKind.i64 (List.getD
 is (Int.toNat b1) (0 : Int)) ∧ req (inR IntKind.i64 (((List.getD l (Int.toNat (List.getD is (Int.toNat b1) (0 : Int))) ((0 : Int), (0 : Int), (0 : Int))).2).2 + r)) (K (((List.getD l (Int.toNat (List.getD is (Int.toNat
 b1) (0 : Int))) ((0 : Int), (0 : Int), (0 : Int))).2).2 + r, ()))))))))))))))) := by kernel_rfl
/-! least -/
abbrev sh29a : SV := S [(0, .v LD), (1, .v L), (2, .v I), (7, .v I)]
abbrev lc29a : LC2 := ⟨0, sh29a, 0, fun (l, is, s, m, _) Q => (ixP l is ∧ 0 ≤ m ∧ m ≤ is.length ∧ s ≤ grt l is is.length) ∧ ∀ m1 : Int, m1 = manyF l is s (is.length - m).toNat m.toNat → m ≤ m1 → m1 ≤ is.length → s ≤ grt l is m1.toNat → Q (.exit 0) (stS 0 sh29a (l, is, s, m1, ()))⟩
theorem v29A (l : List Dl) (is : List Int) (s m : Int) (Q : AX → St → Prop) : (xloop2 Tryz.prog { f := [(48, fcMost 65)] } 5 29 0 lc29a (fun _ => some (sh29a, 0)) (fun (_, is, _, m, _) => (is.length - m).toNat) (l, is, s, m, ()) Q) =
  ((Go.P8.ixP l is ∧ (0 : AT.den (AT.v Go.P8.I)) ≤ m ∧ m ≤ (1000 : AT.den (AT.v Go.P8.I)) ∧ is.length < 65) ∧ ∀ (r : Int), r = Go.P8.grt l is (Int.toNat m) → fork (decide (r < s)) (req (inR IntKind.i64 (m + 1)) (Int.toNat
 ((↑(is.length) : SV.den (SV.slot 7 (SV.v Go.P8.I))) - (m + 1)) < Int.toNat ((↑(is.length) : SV.den (SV.slot 7 (SV.v Go.P8.I))) - m) ∧ LC2.spec Go.P8.lc29a (l, is, s, m + 1, ()) Q)) (Q (AX.exit 0) (stS 0 Go.P8.sh29a (l,
 is, s, m, ())))) := by kernel_rfl
abbrev sh29b : SV := S [(0, .v LD), (1, .v L), (2, .v I), (7, .v I), (8, .own 0 I), (9, .v I)]
abbrev sh29be : SV := S [(8, .own 0 I)]
abbrev lc29b : LC2 := ⟨0, sh29b, 1, fun (l, is, s, m, o, i, _) Q => (ixP l is ∧ 0 ≤ i ∧ i ≤ is.length ∧ o.length ≤ i ∧ 0 ≤ m ∧ m ≤ is.length - i ∧ s ≤ 1073741824 ∧ 0 ≤ s + i * 1073741824 ∧ s ≤ grt l (is.drop i.toNat) m.toNat) ∧
  ∀ r : List Int, r = o ++ pickF l s (is.drop i.toNat) m.toNat 0 → Q (.exit 2) (stS 1 sh29be (r, ()))⟩
theorem v29B (l : List Dl) (is : List Int) (s m : Int) (o : List Int) (i : Int) (Q : AX → St → Prop) : (xloop2 Tryz.prog { nm := true, f := [(48, fcMost 65)] } 5 29 1 lc29b (fun _ => some (sh29be, 1)) (fun (_, is, _, _, _, i, _) => mL is i) (l, is, s, m, o, i, ()) Q) =
  (fork (decide (i < (↑(is.length) : Int))) (fork (decide (m > (0 : Int))) (req (decide ((0 : Int) ≤ i ∧ i < (↑(is.length) : Int))) (req (decide ((0 : Int) ≤ List.getD is (Int.toNat i) (0 : Int) ∧ List.getD is (Int.toNat i)
 (0 : Int) < (↑(l.length) : Int))) (req (inR IntKind.i64 (i + 1)) (req (decide ((0 : Int) ≤ i + 1 ∧ i + 1 ≤ (↑(is.length) : Int) ∧ (↑(is.length) : Int) ≤ (↑(is.length) : Int))) (req (inR IntKind.i64 (m - 1)) ((Go.P8.ixP l
 (List.drop (Int.toNat (i + 1)) (List.take (is.length) is)) ∧ (0 : AT.den (AT.v Go.P8.I)) ≤ m - 1 ∧ m - 1 ≤ (1000 : AT.den (AT.v Go.P8.I)) ∧ List.length (List.drop (Int.toNat (i + 1)) (List.take (is.length) is)) < 65) ∧ ∀
 (r : Int), r = Go.P8.grt l (List.drop (Int.toNat (i + 1)) (List.take (is.length) is)) (Int.toNat (m - 1)) → AV.int IntKind.i64 (((List.getD l (Int.toNat (List.getD is (Int.toNat i) (0 : Int))) ((0 : Int), (0 : Int), (0 :
 Int))).2).2) = AV.int IntKind.i64 (((List.getD l (Int.toNat (List.getD is (Int.toNat i) (0 : Int))) ((0 : Int), (0 : Int), (0 : Int))).2).2) ∧ AV.int IntKind.i64 (List.getD is (Int.toNat i) (0 : Int)) = AV.int IntKind.i64
 (List.getD is (Int.toNat i) (0 : Int)) ∧ req (inR IntKind.i64 (((List.getD l (Int.toNat (List.getD is (Int.toNat i) (0 : Int))) ((0 : Int), (0 : Int), (0 : Int))).2).2 + r)) (fork (decide (((List.getD l (Int.toNat
 (List.getD is (Int.toNat i) (0 : Int))) ((0 : Int), (0 : Int), (0 : Int))).2).2 + r ≥ s)) (req (decide ((0 : Int) ≤ i ∧ i < (↑(is.length) : Int))) (req (decide (0 + o.length ≤ o.length)) (req (fitsN (o.length + 1) 8) (∀
 (ys : List (Ty.den (Ty.i IntKind.i64))), ys = seg 0 (o.length) o ++ [List.getD is (Int.toNat i) (0 : Int)] → req (decide ((0 : Int) ≤ i ∧ i < (↑(is.length) : Int))) (req (decide ((0 : Int) ≤ List.getD is (Int.toNat i) (0
 : Int) ∧ List.getD is (Int.toNat i) (0 : Int) < (↑(l.length) : Int))) (req (inR IntKind.i64 (s - ((List.getD l (Int.toNat (List.getD is (Int.toNat i) (0 : Int))) ((0 : Int), (0 : Int), (0 : Int))).2).2)) (req (inR
 IntKind.i64 (m - 1)) (req (inR IntKind.i64 (i + 1)) (req (decide (0 + (o.length + 1) ≤ ys.length)) (Go.P8.mL is (i + 1) < Go.P8.mL is i ∧ LC2.spec Go.P8.lc29b (l, is, s - ((List.getD l (Int.toNat (List.getD is (Int.toNat
 i) (0 : Int))) ((0 : Int), (0 : Int), (0 : Int))).2).2, m - 1, seg 0 (o.length + 1) ys, i + 1, ()) Q)))))))))) (req (inR IntKind.i64 (i + 1)) (req (decide (0 + o.length ≤ o.length)) (Go.P8.mL is (i + 1) < Go.P8.mL is i ∧
 LC2.spec Go.P8.lc29b (l, is, s, m, seg 0 (o.length) o, i + 1, ()) Q)))))))))) (req (decide (0 + o.length ≤ o.length)) (Q (AX.exit 2) (stS 1 Go.P8.sh29be (seg 0 (o.length) o, ()))))) (req (decide (0 + o.length ≤ o.length))
 (Q (AX.exit 2) (stS 1 Go.P8.sh29be (seg 0 (o.length) o, ()))))) := by kernel_rfl
abbrev fcLeastZ : FC := ⟨[.v LD, .v L, .v I], [L], fun x K => (ixP x.1 x.2.1 ∧ 1 ≤ x.2.1.length ∧ 1 ≤ x.2.2.1 ∧ x.2.2.1 ≤ 1073741824 ∧ x.2.2.1 ≤ sumOf x.1 x.2.1) ∧ ∀ r : List Int, r = pickF x.1 x.2.2.1 x.2.1 (manyF x.1 x.2.1 x.2.2.1 (x.2.1.length - 1) 1) 0 → K (r, ())⟩
theorem v29F (l : List Dl) (is : List Int) (s : Int) (K : dens [L] → Prop) : (xfn1 Tryz.prog { l2 := [(29, 0, lc29a), (29, 1, lc29b)] } 5 29 fcLeastZ (l, is, s, ()) K) =
  ((Go.P8.ixP l is ∧ (0 : SV.den (SV.slot 7 (SV.v Go.P8.I))) ≤ (0 : Int) ∧ (0 : Int) ≤ (↑(is.length) : SV.den (SV.slot 7 (SV.v Go.P8.I))) ∧ s ≤ Go.P8.grt l is (is.length)) ∧ ∀ (m1 : Int), m1 = (↑(Go.P8.manyF l is s
 (Int.toNat ((↑(is.length) : SV.den (SV.slot 7 (SV.v Go.P8.I))) - 0)) 0) : Int) → (0 : Int) ≤ m1 → m1 ≤ (↑(is.length) : Int) → s ≤ Go.P8.grt l is (Int.toNat m1) → (Go.P8.ixP l is ∧ (0 : SV.den (SV.slot 9 (SV.v Go.P8.I))) ≤
 (0 : Int) ∧ (0 : Int) ≤ (↑(is.length) : SV.den (SV.slot 9 (SV.v Go.P8.I))) ∧ (↑0 : SV.den (SV.slot 9 (SV.v Go.P8.I))) ≤ (0 : Int) ∧ (0 : SV.den (SV.slot 7 (SV.v Go.P8.I))) ≤ m1 ∧ m1 ≤ (↑(is.length) : SV.den (SV.slot 7
 (SV.v Go.P8.I))) - 0 ∧ s ≤ (1073741824 : SV.den (SV.slot 2 (SV.v Go.P8.I))) ∧ (0 : SV.den (SV.slot 2 (SV.v Go.P8.I))) ≤ s + 0 * (1073741824 : SV.den (SV.slot 2 (SV.v Go.P8.I))) ∧ s ≤ Go.P8.grt l (List.drop 0 is)
 (Int.toNat m1)) ∧ ∀ (r : List Int), r = [] ++ Go.P8.pickF l s (List.drop 0 is) (Int.toNat m1) (0 : Int) → req (decide (0 + r.length ≤ r.length)) (K (seg 0 (r.length) r, ()))) := by kernel_rfl
/-! Alarms -/
abbrev sh8zb : SV := S [(0, .v LD), (5, .box 0 (.v TW)), (8, .v L), (9, .own 1 TD), (10, .v I), (11, .v I)]
abbrev sh8zbe : SV := S [(0, .v LD), (5, .box 0 (.v TW)), (8, .v L), (9, .own 1 TD), (10, .v I)]
abbrev lc8zb : LC2 := ⟨0, sh8zb, 2, fun (l, w, h, o, p, k, _) Q => (dlP w l ∧ h.length = 24 ∧ 0 ≤ k ∧ k ≤ l.length ∧ 0 ≤ p ∧ p ≤ 24 ∧ o.length ≤ p) ∧ ∀ o1 : List Dl, o1 = (if firstRep w l h p (l.length - k.toNat) k < l.length then o ++ [(p, firstRep w l h p (l.length - k.toNat) k, sumOf l (allI w l h (firstRep w l h p (l.length - k.toNat) k)))] else o) → Q (.exit 2) (stS 2 sh8zbe (l, w, h, o1, p, ()))⟩
theorem v8ZB (l : List Dl) (w : Wt) (h : List Int) (o : List Dl) (p k : Int) (Q : AX → St → Prop) : (xloop2 Tryz.prog { nm := true, f := [(23, fc23z), (24, fc24z), (25, fc25z)] } 5 8 1 lc8zb (fun _ => some (sh8zbe, 2)) (fun (l, _, _, _, _, k, _) => mL l k) (l, w, h, o, p, k, ()) Q) =
  (fork (decide (k < (↑(l.length) : Int))) (req (decide ((0 : Int) ≤ k ∧ k < (↑(l.length) : Int))) (req (decide ((0 : Int) ≤ (List.getD l (Int.toNat k) ((0 : Int), (0 : Int), (0 : Int))).2.1 ∧ (List.getD l (Int.toNat k) ((0
 : Int), (0 : Int), (0 : Int))).2.1 < (↑(h.length) : Int))) (fork (List.getD h (Int.toNat ((List.getD l (Int.toNat k) ((0 : Int), (0 : Int), (0 : Int))).2.1)) (0 : Int) != p) (req (inR IntKind.i64 (k + 1)) (req (decide (0
 + o.length ≤ o.length)) (Go.P8.mL l (k + 1) < Go.P8.mL l k ∧ LC2.spec Go.P8.lc8zb (l, w, h, seg 0 (o.length) o, p, k + 1, ()) Q))) ((Go.P8.dlP w l ∧ h.length = 24 ∧ (0 : AT.den (AT.v Go.P8.I)) ≤ k ∧ k < (↑(l.length) :
 AT.den (AT.v Go.P8.I))) ∧ ∀ (r : List Int), r = Go.P8.allI w l h k → (Go.P8.wtOk w = true ∧ Go.P8.ixP l r) ∧ ∀ (b : Bool), b = (decide (w.2.1 ≤ Go.P8.sumOf l r) || decide (w.2.2.2 ≤ (↑(List.length (List.filter
 (Go.P8.smallB w l) r)) : Int))) → fork b (Go.P8.ixP l r ∧ ∀ (r_1 : Int), r_1 = Go.P8.sumOf l r → req (decide (0 + o.length ≤ o.length)) (req (fitsN (o.length + 1) 24) (∀ (ys : List (Ty.den (Ty.pr (Ty.i IntKind.i64) (Ty.pr
 (Ty.i IntKind.i64) (Ty.i IntKind.i64))))), ys = seg 0 (o.length) o ++ [(p, k, r_1)] → req (decide (0 + (o.length + 1) ≤ ys.length)) (Q (AX.exit 2) (stS 2 Go.P8.sh8zbe (l, w, h, seg 0 (o.length + 1) ys, p, ())))))) (req
 (inR IntKind.i64 (k + 1)) (req (decide (0 + o.length ≤ o.length)) (Go.P8.mL l (k + 1) < Go.P8.mL l k ∧ LC2.spec Go.P8.lc8zb (l, w, h, seg 0 (o.length) o, p, k + 1, ()) Q))))))) (req (decide (0 + o.length ≤ o.length)) (Q
 (AX.exit 2) (stS 2 Go.P8.sh8zbe (l, w, h, seg 0 (o.length) o, p, ()))))) := by kernel_rfl
abbrev sh8za : SV := S [(0, .v LD), (5, .box 0 (.v TW)), (8, .v L), (9, .own 1 TD), (10, .v I)]
abbrev sh8zae : SV := S [(9, .own 1 TD)]
abbrev lc8za : LC2 := ⟨0, sh8za, 2, fun (l, w, h, o, p, _) Q => (dlP w l ∧ h.length = 24 ∧ 0 ≤ p ∧ p ≤ 24 ∧ o.length ≤ p) ∧ ∀ o1 : List Dl, o1 = o ++ alarmsF w l h (24 - p.toNat) p → Q (.exit 0) (stS 2 sh8zae (o1, ()))⟩
theorem v8ZA (l : List Dl) (w : Wt) (h : List Int) (o : List Dl) (p : Int) (Q : AX → St → Prop) : (xloop2 Tryz.prog { nm := true, l2 := [(8, 1, lc8zb)] } 5 8 0 lc8za (fun _ => some (sh8zae, 2)) (fun (_, _, _, _, p, _) => (24 - p).toNat) (l, w, h, o, p, ()) Q) =
  (fork (decide (p < (24 : Int))) (req (decide (0 + o.length ≤ o.length)) ((Go.P8.dlP w l ∧ h.length = 24 ∧ (0 : SV.den (SV.slot 11 (SV.v Go.P8.I))) ≤ (0 : Int) ∧ (0 : Int) ≤ (↑(l.length) : SV.den (SV.slot 11 (SV.v
 Go.P8.I))) ∧ (0 : SV.den (SV.slot 10 (SV.v Go.P8.I))) ≤ p ∧ p ≤ (24 : SV.den (SV.slot 10 (SV.v Go.P8.I))) ∧ (↑(List.length (seg 0 (o.length) o)) : SV.den (SV.slot 10 (SV.v Go.P8.I))) ≤ p) ∧ ∀ (o1 : List Go.P8.Dl), (o1 =
 if Go.P8.firstRep w l h p (l.length) (0 : Int) < (↑(l.length) : Int) then seg 0 (o.length) o ++ [(p, Go.P8.firstRep w l h p (l.length) (0 : Int), Go.P8.sumOf l (Go.P8.allI w l h (Go.P8.firstRep w l h p (l.length) (0 :
 Int))))] else seg 0 (o.length) o) → req (inR IntKind.i64 (p + 1)) (req (decide (0 + o1.length ≤ o1.length)) (Int.toNat ((24 : SV.den (SV.slot 10 (SV.v Go.P8.I))) - (p + 1)) < Int.toNat ((24 : SV.den (SV.slot 10 (SV.v
 Go.P8.I))) - p) ∧ LC2.spec Go.P8.lc8za (l, w, h, seg 0 (o1.length) o1, p + 1, ()) Q)))) (req (decide (0 + o.length ≤ o.length)) (Q (AX.exit 0) (stS 2 Go.P8.sh8zae (seg 0 (o.length) o, ()))))) := by kernel_rfl
theorem v8ZF (l : List Dl) (ls : List Lk) (w : Wt) (K : dens [LD, E] → Prop) : (xfn1 Tryz.prog { f := [(22, fc22z), (16, fc16z)], l2 := [(8, 0, lc8za)] } 5 8 fcAlarms (l, ls, w, ()) K) =
  ((l.length ≤ 9223372036854775807 ∧ ls.length ≤ 9223372036854775807) ∧ ∀ (b : Bool), b = Go.P8.watOk l ls w → fork (!b) (K ([], (83 : Int), ())) (Go.P8.lksOk ls ∧ ∀ (h : List Int), Go.P8.HeadsOk ls h → (Go.P8.dlP w l ∧
 h.length = 24 ∧ (0 : SV.den (SV.slot 10 (SV.v Go.P8.I))) ≤ (0 : Int) ∧ (0 : Int) ≤ (24 : SV.den (SV.slot 10 (SV.v Go.P8.I))) ∧ (↑0 : SV.den (SV.slot 10 (SV.v Go.P8.I))) ≤ (0 : Int)) ∧ ∀ (o1 : List Go.P8.Dl), o1 = [] ++
 Go.P8.alarmsF w l h 24 (0 : Int) → req (decide (0 + o1.length ≤ o1.length)) (K (seg 0 (o1.length) o1, (0 : Int), ())))) := by kernel_rfl
/-! Reasons -/
theorem v10ZF (l : List Dl) (ls : List Lk) (w : Wt) (k : Int) (K : dens [L, E] → Prop) : (xfn1 Tryz.prog { f := [(22, fc22z), (28, fcFromZ), (16, fc16z), (23, fc23z), (24, fc24z), (25, fc25z), (29, fcLeastZ), (30, fc30z)] } 5 10 fcReas (l, ls, w, k, ()) K) =
  ((l.length ≤ 9223372036854775807 ∧ ls.length ≤ 9223372036854775807) ∧ ∀ (b : Bool), b = Go.P8.watOk l ls w → fork (!b) (K ([], (83 : Int), ())) (req (inR IntKind.i64 ((↑(l.length) : Int) - 1)) (∀ (b : Bool), b = decide
 ((0 : Int) ≤ k ∧ k ≤ (↑(l.length) : Int) - 1) → fork (!b) (K ([], (7 : Int), ())) (Go.P8.lksOk ls ∧ ∀ (h : List Int), Go.P8.HeadsOk ls h → AV.agg [AV.int IntKind.i64 (w.1), AV.int IntKind.i64 (w.2.1), AV.int IntKind.i64
 (w.2.2.1), AV.int IntKind.i64 (w.2.2.2)] = AV.agg [AV.int IntKind.i64 (w.1), AV.int IntKind.i64 (w.2.1), AV.int IntKind.i64 (w.2.2.1), AV.int IntKind.i64 (w.2.2.2)] ∧ (Go.P8.dlP w l ∧ h.length = 24 ∧ (0 : AT.den (AT.v
 Go.P8.I)) ≤ k ∧ k < (↑(l.length) : AT.den (AT.v Go.P8.I))) ∧ ∀ (r : List Int), r = Go.P8.allI w l h k → (Go.P8.wtOk w = true ∧ Go.P8.ixP l r) ∧ ∀ (b : Bool), b = (decide (w.2.1 ≤ Go.P8.sumOf l r) || decide (w.2.2.2 ≤
 (↑(List.length (List.filter (Go.P8.smallB w l) r)) : Int))) → fork (!b) (K ([], (4 : Int), ())) (Go.P8.ixP l r ∧ ∀ (r_1 : Int), r_1 = Go.P8.sumOf l r → AV.int IntKind.i64 (w.2.1) = AV.int IntKind.i64 (w.2.1) ∧ fork
 (decide (r_1 ≥ w.2.1)) ((Go.P8.ixP l r ∧ 1 ≤ r.length ∧ (1 : AT.den (AT.v Go.P8.I)) ≤ w.2.1 ∧ w.2.1 ≤ (1073741824 : AT.den (AT.v Go.P8.I)) ∧ w.2.1 ≤ Go.P8.sumOf l r) ∧ ∀ (r_2 : List Int), r_2 = Go.P8.pickF l (w.2.1) r
 (Go.P8.manyF l r (w.2.1) (r.length - 1) 1) (0 : Int) → K (r_2, (0 : Int), ())) ((Go.P8.wtOk w = true ∧ Go.P8.ixP l r) ∧ ∀ (r_2 : List Int), r_2 = List.filter (Go.P8.smallB w l) r → AV.int IntKind.i64 (w.2.2.2) = AV.int
 IntKind.i64 (w.2.2.2) ∧ req (decide ((0 : Int) ≤ (0 : Int) ∧ (0 : Int) ≤ w.2.2.2 ∧ w.2.2.2 ≤ (↑(r_2.length) : Int))) (K (List.drop 0 (List.take (Int.toNat (w.2.2.2)) r_2), (0 : Int), ())))))))) := by kernel_rfl
end Go.P8
