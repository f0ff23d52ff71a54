/- The greatest, the fewest, the reasons: states and what is to be shown, reduced. No conditions. -/
import Derived.Test.YtfenogdjhadcoaaGreatZatS2
import Derived.Test.YtfenogdjhadcoaaGreatZortY
set_option linter.unusedSimpArgs false
set_option linter.unusedVariables false
set_option linter.constructorNameAsVariable false
set_option maxRecDepth 100000
set_option maxHeartbeats 2000000
namespace Go.P8
open Go.Lom Go.Proofs Go

/-! total, of a list of amounts -/
abbrev sh48g : SV := S [(1, .a (.clo 67 [] [])), (5, .v I), (8, .v L), (9, .v I), (10, .v I)]
abbrev sh48ge : SV := S [(5, .v I)]
def amtsOk (l : List Int) : Prop := l.length ≤ 64 ∧ ∀ x ∈ l, 0 ≤ x ∧ x ≤ 1073741824
abbrev lc48g : LC2 := ⟨0, sh48g, 0, fun (_, n, l, m, i, _) Q => (amtsOk l ∧ m = l.length ∧ 0 ≤ i ∧ i ≤ l.length ∧ 0 ≤ n ∧ n ≤ i * 1073741824) ∧ ∀ r, r = n + (l.drop i.toNat).sum → Q (.exit 0) (stS 0 sh48ge (r, ()))⟩
theorem v48GL (n : Int) (l : List Int) (m i : Int) (Q : AX → St → Prop) : (xloop2 Tryz.prog {} 5 52 0 lc48g (fun _ => some (sh48ge, 0)) (fun (_, _, l, _, i, _) => mL l i) (((), ()), n, l, m, i, ()) Q) =
  (fork (decide (i < m)) (req (decide ((0 : Int) ≤ i ∧ i < (↑(l.length) : Int))) (req (inR IntKind.i64 (n + List.getD l (Int.toNat i) (0 : Int))) (req (inR IntKind.i64 (i + 1)) (Go.P8.mL l (i + 1) < Go.P8.mL l i ∧ LC2.spec
 Go.P8.lc48g (((), ()), n + List.getD l (Int.toNat i) (0 : Int), l, m, i + 1, ()) Q)))) (Q (AX.exit 0) (stS 0 Go.P8.sh48ge (n, ())))) := by kernel_rfl
abbrev fc48g : FC := ⟨[.v L, .clo 67 [] []], [I], fun x K => amtsOk x.1 ∧ ∀ r, r = x.1.sum → K (r, ())⟩
theorem v48GF (l : List Int) (K : dens [I] → Prop) : (xfn1 Tryz.prog { l2 := [(52, 0, lc48g)] } 5 52 fc48g (l, ((), ()), ()) K) =
  ((Go.P8.amtsOk l ∧ (↑(l.length) : Int) = (↑(l.length) : SV.den (SV.slot 9 (SV.v Go.P8.I))) ∧ (0 : SV.den (SV.slot 10 (SV.v Go.P8.I))) ≤ (0 : Int) ∧ (0 : Int) ≤ (↑(l.length) : SV.den (SV.slot 10 (SV.v Go.P8.I))) ∧ (0 :
 SV.den (SV.slot 5 (SV.v Go.P8.I))) ≤ (0 : Int) ∧ (0 : Int) ≤ (0 : Int) * (1073741824 : SV.den (SV.slot 5 (SV.v Go.P8.I)))) ∧ ∀ (r : SV.den (SV.slot ((5, SV.v Go.P8.I).1) ((5, SV.v Go.P8.I).2))), r = (0 : Int) + List.sum
 (List.drop 0 l) → K (r, ())) := by kernel_rfl
/-! the greatest -/
def idxOk (w : Wat) (is : List Int) : Prop := is.length ≤ 64 ∧ ∀ i ∈ is, 0 ≤ i ∧ i < w.2.1.length
abbrev sh97 : SV := S [(2, .v I), (3, .box 0 (.v TWt)), (7, .own 1 I), (10, .v L), (11, .v I), (12, .v I)]
abbrev sh97e : SV := S [(2, .v I), (7, .own 1 I)]
abbrev lc97 : LC2 := ⟨0, sh97, 2, fun (r, w, o, is, m, i, _) Q => (idxOk w is ∧ m = is.length ∧ 0 ≤ i ∧ i ≤ is.length ∧ o.length ≤ i) ∧ ∀ o1 : List Int, o1 = o ++ (is.drop i.toNat).map (amt w.2.1) → Q (.exit 0) (stS 2 sh97e (r, o1, ()))⟩
theorem v97L (r : Int) (tw : Wt) (l : List Dl) (h : Ar) (o is : List Int) (m i : Int) (Q : AX → St → Prop) : (xloop2 Tryz.prog { nm := true } 5 47 0 lc97 (fun _ => some (sh97e, 2)) (fun (_, _, _, is, _, i, _) => mL is i) (r, (tw, l, h), o, is, m, i, ()) Q) =
  (fork (decide (i < m)) (req (decide ((0 : Int) ≤ i ∧ i < (↑(is.length) : Int))) (req (decide ((0 : Int) ≤ List.getD is (Int.toNat i) (0 : Int) ∧ List.getD is (Int.toNat i) (0 : Int) < (↑(l.length) : Int))) (req (decide (0
 + o.length ≤ o.length)) (req (fitsN (o.length + 1) 8) (∀ (ys : List (Ty.den (Ty.i IntKind.i64))), ys = seg 0 (o.length) o ++ [((List.getD l (Int.toNat (List.getD is (Int.toNat i) (0 : Int))) ((0 : Int), (0 : Int), (0 :
 Int))).2).2] → req (inR IntKind.i64 (i + 1)) (req (decide (0 + (o.length + 1) ≤ ys.length)) (Go.P8.mL is (i + 1) < Go.P8.mL is i ∧ LC2.spec Go.P8.lc97 (r, (tw, l, h), seg 0 (o.length + 1) ys, is, m, i + 1, ()) Q)))))))
 (req (decide (0 + o.length ≤ o.length)) (Q (AX.exit 0) (stS 2 Go.P8.sh97e (r, seg 0 (o.length) o, ()))))) := by kernel_rfl
abbrev fcGrt : FC := ⟨[.v TWt, .v L, .v I], [I], fun x K => (watP x.1 ∧ idxOk x.1 x.2.1 ∧ 0 ≤ x.2.2.1 ∧ x.2.2.1 ≤ x.2.1.length) ∧ ∀ r, r = grt x.1.2.1 x.2.1 x.2.2.1.toNat → K (r, ())⟩
theorem v97F (tw : Wt) (l : List Dl) (h : Ar) (is : List Int) (r : Int) (K : dens [I] → Prop) : (xfn1 Tryz.prog { nm := true, f := [(52, fc48g)], f2 := [(66, fcSort)], l2 := [(47, 0, lc97)] } 5 47 fcGrt ((tw, l, h), is, r, ()) K) =
  ((Go.P8.idxOk (tw, l, h) is ∧ (↑(is.length) : Int) = (↑(is.length) : SV.den (SV.slot 11 (SV.v Go.P8.I))) ∧ (0 : SV.den (SV.slot 12 (SV.v Go.P8.I))) ≤ (0 : Int) ∧ (0 : Int) ≤ (↑(is.length) : SV.den (SV.slot 12 (SV.v
 Go.P8.I))) ∧ (↑0 : SV.den (SV.slot 12 (SV.v Go.P8.I))) ≤ (0 : Int)) ∧ ∀ (o1 : List Int), o1 = [] ++ List.map (Go.P8.amt l) (List.drop 0 is) → req (decide (o1.length = o1.length)) (o1.length < 4611686018427387904 ∧ req
 (inR IntKind.i64 ((↑(o1.length) : Int) - r)) (req (decide ((0 : Int) ≤ (↑(o1.length) : Int) - r ∧ (↑(o1.length) : Int) - r ≤ (↑(o1.length) : Int) ∧ (↑(o1.length) : Int) ≤ (↑(o1.length) : Int) ∧ o1.length ≤ o1.length))
 (req (decide (Int.toNat ((↑(o1.length) : Int) - r) + (o1.length - Int.toNat ((↑(o1.length) : Int) - r)) ≤ List.length (Go.P8.sortI o1))) (Go.P8.amtsOk (seg (Int.toNat ((↑(o1.length) : Int) - r)) (o1.length - Int.toNat
 ((↑(o1.length) : Int) - r)) (Go.P8.sortI o1)) ∧ ∀ (r_1 : Ty.den Go.P8.I), r_1 = List.sum (seg (Int.toNat ((↑(o1.length) : Int) - r)) (o1.length - Int.toNat ((↑(o1.length) : Int) - r)) (Go.P8.sortI o1)) → K (r_1, ())))))) := by kernel_rfl
/-! the fewest -/
abbrev sh71a : SV := S [(1, .v L), (2, .box 0 (.v TWt)), (5, .v I)]
abbrev lc71a : LC2 := ⟨0, sh71a, 1, fun (is, w, m, _) Q => (watP w ∧ idxOk w is ∧ 1 ≤ m ∧ m ≤ is.length ∧ w.1.2.1 ≤ grt w.2.1 is is.length) ∧ ∀ m1 : Int, m1 = manyF w.2.1 is w.1.2.1 (is.length - m).toNat m.toNat → m ≤ m1 → m1 ≤ is.length → w.1.2.1 ≤ grt w.2.1 is m1.toNat → Q (.exit 0) (stS 1 sh71a (is, w, m1, ()))⟩
theorem v71A (is : List Int) (tw : Wt) (l : List Dl) (h : Ar) (m : Int) (Q : AX → St → Prop) : (xloop2 Tryz.prog { f := [(47, fcGrt)] } 5 27 0 lc71a (fun _ => some (sh71a, 1)) (fun (is, _, m, _) => (is.length - m).toNat) (is, (tw, l, h), m, ()) Q) =
  ((Go.P8.watP (tw, l, h) ∧ Go.P8.idxOk (tw, l, h) is ∧ (0 : AT.den (AT.v Go.P8.I)) ≤ m ∧ m ≤ (↑(is.length) : AT.den (AT.v Go.P8.I))) ∧ ∀ (r : Int), r = Go.P8.grt l is (Int.toNat m) → AV.int IntKind.i64 (tw.2.1) = AV.int
 IntKind.i64 (tw.2.1) ∧ fork (decide (r < tw.2.1)) (req (inR IntKind.i64 (m + 1)) (Int.toNat ((↑(is.length) : SV.den (SV.slot 5 (SV.v Go.P8.I))) - (m + 1)) < Int.toNat ((↑(is.length) : SV.den (SV.slot 5 (SV.v Go.P8.I))) -
 m) ∧ LC2.spec Go.P8.lc71a (is, (tw, l, h), m + 1, ()) Q)) (Q (AX.exit 0) (stS 1 Go.P8.sh71a (is, (tw, l, h), m, ())))) := by kernel_rfl
abbrev sh71b : SV := S [(1, .v L), (2, .box 0 (.v TWt)), (5, .v I), (6, .own 1 I), (7, .v I), (8, .v I)]
abbrev sh71be : SV := S [(6, .own 1 I)]
abbrev lc71b : LC2 := ⟨0, sh71b, 2, fun (is, w, m, o, n, at_, _) Q => (watP w ∧ idxOk w is ∧ 0 ≤ at_ ∧ at_ ≤ is.length ∧ o.length ≤ m ∧ m - o.length ≤ is.length - at_ ∧ o.length ≤ at_ ∧ 0 ≤ n ∧ n ≤ at_ * 1073741824 ∧ w.1.2.1 ≤ n + grt w.2.1 (is.drop at_.toNat) (m - o.length).toNat) ∧
  ∀ o1 : List Int, o1 = o ++ pickF w.2.1 w.1.2.1 (is.drop at_.toNat) (m - o.length).toNat n → Q (.exit 2) (stS 2 sh71be (o1, ()))⟩
theorem v71B (is : List Int) (tw : Wt) (l : List Dl) (h : Ar) (m : Int) (o : List Int) (n a : Int) (Q : AX → St → Prop) : (xloop2 Tryz.prog { nm := true, f := [(47, fcGrt)] } 5 27 1 lc71b (fun _ => some (sh71be, 2)) (fun (is, _, _, _, _, a, _) => mL is a) (is, (tw, l, h), m, o, n, a, ()) Q) =
  (fork (decide ((↑(o.length) : Int) < m)) (req (decide ((0 : Int) ≤ a ∧ a < (↑(is.length) : Int))) (req (decide ((0 : Int) ≤ List.getD is (Int.toNat a) (0 : Int) ∧ List.getD is (Int.toNat a) (0 : Int) < (↑(l.length) :
 Int))) (req (inR IntKind.i64 (n + ((List.getD l (Int.toNat (List.getD is (Int.toNat a) (0 : Int))) ((0 : Int), (0 : Int), (0 : Int))).2).2)) (req (inR IntKind.i64 (m - (↑(o.length) : Int))) (req (inR IntKind.i64 (m -
 (↑(o.length) : Int) - 1)) (req (inR IntKind.i64 (a + 1)) (req (decide ((0 : Int) ≤ a + 1 ∧ a + 1 ≤ (↑(is.length) : Int) ∧ (↑(is.length) : Int) ≤ (↑(is.length) : Int))) (fork (decide ((↑(List.length (List.drop (Int.toNat
 (a + 1)) (List.take (is.length) is))) : Int) ≥ m - (↑(o.length) : Int) - 1)) ((Go.P8.watP (tw, l, h) ∧ Go.P8.idxOk (tw, l, h) (List.drop (Int.toNat (a + 1)) (List.take (is.length) is)) ∧ (0 : AT.den (AT.v Go.P8.I)) ≤ m -
 (↑(o.length) : Int) - 1 ∧ m - (↑(o.length) : Int) - 1 ≤ (↑(List.length (List.drop (Int.toNat (a + 1)) (List.take (is.length) is))) : AT.den (AT.v Go.P8.I))) ∧ ∀ (r : Int), r = Go.P8.grt l (List.drop (Int.toNat (a + 1))
 (List.take (is.length) is)) (Int.toNat (m - (↑(o.length) : Int) - 1)) → AV.int IntKind.i64 (tw.2.1) = AV.int IntKind.i64 (tw.2.1) ∧ req (inR IntKind.i64 (n + ((List.getD l (Int.toNat (List.getD is (Int.toNat a) (0 :
 Int))) ((0 : Int), (0 : Int), (0 : Int))).2).2 + r)) (fork (decide (n + ((List.getD l (Int.toNat (List.getD is (Int.toNat a) (0 : Int))) ((0 : Int), (0 : Int), (0 : Int))).2).2 + r ≥ tw.2.1)) (req (decide ((0 : Int) ≤ a ∧
 a < (↑(is.length) : Int))) (req (decide (0 + o.length ≤ o.length)) (req (fitsN (o.length + 1) 8) (∀ (ys : List (Ty.den (Ty.i IntKind.i64))), ys = seg 0 (o.length) o ++ [List.getD is (Int.toNat a) (0 : Int)] → req (inR
 IntKind.i64 (a + 1)) (req (decide (0 + (o.length + 1) ≤ ys.length)) (Go.P8.mL is (a + 1) < Go.P8.mL is a ∧ LC2.spec Go.P8.lc71b (is, (tw, l, h), m, seg 0 (o.length + 1) ys, n + ((List.getD l (Int.toNat (List.getD is
 (Int.toNat a) (0 : Int))) ((0 : Int), (0 : Int), (0 : Int))).2).2, a + 1, ()) Q)))))) (req (inR IntKind.i64 (a + 1)) (req (decide (0 + o.length ≤ o.length)) (Go.P8.mL is (a + 1) < Go.P8.mL is a ∧ LC2.spec Go.P8.lc71b (is,
 (tw, l, h), m, seg 0 (o.length) o, n, a + 1, ()) Q))))) (req (inR IntKind.i64 (a + 1)) (req (decide (0 + o.length ≤ o.length)) (Go.P8.mL is (a + 1) < Go.P8.mL is a ∧ LC2.spec Go.P8.lc71b (is, (tw, l, h), m, seg 0
 (o.length) o, n, a + 1, ()) Q))))))))))) (req (decide (0 + o.length ≤ o.length)) (Q (AX.exit 2) (stS 2 Go.P8.sh71be (seg 0 (o.length) o, ()))))) := by kernel_rfl
abbrev fcFst : FC := ⟨[.v TWt, .v L], [L], fun x K => (watP x.1 ∧ idxOk x.1 x.2.1 ∧ 1 ≤ x.2.1.length ∧ x.1.1.2.1 ≤ sumOf x.1.2.1 x.2.1) ∧ ∀ r : List Int, r = fewestF x.1.1 x.1.2.1 x.2.1 → K (r, ())⟩
theorem v71F (tw : Wt) (l : List Dl) (h : Ar) (is : List Int) (K : dens [L] → Prop) : (xfn1 Tryz.prog { l2 := [(27, 0, lc71a), (27, 1, lc71b)] } 5 27 fcFst ((tw, l, h), is, ()) K) =
  ((Go.P8.watP (tw, l, h) ∧ Go.P8.idxOk (tw, l, h) is ∧ (1 : SV.den (SV.slot 5 (SV.v Go.P8.I))) ≤ (1 : Int) ∧ (1 : Int) ≤ (↑(is.length) : SV.den (SV.slot 5 (SV.v Go.P8.I))) ∧ tw.2.1 ≤ Go.P8.grt l is (is.length)) ∧ ∀ (m1 :
 Int), m1 = (↑(Go.P8.manyF l is (tw.2.1) (Int.toNat ((↑(is.length) : SV.den (SV.slot 5 (SV.v Go.P8.I))) - 1)) 1) : Int) → (1 : Int) ≤ m1 → m1 ≤ (↑(is.length) : Int) → tw.2.1 ≤ Go.P8.grt l is (Int.toNat m1) → (Go.P8.watP
 (tw, l, h) ∧ Go.P8.idxOk (tw, l, h) is ∧ (0 : SV.den (SV.slot 8 (SV.v Go.P8.I))) ≤ (0 : Int) ∧ (0 : Int) ≤ (↑(is.length) : SV.den (SV.slot 8 (SV.v Go.P8.I))) ∧ (↑0 : SV.den (SV.slot 5 (SV.v Go.P8.I))) ≤ m1 ∧ m1 - (↑0 :
 SV.den (SV.slot 5 (SV.v Go.P8.I))) ≤ (↑(is.length) : SV.den (SV.slot 5 (SV.v Go.P8.I))) - 0 ∧ (↑0 : SV.den (SV.slot 8 (SV.v Go.P8.I))) ≤ (0 : Int) ∧ (0 : SV.den (SV.slot 7 (SV.v Go.P8.I))) ≤ (0 : Int) ∧ (0 : Int) ≤ (0 :
 Int) * (1073741824 : SV.den (SV.slot 7 (SV.v Go.P8.I))) ∧ tw.2.1 ≤ (0 : Int) + Go.P8.grt l (List.drop 0 is) (Int.toNat (m1 - (↑0 : SV.den (SV.slot 5 (SV.v Go.P8.I)))))) ∧ ∀ (o1 : List Int), o1 = [] ++ Go.P8.pickF l
 (tw.2.1) (List.drop 0 is) (Int.toNat (m1 - (↑0 : SV.den (SV.slot 5 (SV.v Go.P8.I))))) (0 : Int) → req (decide (0 + o1.length ≤ o1.length)) (K (seg 0 (o1.length) o1, ()))) := by kernel_rfl
abbrev fcReas : FC := ⟨[.v LD, .v L2, .v TW, .v I], [L, E], fun x K => (x.1.length ≤ big ∧ x.2.1.length ≤ big) ∧ ∀ (r : List Int) (e : Int), (r, e) = reasonsF x.1 x.2.1 x.2.2.1 x.2.2.2.1 → K (r, e, ())⟩
theorem v34F (l : List Dl) (ls : List Lk) (w : Wt) (k : Int) (K : dens [L, E] → Prop) : (xfn1 Tryz.prog { f := [(17, fcWatch), (20, fcRep), (21, fcSums), (27, fcFst)], f2 := [(14, fc50w)] } 5 9 fcReas (l, ls, w, k, ()) K) =
  ((l.length ≤ 9223372036854775807 ∧ ls.length ≤ 9223372036854775807) ∧ (Go.P8.watOk l ls w = true → ∀ (h : Go.P8.Ar), Go.P8.arL 23 h = Go.P8.headOf ls → Go.P8.HeadsOk ls (Go.P8.headOf ls) → req (inR IntKind.i64
 ((↑(l.length) : Int) - 1)) (fork (decide (k ≥ (0 : Int))) (fork (!decide (k ≤ (↑(l.length) : Int) - 1)) (K ([], (7 : Int), ())) ((Go.P8.watP (w, l, h) ∧ (0 : AT.den (AT.v Go.P8.I)) ≤ k ∧ k < (↑(l.length) : AT.den (AT.v
 Go.P8.I))) ∧ ∀ (b : Bool), b = Go.P8.repB w l (Go.P8.arL 23 h) k → fork (!b) (K ([], (4 : Int), ())) ((Go.P8.watP (w, l, h) ∧ (0 : AT.den (AT.v Go.P8.I)) ≤ k ∧ k < (↑(l.length) : AT.den (AT.v Go.P8.I))) ∧ ∀ (a s : List
 Int) (n : Int), a = Go.P8.allI w l (Go.P8.arL 23 h) k → s = Go.P8.smallI w l (Go.P8.arL 23 h) k → n = Go.P8.sumOf l (Go.P8.allI w l (Go.P8.arL 23 h) k) → fork (decide (n < w.2.1)) (req (decide ((0 : Int) ≤ (0 : Int) ∧ (0
 : Int) ≤ w.2.2.2 ∧ w.2.2.2 ≤ (↑(s.length) : Int))) (List.length (List.drop 0 (List.take (Int.toNat (w.2.2.2)) s)) ≤ 100 ∧ ∀ (r : List Int), r = List.drop 0 (List.take (Int.toNat (w.2.2.2)) s) → req (decide (0 + r.length ≤
 r.length)) (K (seg 0 (r.length) r, (0 : Int), ())))) ((Go.P8.watP (w, l, h) ∧ Go.P8.idxOk (w, l, h) a ∧ 1 ≤ a.length ∧ w.2.1 ≤ Go.P8.sumOf l a) ∧ ∀ (r : List Int), r = Go.P8.fewestF w l a → K (r, (0 : Int), ()))))) (K
 ([], (7 : Int), ())))) ∧ (Go.P8.watOk l ls w = false → K ([], (83 : Ty.den Go.P8.E), ()))) := by kernel_rfl
end Go.P8
