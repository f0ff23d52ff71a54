/- TillCut: states and what is to be shown, reduced. No conditions. -/
import Derived.Test.YtfenogdjhadcoaaCutL
import Derived.Test.YtfenogdjhadcoaaAlarmS
set_option linter.unusedSimpArgs false
set_option linter.unusedVariables false
set_option linter.constructorNameAsVariable false
set_option maxRecDepth 100000
set_option maxHeartbeats 2000000
namespace Go.P8
open Go.Lom Go.Proofs Go

abbrev A4 : Ty := .pr I (.pr I (.pr I I))
abbrev fcCut : FC2 := ⟨A [.v LD, .v I, .v I], 0, A [.any, .any, .any, .own 0 TD], 1, fun (l, k, part, _) K => (l.length ≤ 64 ∧ 0 ≤ k ∧ k < l.length ∧ 0 ≤ part ∧ part ≤ 1073741824 ∧ 0 ≤ (l.getD k.toNat dl0).2.2 ∧ (l.getD k.toNat dl0).2.2 ≤ 1073741824) ∧ ∀ r : List Dl, r = cutF l k.toNat part → K ((), (), (), r, ())⟩
theorem v35F (l : List Dl) (k part : Int) (K : fcCut.post.den → Prop) : (xfn2 Try.prog { nm := true } 5 35 fcCut (l, k, part, ()) K) =
  (req (decide ((0 : Int) ≤ (0 : Int) ∧ (0 : Int) ≤ k ∧ k ≤ (↑(l.length) : Int))) (req (fitsN (0 + List.length (List.drop 0 (List.take (Int.toNat k) l))) 24) (∀ (ys : List (Ty.den (Ty.pr (Ty.i IntKind.i64) (Ty.pr (Ty.i
 IntKind.i64) (Ty.i IntKind.i64))))), ys = [] ++ List.drop 0 (List.take (Int.toNat k) l) → req (decide ((0 : Int) ≤ k ∧ k < (↑(l.length) : Int))) (req (decide ((0 : Int) ≤ k ∧ k < (↑(l.length) : Int))) (AV.agg [AV.int
 IntKind.i64 ((List.getD l (Int.toNat k) ((0 : Int), (0 : Int), (0 : Int))).1), AV.int IntKind.i64 ((List.getD l (Int.toNat k) ((0 : Int), (0 : Int), (0 : Int))).2.1), AV.int IntKind.i64 ((List.getD l (Int.toNat k) ((0 :
 Int), (0 : Int), (0 : Int))).2.2)] = AV.agg [AV.int IntKind.i64 ((List.getD l (Int.toNat k) ((0 : Int), (0 : Int), (0 : Int))).1), AV.int IntKind.i64 ((List.getD l (Int.toNat k) ((0 : Int), (0 : Int), (0 : Int))).2.1),
 AV.int IntKind.i64 ((List.getD l (Int.toNat k) ((0 : Int), (0 : Int), (0 : Int))).2.2)] ∧ AV.agg [AV.int IntKind.i64 ((List.getD l (Int.toNat k) ((0 : Int), (0 : Int), (0 : Int))).1), AV.int IntKind.i64 ((List.getD l
 (Int.toNat k) ((0 : Int), (0 : Int), (0 : Int))).2.1), AV.int IntKind.i64 ((List.getD l (Int.toNat k) ((0 : Int), (0 : Int), (0 : Int))).2.2)] = AV.agg [AV.int IntKind.i64 ((List.getD l (Int.toNat k) ((0 : Int), (0 :
 Int), (0 : Int))).1), AV.int IntKind.i64 ((List.getD l (Int.toNat k) ((0 : Int), (0 : Int), (0 : Int))).2.1), AV.int IntKind.i64 ((List.getD l (Int.toNat k) ((0 : Int), (0 : Int), (0 : Int))).2.2)] ∧ AV.agg [AV.int
 IntKind.i64 ((List.getD l (Int.toNat k) ((0 : Int), (0 : Int), (0 : Int))).1), AV.int IntKind.i64 ((List.getD l (Int.toNat k) ((0 : Int), (0 : Int), (0 : Int))).2.1), AV.int IntKind.i64 ((List.getD l (Int.toNat k) ((0 :
 Int), (0 : Int), (0 : Int))).2.2)] = AV.agg [AV.int IntKind.i64 ((List.getD l (Int.toNat k) ((0 : Int), (0 : Int), (0 : Int))).1), AV.int IntKind.i64 ((List.getD l (Int.toNat k) ((0 : Int), (0 : Int), (0 : Int))).2.1),
 AV.int IntKind.i64 ((List.getD l (Int.toNat k) ((0 : Int), (0 : Int), (0 : Int))).2.2)] ∧ AV.agg [AV.int IntKind.i64 ((List.getD l (Int.toNat k) ((0 : Int), (0 : Int), (0 : Int))).1), AV.int IntKind.i64 ((List.getD l
 (Int.toNat k) ((0 : Int), (0 : Int), (0 : Int))).2.1), AV.int IntKind.i64 ((List.getD l (Int.toNat k) ((0 : Int), (0 : Int), (0 : Int))).2.2)] = AV.agg [AV.int IntKind.i64 ((List.getD l (Int.toNat k) ((0 : Int), (0 :
 Int), (0 : Int))).1), AV.int IntKind.i64 ((List.getD l (Int.toNat k) ((0 : Int), (0 : Int), (0 : Int))).2.1), AV.int IntKind.i64 ((List.getD l (Int.toNat k) ((0 : Int), (0 : Int), (0 : Int))).2.2)] ∧ AV.agg [AV.int
 IntKind.i64 ((List.getD l (Int.toNat k) ((0 : Int), (0 : Int), (0 : Int))).1), AV.int IntKind.i64 ((List.getD l (Int.toNat k) ((0 : Int), (0 : Int), (0 : Int))).2.1), AV.int IntKind.i64 ((List.getD l (Int.toNat k) ((0 :
 Int), (0 : Int), (0 : Int))).2.2)] = AV.agg [AV.int IntKind.i64 ((List.getD l (Int.toNat k) ((0 : Int), (0 : Int), (0 : Int))).1), AV.int IntKind.i64 ((List.getD l (Int.toNat k) ((0 : Int), (0 : Int), (0 : Int))).2.1),
 AV.int IntKind.i64 ((List.getD l (Int.toNat k) ((0 : Int), (0 : Int), (0 : Int))).2.2)] ∧ req (inR IntKind.i64 ((List.getD l (Int.toNat k) ((0 : Int), (0 : Int), (0 : Int))).2.2 - part)) (AV.int IntKind.i64 ((List.getD l
 (Int.toNat k) ((0 : Int), (0 : Int), (0 : Int))).2.2) = AV.int IntKind.i64 ((List.getD l (Int.toNat k) ((0 : Int), (0 : Int), (0 : Int))).2.2) ∧ req (inR IntKind.i64 (k + 1)) (req (decide ((0 : Int) ≤ k + 1 ∧ k + 1 ≤
 (↑(l.length) : Int) ∧ (↑(l.length) : Int) ≤ (↑(l.length) : Int))) (req (decide (0 + (0 + List.length (List.drop 0 (List.take (Int.toNat k) l))) ≤ ys.length)) (req (fitsN (0 + List.length (List.drop 0 (List.take (Int.toNat
 k) l)) + 2) 24) (∀ (ys_1 : List (Ty.den (Ty.pr (Ty.i IntKind.i64) (Ty.pr (Ty.i IntKind.i64) (Ty.i IntKind.i64))))), ys_1 = seg 0 (0 + List.length (List.drop 0 (List.take (Int.toNat k) l))) ys ++ [((List.getD l (Int.toNat
 k) ((0 : Int), (0 : Int), (0 : Int))).1, (List.getD l (Int.toNat k) ((0 : Int), (0 : Int), (0 : Int))).2.1, part), ((List.getD l (Int.toNat k) ((0 : Int), (0 : Int), (0 : Int))).1, (List.getD l (Int.toNat k) ((0 : Int),
 (0 : Int), (0 : Int))).2.1, (List.getD l (Int.toNat k) ((0 : Int), (0 : Int), (0 : Int))).2.2 - part)] → req (decide (0 + (0 + List.length (List.drop 0 (List.take (Int.toNat k) l)) + 2) ≤ ys_1.length)) (req (fitsN (0 +
 List.length (List.drop 0 (List.take (Int.toNat k) l)) + 2 + List.length (List.drop (Int.toNat (k + 1)) (List.take (l.length) l))) 24) (∀ (ys : List (Ty.den (Ty.pr (Ty.i IntKind.i64) (Ty.pr (Ty.i IntKind.i64) (Ty.i
 IntKind.i64))))), ys = seg 0 (0 + List.length (List.drop 0 (List.take (Int.toNat k) l)) + 2) ys_1 ++ List.drop (Int.toNat (k + 1)) (List.take (l.length) l) → req (decide (0 + (0 + List.length (List.drop 0 (List.take
 (Int.toNat k) l)) + 2 + List.length (List.drop (Int.toNat (k + 1)) (List.take (l.length) l))) ≤ ys.length)) (K ((), (), (), seg 0 (0 + List.length (List.drop 0 (List.take (Int.toNat k) l)) + 2 + List.length (List.drop
 (Int.toNat (k + 1)) (List.take (l.length) l))) ys, ())))))))))))))) := by kernel_rfl
abbrev fc7 : FC := ⟨[.v TRep, .v A4], [.b], fun x K => (x.1.1.length ≤ big ∧ x.1.2.1.length ≤ big) ∧ K (true, ())⟩
theorem v7F (l : List Dl) (ls : List Lk) (w : Wt) (n : Int × Int × Int × Int) (K : dens [.b] → Prop) : (xfn1 Try.prog { nm := true, f := [(34, fcReas), (33, fcRing), (32, fcAlarms), (31, fcLinked), (26, fcFrom'), (19, fcWorks)], f2 := [(35, fcCut)] } 5 7 fc7 ((l, ls, w), n, ()) K) =
  (ls.length ≤ 9223372036854775807 ∧ ∀ (r : List Int) (e : Int), (r, e) = Go.P8.linkedR ls → (Go.P8.linkedOk ls = true → Go.P8.HeadsOk ls (Go.P8.headOf ls)) → (l.length ≤ 9223372036854775807 ∧ ls.length ≤
 9223372036854775807) ∧ ∀ (r_1 : List Go.P8.Dl) (e_1 : Int), (r_1, e_1) = Go.P8.alarmsR l ls (w.1, w.2.1, w.2.1, w.2.2.2) → fork (e != (0 : Int)) (fork (e_1 == (0 : Int)) (fork (e == (0 : Int)) (fork ((↑(r.length) : Int)
 == (24 : Int)) (K (true, ())) (fork (e == e_1) (K (true, ())) (K (false, ())))) (fork (e == e_1) (K (true, ())) (K (false, ())))) (fork (e_1 == (83 : Int)) (fork (e == (0 : Int)) (fork ((↑(r.length) : Int) == (24 : Int))
 (K (true, ())) (fork (e == e_1) (K (true, ())) (K (false, ())))) (fork (e == e_1) (K (true, ())) (K (false, ())))) (K (false, ())))) (fork (e_1 != (0 : Int)) (fork (e_1 == (0 : Int)) (fork (e == (0 : Int)) (fork
 ((↑(r.length) : Int) == (24 : Int)) (K (true, ())) (fork (e == e_1) (K (true, ())) (K (false, ())))) (fork (e == e_1) (K (true, ())) (K (false, ())))) (fork (e_1 == (83 : Int)) (fork (e == (0 : Int)) (fork ((↑(r.length) :
 Int) == (24 : Int)) (K (true, ())) (fork (e == e_1) (K (true, ())) (K (false, ())))) (fork (e == e_1) (K (true, ())) (K (false, ())))) (K (false, ())))) (fork ((↑(l.length) : Int) == (0 : Int)) (fork (e_1 == (0 : Int))
 (fork (e == (0 : Int)) (fork ((↑(r.length) : Int) == (24 : Int)) (K (true, ())) (fork (e == e_1) (K (true, ())) (K (false, ())))) (fork (e == e_1) (K (true, ())) (K (false, ())))) (fork (e_1 == (83 : Int)) (fork (e == (0
 : Int)) (fork ((↑(r.length) : Int) == (24 : Int)) (K (true, ())) (fork (e == e_1) (K (true, ())) (K (false, ())))) (fork (e == e_1) (K (true, ())) (K (false, ())))) (K (false, ())))) (fork ((↑(r.length) : Int) != (24 :
 Int)) (fork (e_1 == (0 : Int)) (fork (e == (0 : Int)) (fork ((↑(r.length) : Int) == (24 : Int)) (K (true, ())) (fork (e == e_1) (K (true, ())) (K (false, ())))) (fork (e == e_1) (K (true, ())) (K (false, ())))) (fork (e_1
 == (83 : Int)) (fork (e == (0 : Int)) (fork ((↑(r.length) : Int) == (24 : Int)) (K (true, ())) (fork (e == e_1) (K (true, ())) (K (false, ())))) (fork (e == e_1) (K (true, ())) (K (false, ())))) (K (false, ())))) (((0 :
 AT.den (AT.v Go.P8.I)) < (↑(l.length) : Int) ∧ (↑(l.length) : Int) ≤ (4611686018427387904 : AT.den (AT.v Go.P8.I))) ∧ ∀ (r_2 : Int), r_2 = n.1 % (↑(l.length) : Int) → AV.int IntKind.i64 (↑(l.length) : Int) = AV.int
 IntKind.i64 (↑(l.length) : Int) ∧ AV.rl Go.P8.TD l = AV.rl Go.P8.TD l ∧ AV.int IntKind.i64 (n.2.2.2) = AV.int IntKind.i64 (n.2.2.2) ∧ ((0 : AT.den (AT.v Go.P8.I)) < (↑(l.length) : Int) ∧ (↑(l.length) : Int) ≤
 (4611686018427387904 : AT.den (AT.v Go.P8.I))) ∧ ∀ (r_3 : Int), r_3 = n.2.2.2 % (↑(l.length) : Int) → (l.length ≤ 9223372036854775807 ∧ ls.length ≤ 9223372036854775807) ∧ ∀ (r_4 : List Int) (e : Int), (r_4, e) =
 Go.P8.reasonsF l ls (w.1, w.2.1, w.2.1, w.2.2.2) r_3 → fork (e != (0 : Int)) (fork (e == (4 : Int)) (K (true, ())) (K (false, ()))) (req (decide ((0 : Int) ≤ r_2 ∧ r_2 < (↑(l.length) : Int))) (fork (decide ((List.getD l
 (Int.toNat r_2) ((0 : Int), (0 : Int), (0 : Int))).2.2 > (1 : Int))) (fork (decide ((↑(l.length) : Int) < (64 : Int))) (fork (decide (r_3 ≥ r_2)) (req (inR IntKind.i64 (r_3 + 1)) (req (decide ((0 : Int) ≤ r_2 ∧ r_2 <
 (↑(l.length) : Int))) (req (inR IntKind.i64 ((List.getD l (Int.toNat r_2) ((0 : Int), (0 : Int), (0 : Int))).2.2 - 1)) (((0 : AT.den (AT.v Go.P8.I)) < (List.getD l (Int.toNat r_2) ((0 : Int), (0 : Int), (0 : Int))).2.2 -
 1 ∧ (List.getD l (Int.toNat r_2) ((0 : Int), (0 : Int), (0 : Int))).2.2 - 1 ≤ (4611686018427387904 : AT.den (AT.v Go.P8.I))) ∧ ∀ (r_5 : Int), r_5 = n.2.1 % ((List.getD l (Int.toNat r_2) ((0 : Int), (0 : Int), (0 :
 Int))).2.2 - 1) → AV.agg [AV.int IntKind.i64 (w.1), AV.int IntKind.i64 (w.2.1), AV.int IntKind.i64 (w.2.1), AV.int IntKind.i64 (w.2.2.2)] = AV.agg [AV.int IntKind.i64 (w.1), AV.int IntKind.i64 (w.2.1), AV.int IntKind.i64
 (w.2.1), AV.int IntKind.i64 (w.2.2.2)] ∧ AV.rl Go.P8.T2 ls = AV.rl Go.P8.T2 ls ∧ AV.rl Go.P8.TD l = AV.rl Go.P8.TD l ∧ req (inR IntKind.i64 ((1 : Int) + r_5)) ((l.length ≤ 64 ∧ (0 : SV.den (SV.v Go.P8.I)) ≤ r_2 ∧ r_2 <
 (↑(l.length) : SV.den (SV.v Go.P8.I)) ∧ (0 : SV.den (SV.v Go.P8.I)) ≤ (1 : Int) + r_5 ∧ (1 : Int) + r_5 ≤ (1073741824 : SV.den (SV.v Go.P8.I)) ∧ (0 : Ty.den Go.P8.I) ≤ (List.getD l (Int.toNat r_2) Go.P8.dl0).2.2 ∧
 (List.getD l (Int.toNat r_2) Go.P8.dl0).2.2 ≤ (1073741824 : Ty.den Go.P8.I)) ∧ ∀ (r_6 : List Go.P8.Dl), r_6 = Go.P8.cutF l (Int.toNat r_2) ((1 : Int) + r_5) → AV.agg [AV.int IntKind.i64 (w.1), AV.int IntKind.i64 (w.2.1),
 AV.int IntKind.i64 (w.2.1), AV.int IntKind.i64 (w.2.2.2)] = AV.agg [AV.int IntKind.i64 (w.1), AV.int IntKind.i64 (w.2.1), AV.int IntKind.i64 (w.2.1), AV.int IntKind.i64 (w.2.2.2)] ∧ AV.rl Go.P8.T2 ls = AV.rl Go.P8.T2 ls ∧
 req (decide (0 + r_6.length ≤ r_6.length)) ((List.length (seg 0 (r_6.length) r_6) ≤ 9223372036854775807 ∧ ls.length ≤ 9223372036854775807) ∧ ∀ (r_7 : List Int) (e : Int), (r_7, e) = Go.P8.reasonsF (seg 0 (r_6.length) r_6)
 ls (w.1, w.2.1, w.2.1, w.2.2.2) (r_3 + 1) → fork (e != (0 : Int)) (K (false, ())) (((0 : AT.den (AT.v Go.P8.I)) < (24 : Int) ∧ (24 : Int) ≤ (4611686018427387904 : AT.den (AT.v Go.P8.I))) ∧ ∀ (r_8 : Int), r_8 = n.2.2.1 %
 (24 : Int) → req (decide ((0 : Int) ≤ r_2 ∧ r_2 < (↑(l.length) : Int))) (∀ (b : Bool), b = decide ((0 : Int) ≤ (List.getD l (Int.toNat r_2) ((0 : Int), (0 : Int), (0 : Int))).2.1 ∧ (List.getD l (Int.toNat r_2) ((0 : Int),
 (0 : Int), (0 : Int))).2.1 ≤ (23 : Int)) → fork (!b) (K (true, ())) (req (decide ((0 : Int) ≤ r_8 ∧ r_8 < (↑(r.length) : Int))) (req (decide ((0 : Int) ≤ r_2 ∧ r_2 < (↑(l.length) : Int))) (req (decide ((0 : Int) ≤
 (List.getD l (Int.toNat r_2) ((0 : Int), (0 : Int), (0 : Int))).2.1 ∧ (List.getD l (Int.toNat r_2) ((0 : Int), (0 : Int), (0 : Int))).2.1 < (↑(r.length) : Int))) (fork (List.getD r (Int.toNat r_8) (0 : Int) != List.getD r
 (Int.toNat ((List.getD l (Int.toNat r_2) ((0 : Int), (0 : Int), (0 : Int))).2.1)) (0 : Int)) (K (true, ())) (req (fitsN (0 + l.length) 24) (∀ (ys : List (Ty.den (Ty.pr (Ty.i IntKind.i64) (Ty.pr (Ty.i IntKind.i64) (Ty.i
 IntKind.i64))))), ys = [] ++ l → req (decide ((0 : Int) ≤ r_2 ∧ r_2 < (↑(0 + l.length) : Int))) (req (decide (Int.toNat r_2 < ys.length)) (∀ (ys_1 : List (Ty.den (Ty.pr (Ty.i IntKind.i64) (Ty.pr (Ty.i IntKind.i64) (Ty.i
 IntKind.i64))))), ys_1 = List.set ys (Int.toNat r_2) ((List.getD ys (Int.toNat r_2) ((0 : Int), (0 : Int), (0 : Int))).1, r_8, (List.getD ys (Int.toNat r_2) ((0 : Int), (0 : Int), (0 : Int))).2.2) → req (decide (0 + (0 +
 l.length) ≤ ys_1.length)) ((List.length (seg 0 (0 + l.length) ys_1) ≤ 9223372036854775807 ∧ ls.length ≤ 9223372036854775807) ∧ ∀ (r : List Int) (e : Int), (r, e) = Go.P8.reasonsF (seg 0 (0 + l.length) ys_1) ls (w.1,
 w.2.1, w.2.1, w.2.2.2) r_3 → fork (e == (0 : Int)) (K (true, ())) (K (false, ()))))))))))))))))))) (req (decide ((0 : Int) ≤ r_2 ∧ r_2 < (↑(l.length) : Int))) (req (inR IntKind.i64 ((List.getD l (Int.toNat r_2) ((0 :
 Int), (0 : Int), (0 : Int))).2.2 - 1)) (((0 : AT.den (AT.v Go.P8.I)) < (List.getD l (Int.toNat r_2) ((0 : Int), (0 : Int), (0 : Int))).2.2 - 1 ∧ (List.getD l (Int.toNat r_2) ((0 : Int), (0 : Int), (0 : Int))).2.2 - 1 ≤
 (4611686018427387904 : AT.den (AT.v Go.P8.I))) ∧ ∀ (r_5 : Int), r_5 = n.2.1 % ((List.getD l (Int.toNat r_2) ((0 : Int), (0 : Int), (0 : Int))).2.2 - 1) → AV.agg [AV.int IntKind.i64 (w.1), AV.int IntKind.i64 (w.2.1),
 AV.int IntKind.i64 (w.2.1), AV.int IntKind.i64 (w.2.2.2)] = AV.agg [AV.int IntKind.i64 (w.1), AV.int IntKind.i64 (w.2.1), AV.int IntKind.i64 (w.2.1), AV.int IntKind.i64 (w.2.2.2)] ∧ AV.rl Go.P8.T2 ls = AV.rl Go.P8.T2 ls ∧
 AV.rl Go.P8.TD l = AV.rl Go.P8.TD l ∧ req (inR IntKind.i64 ((1 : Int) + r_5)) ((l.length ≤ 64 ∧ (0 : SV.den (SV.v Go.P8.I)) ≤ r_2 ∧ r_2 < (↑(l.length) : SV.den (SV.v Go.P8.I)) ∧ (0 : SV.den (SV.v Go.P8.I)) ≤ (1 : Int) +
 r_5 ∧ (1 : Int) + r_5 ≤ (1073741824 : SV.den (SV.v Go.P8.I)) ∧ (0 : Ty.den Go.P8.I) ≤ (List.getD l (Int.toNat r_2) Go.P8.dl0).2.2 ∧ (List.getD l (Int.toNat r_2) Go.P8.dl0).2.2 ≤ (1073741824 : Ty.den Go.P8.I)) ∧ ∀ (r_6 :
 List Go.P8.Dl), r_6 = Go.P8.cutF l (Int.toNat r_2) ((1 : Int) + r_5) → AV.agg [AV.int IntKind.i64 (w.1), AV.int IntKind.i64 (w.2.1), AV.int IntKind.i64 (w.2.1), AV.int IntKind.i64 (w.2.2.2)] = AV.agg [AV.int IntKind.i64
 (w.1), AV.int IntKind.i64 (w.2.1), AV.int IntKind.i64 (w.2.1), AV.int IntKind.i64 (w.2.2.2)] ∧ AV.rl Go.P8.T2 ls = AV.rl Go.P8.T2 ls ∧ req (decide (0 + r_6.length ≤ r_6.length)) ((List.length (seg 0 (r_6.length) r_6) ≤
 9223372036854775807 ∧ ls.length ≤ 9223372036854775807) ∧ ∀ (r_7 : List Int) (e : Int), (r_7, e) = Go.P8.reasonsF (seg 0 (r_6.length) r_6) ls (w.1, w.2.1, w.2.1, w.2.2.2) r_3 → fork (e != (0 : Int)) (K (false, ())) (((0 :
 AT.den (AT.v Go.P8.I)) < (24 : Int) ∧ (24 : Int) ≤ (4611686018427387904 : AT.den (AT.v Go.P8.I))) ∧ ∀ (r_8 : Int), r_8 = n.2.2.1 % (24 : Int) → req (decide ((0 : Int) ≤ r_2 ∧ r_2 < (↑(l.length) : Int))) (∀ (b : Bool), b =
 decide ((0 : Int) ≤ (List.getD l (Int.toNat r_2) ((0 : Int), (0 : Int), (0 : Int))).2.1 ∧ (List.getD l (Int.toNat r_2) ((0 : Int), (0 : Int), (0 : Int))).2.1 ≤ (23 : Int)) → fork (!b) (K (true, ())) (req (decide ((0 :
 Int) ≤ r_8 ∧ r_8 < (↑(r.length) : Int))) (req (decide ((0 : Int) ≤ r_2 ∧ r_2 < (↑(l.length) : Int))) (req (decide ((0 : Int) ≤ (List.getD l (Int.toNat r_2) ((0 : Int), (0 : Int), (0 : Int))).2.1 ∧ (List.getD l (Int.toNat
 r_2) ((0 : Int), (0 : Int), (0 : Int))).2.1 < (↑(r.length) : Int))) (fork (List.getD r (Int.toNat r_8) (0 : Int) != List.getD r (Int.toNat ((List.getD l (Int.toNat r_2) ((0 : Int), (0 : Int), (0 : Int))).2.1)) (0 : Int))
 (K (true, ())) (req (fitsN (0 + l.length) 24) (∀ (ys : List (Ty.den (Ty.pr (Ty.i IntKind.i64) (Ty.pr (Ty.i IntKind.i64) (Ty.i IntKind.i64))))), ys = [] ++ l → req (decide ((0 : Int) ≤ r_2 ∧ r_2 < (↑(0 + l.length) : Int)))
 (req (decide (Int.toNat r_2 < ys.length)) (∀ (ys_1 : List (Ty.den (Ty.pr (Ty.i IntKind.i64) (Ty.pr (Ty.i IntKind.i64) (Ty.i IntKind.i64))))), ys_1 = List.set ys (Int.toNat r_2) ((List.getD ys (Int.toNat r_2) ((0 : Int),
 (0 : Int), (0 : Int))).1, r_8, (List.getD ys (Int.toNat r_2) ((0 : Int), (0 : Int), (0 : Int))).2.2) → req (decide (0 + (0 + l.length) ≤ ys_1.length)) ((List.length (seg 0 (0 + l.length) ys_1) ≤ 9223372036854775807 ∧
 ls.length ≤ 9223372036854775807) ∧ ∀ (r : List Int) (e : Int), (r, e) = Go.P8.reasonsF (seg 0 (0 + l.length) ys_1) ls (w.1, w.2.1, w.2.1, w.2.2.2) r_3 → fork (e == (0 : Int)) (K (true, ())) (K (false,
 ()))))))))))))))))))) (((0 : AT.den (AT.v Go.P8.I)) < (24 : Int) ∧ (24 : Int) ≤ (4611686018427387904 : AT.den (AT.v Go.P8.I))) ∧ ∀ (r_5 : Int), r_5 = n.2.2.1 % (24 : Int) → req (decide ((0 : Int) ≤ r_2 ∧ r_2 <
 (↑(l.length) : Int))) (∀ (b : Bool), b = decide ((0 : Int) ≤ (List.getD l (Int.toNat r_2) ((0 : Int), (0 : Int), (0 : Int))).2.1 ∧ (List.getD l (Int.toNat r_2) ((0 : Int), (0 : Int), (0 : Int))).2.1 ≤ (23 : Int)) → fork
 (!b) (K (true, ())) (req (decide ((0 : Int) ≤ r_5 ∧ r_5 < (↑(r.length) : Int))) (req (decide ((0 : Int) ≤ r_2 ∧ r_2 < (↑(l.length) : Int))) (req (decide ((0 : Int) ≤ (List.getD l (Int.toNat r_2) ((0 : Int), (0 : Int), (0
 : Int))).2.1 ∧ (List.getD l (Int.toNat r_2) ((0 : Int), (0 : Int), (0 : Int))).2.1 < (↑(r.length) : Int))) (fork (List.getD r (Int.toNat r_5) (0 : Int) != List.getD r (Int.toNat ((List.getD l (Int.toNat r_2) ((0 : Int),
 (0 : Int), (0 : Int))).2.1)) (0 : Int)) (K (true, ())) (req (fitsN (0 + l.length) 24) (∀ (ys : List (Ty.den (Ty.pr (Ty.i IntKind.i64) (Ty.pr (Ty.i IntKind.i64) (Ty.i IntKind.i64))))), ys = [] ++ l → req (decide ((0 : Int)
 ≤ r_2 ∧ r_2 < (↑(0 + l.length) : Int))) (req (decide (Int.toNat r_2 < ys.length)) (∀ (ys_1 : List (Ty.den (Ty.pr (Ty.i IntKind.i64) (Ty.pr (Ty.i IntKind.i64) (Ty.i IntKind.i64))))), ys_1 = List.set ys (Int.toNat r_2)
 ((List.getD ys (Int.toNat r_2) ((0 : Int), (0 : Int), (0 : Int))).1, r_5, (List.getD ys (Int.toNat r_2) ((0 : Int), (0 : Int), (0 : Int))).2.2) → req (decide (0 + (0 + l.length) ≤ ys_1.length)) ((List.length (seg 0 (0 +
 l.length) ys_1) ≤ 9223372036854775807 ∧ ls.length ≤ 9223372036854775807) ∧ ∀ (r : List Int) (e : Int), (r, e) = Go.P8.reasonsF (seg 0 (0 + l.length) ys_1) ls (w.1, w.2.1, w.2.1, w.2.2.2) r_3 → fork (e == (0 : Int)) (K
 (true, ())) (K (false, ())))))))))))))) (((0 : AT.den (AT.v Go.P8.I)) < (24 : Int) ∧ (24 : Int) ≤ (4611686018427387904 : AT.den (AT.v Go.P8.I))) ∧ ∀ (r_5 : Int), r_5 = n.2.2.1 % (24 : Int) → req (decide ((0 : Int) ≤ r_2 ∧
 r_2 < (↑(l.length) : Int))) (∀ (b : Bool), b = decide ((0 : Int) ≤ (List.getD l (Int.toNat r_2) ((0 : Int), (0 : Int), (0 : Int))).2.1 ∧ (List.getD l (Int.toNat r_2) ((0 : Int), (0 : Int), (0 : Int))).2.1 ≤ (23 : Int)) →
 fork (!b) (K (true, ())) (req (decide ((0 : Int) ≤ r_5 ∧ r_5 < (↑(r.length) : Int))) (req (decide ((0 : Int) ≤ r_2 ∧ r_2 < (↑(l.length) : Int))) (req (decide ((0 : Int) ≤ (List.getD l (Int.toNat r_2) ((0 : Int), (0 :
 Int), (0 : Int))).2.1 ∧ (List.getD l (Int.toNat r_2) ((0 : Int), (0 : Int), (0 : Int))).2.1 < (↑(r.length) : Int))) (fork (List.getD r (Int.toNat r_5) (0 : Int) != List.getD r (Int.toNat ((List.getD l (Int.toNat r_2) ((0
 : Int), (0 : Int), (0 : Int))).2.1)) (0 : Int)) (K (true, ())) (req (fitsN (0 + l.length) 24) (∀ (ys : List (Ty.den (Ty.pr (Ty.i IntKind.i64) (Ty.pr (Ty.i IntKind.i64) (Ty.i IntKind.i64))))), ys = [] ++ l → req (decide
 ((0 : Int) ≤ r_2 ∧ r_2 < (↑(0 + l.length) : Int))) (req (decide (Int.toNat r_2 < ys.length)) (∀ (ys_1 : List (Ty.den (Ty.pr (Ty.i IntKind.i64) (Ty.pr (Ty.i IntKind.i64) (Ty.i IntKind.i64))))), ys_1 = List.set ys
 (Int.toNat r_2) ((List.getD ys (Int.toNat r_2) ((0 : Int), (0 : Int), (0 : Int))).1, r_5, (List.getD ys (Int.toNat r_2) ((0 : Int), (0 : Int), (0 : Int))).2.2) → req (decide (0 + (0 + l.length) ≤ ys_1.length))
 ((List.length (seg 0 (0 + l.length) ys_1) ≤ 9223372036854775807 ∧ ls.length ≤ 9223372036854775807) ∧ ∀ (r : List Int) (e : Int), (r, e) = Go.P8.reasonsF (seg 0 (0 + l.length) ys_1) ls (w.1, w.2.1, w.2.1, w.2.2.2) r_3 →
 fork (e == (0 : Int)) (K (true, ())) (K (false, ())))))))))))))))))))) := by kernel_rfl
end Go.P8
