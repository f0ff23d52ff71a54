/- Links and heads: states and what is to be shown, reduced. No conditions. -/
import Derived.Test.YtfenogdjhadcoaaGreatWatJ
import Derived.Test.YtfenogdjhadcoaaGreatZBase
set_option linter.unusedSimpArgs false
set_option linter.unusedVariables false
set_option linter.constructorNameAsVariable false
set_option maxRecDepth 100000
set_option maxHeartbeats 2000000
namespace Go.P8
open Go.Lom Go.Proofs Go

abbrev T2 : Ty := .pr I I
abbrev L2 : Ty := .sl T2
@[reducible] def arT : Nat → Ty
  | 0 => I
  | n + 1 => .pr I (arT n)
abbrev AR : Ty := arT 23
abbrev TD : Ty := .pr I (.pr I I)
abbrev LD : Ty := .sl TD
abbrev TW : Ty := .pr I (.pr I (.pr I I))
abbrev TWt : Ty := .pr TW (.pr LD AR)
abbrev Ar : Type := AR.den
def arL : (n : Nat) → (arT n).den → List Int
  | 0, x => [x]
  | n + 1, x => x.1 :: arL n x.2
/-! are these links? -/
abbrev sh110 : SV := S [(0, .v L2), (1, .a (.clo 43 [] [])), (7, .v I), (8, .v I)]
abbrev lc110 : LC2 := ⟨0, sh110, 0, fun (l, _, m, i, _) Q => (0 ≤ i ∧ i ≤ l.length ∧ m = l.length ∧ l.length ≤ 2000) ∧ (firstBadLk (l.drop i.toNat) i = -1 → Q (.exit 0) (stS 0 .nil ())) ∧ (firstBadLk (l.drop i.toNat) i ≠ -1 → Q .ret (stS 0 shR4i (firstBadLk (l.drop i.toNat) i, ())))⟩
theorem v110L (l : List Lk) (m i : Int) (Q : AX → St → Prop) : (xloop2 Tryz.prog {} 5 64 0 lc110 ex84 (fun (l, _, _, i, _) => mL l i) (l, ((), ()), m, i, ()) Q) =
  (fork (decide (i < m)) (req (decide ((0 : Int) ≤ i ∧ i < (↑(l.length) : Int))) (fork (decide ((List.getD l (Int.toNat i) ((0 : Int), (0 : Int))).1 ≥ (0 : Int))) (fork (!decide ((List.getD l (Int.toNat i) ((0 : Int), (0 :
 Int))).1 ≤ (23 : Int))) (Q AX.ret (stS 0 Go.P8.shR4i (i, ()))) (fork (decide ((List.getD l (Int.toNat i) ((0 : Int), (0 : Int))).2 ≥ (0 : Int))) (fork (!decide ((List.getD l (Int.toNat i) ((0 : Int), (0 : Int))).2 ≤ (23 :
 Int))) (Q AX.ret (stS 0 Go.P8.shR4i (i, ()))) (fork ((List.getD l (Int.toNat i) ((0 : Int), (0 : Int))).1 == (List.getD l (Int.toNat i) ((0 : Int), (0 : Int))).2) (Q AX.ret (stS 0 Go.P8.shR4i (i, ()))) (req (inR
 IntKind.i64 (i + 1)) (Go.P8.mL l (i + 1) < Go.P8.mL l i ∧ LC2.spec Go.P8.lc110 (l, ((), ()), m, i + 1, ()) Q)))) (Q AX.ret (stS 0 Go.P8.shR4i (i, ()))))) (Q AX.ret (stS 0 Go.P8.shR4i (i, ()))))) (Q (AX.exit 0) (stS 0
 SV.nil ()))) := by kernel_rfl
abbrev fc110 : FC := ⟨[.v L2, .clo 43 [] []], [I], fun x K => x.1.length ≤ 2000 ∧ K (firstBadLk x.1 0, ())⟩
theorem v110F (l : List Lk) (K : dens [I] → Prop) : (xfn1 Tryz.prog { l2 := [(64, 0, lc110)] } 5 64 fc110 (l, ((), ()), ()) K) =
  (((0 : SV.den (SV.slot 8 (SV.v Go.P8.I))) ≤ (0 : Int) ∧ (0 : Int) ≤ (↑(l.length) : SV.den (SV.slot 8 (SV.v Go.P8.I))) ∧ (↑(l.length) : Int) = (↑(l.length) : SV.den (SV.slot 7 (SV.v Go.P8.I))) ∧ l.length ≤ 2000) ∧
 (Go.P8.firstBadLk (List.drop 0 l) (0 : Int) = (-1 : Int) → K ((-1 : Int), ())) ∧ (Go.P8.firstBadLk (List.drop 0 l) (0 : Int) ≠ (-1 : Int) → K (Go.P8.firstBadLk (List.drop 0 l) (0 : Int), ()))) := by kernel_rfl
abbrev fc64 : FC := ⟨[.v L2], [.b], fun x K => x.1.length ≤ big ∧ ∀ b : Bool, b = linkedOk x.1 → K (b, ())⟩
theorem v64F (l : List Lk) (K : dens [.b] → Prop) : (xfn1 Tryz.prog { f := [(64, fc110)] } 5 12 fc64 (l, ()) K) =
  (fork (decide ((↑(l.length) : Int) ≤ (64 : Int))) (l.length ≤ 2000 ∧ K (!decide (Go.P8.firstBadLk l (0 : Int) ≥ (0 : Int)), ())) (K (false, ()))) := by kernel_rfl
/-! the heads -/
abbrev cl95 : SV := .fn 45 .nil (A [.ref 0, .ref 1, .ref 2])
def lksOk (ls : List Lk) : Prop := ls.length ≤ 64 ∧ ∀ x ∈ ls, okLink x = true
abbrev pre95 : SV := A [.v I, .v I, .arr 0 I, .box 1 (.v L2), .box 2 cl95]
abbrev post95 : SV := A [.any, .any, .arr 0 I, .box 1 (.v L2), .box 2 cl95]
abbrev fc95 (c : Nat) : FC2 := ⟨pre95, 3, post95, 3, fun (i, h, o, ls, u, _) K => (lksOk ls ∧ o.length = 24 ∧ inP i ∧ 0 ≤ h ∧ neg o < c) ∧ ∀ o1 : List Int, Joined ls o i h o1 → K ((), (), o1, ls, u, ())⟩
abbrev sh95 : SV := S [(0, .v I), (1, .v I), (2, .arr 0 I), (3, .box 1 (.v L2)), (4, .box 2 cl95), (16, .v L2), (17, .v I), (18, .v I)]
abbrev sh95e : SV := S [(2, .arr 0 I), (3, .box 1 (.v L2)), (4, .box 2 cl95)]
abbrev lc95 (c : Nat) : LC2 := ⟨3, sh95, 3, fun (i, h, o, ls, u, l, m, p, _) Q => (lksOk ls ∧ l = ls ∧ m = ls.length ∧ (0 ≤ p ∧ p ≤ ls.length) ∧ o.length = 24 ∧ inP i ∧ 0 ≤ h ∧ 0 ≤ at' o i ∧ neg o < c) ∧
  ∀ o1 : List Int, Grew ls o i h o1 → closedBut ls o o1 (fun _ => False) → neg o1 ≤ neg o → (∀ x ∈ ls.drop p.toNat, (x.1 = i → 0 ≤ at' o1 x.2) ∧ (x.2 = i → 0 ≤ at' o1 x.1)) → Q (.exit 0) (stS 3 sh95e (o1, ls, u, ()))⟩
theorem v95L (c : Nat) (i h : Int) (o : List Int) (ls l : List Lk) (m p : Int) (Q : AX → St → Prop) : (xloop2 Tryz.prog { nm := true, f2 := [(45, fc95 c)] } 5 45 0 (lc95 c) (fun _ => some (sh95e, 3)) (fun (_, _, _, _, _, l, _, p, _) => mL l p) (i, h, o, ls, ((), (), (), (), ()), l, m, p, ()) Q) =
  (fork (decide (p < m)) (req (decide ((0 : Int) ≤ p ∧ p < (↑(l.length) : Int))) (fork ((List.getD l (Int.toNat p) ((0 : Int), (0 : Int))).1 == i) ((Go.P8.lksOk ls ∧ o.length = 24 ∧ Go.P8.inP ((List.getD l (Int.toNat p) ((0
 : Int), (0 : Int))).2) ∧ (0 : SV.den (SV.v Go.P8.I)) ≤ h ∧ Go.P8.neg o < c) ∧ ∀ (o1 : List Int), Go.P8.Joined ls o ((List.getD l (Int.toNat p) ((0 : Int), (0 : Int))).2) h o1 → fork ((List.getD l (Int.toNat p) ((0 : Int),
 (0 : Int))).2 == i) ((Go.P8.lksOk ls ∧ o1.length = 24 ∧ Go.P8.inP ((List.getD l (Int.toNat p) ((0 : Int), (0 : Int))).1) ∧ (0 : SV.den (SV.v Go.P8.I)) ≤ h ∧ Go.P8.neg o1 < c) ∧ ∀ (o1_1 : List Int), Go.P8.Joined ls o1
 ((List.getD l (Int.toNat p) ((0 : Int), (0 : Int))).1) h o1_1 → req (inR IntKind.i64 (p + 1)) (Go.P8.mL l (p + 1) < Go.P8.mL l p ∧ LC2.spec (Go.P8.lc95 c) (i, h, o1_1, ls, ((), (), (), (), ()), l, m, p + 1, ()) Q)) (req
 (inR IntKind.i64 (p + 1)) (Go.P8.mL l (p + 1) < Go.P8.mL l p ∧ LC2.spec (Go.P8.lc95 c) (i, h, o1, ls, ((), (), (), (), ()), l, m, p + 1, ()) Q))) (fork ((List.getD l (Int.toNat p) ((0 : Int), (0 : Int))).2 == i)
 ((Go.P8.lksOk ls ∧ o.length = 24 ∧ Go.P8.inP ((List.getD l (Int.toNat p) ((0 : Int), (0 : Int))).1) ∧ (0 : SV.den (SV.v Go.P8.I)) ≤ h ∧ Go.P8.neg o < c) ∧ ∀ (o1 : List Int), Go.P8.Joined ls o ((List.getD l (Int.toNat p)
 ((0 : Int), (0 : Int))).1) h o1 → req (inR IntKind.i64 (p + 1)) (Go.P8.mL l (p + 1) < Go.P8.mL l p ∧ LC2.spec (Go.P8.lc95 c) (i, h, o1, ls, ((), (), (), (), ()), l, m, p + 1, ()) Q)) (req (inR IntKind.i64 (p + 1))
 (Go.P8.mL l (p + 1) < Go.P8.mL l p ∧ LC2.spec (Go.P8.lc95 c) (i, h, o, ls, ((), (), (), (), ()), l, m, p + 1, ()) Q))))) (Q (AX.exit 0) (stS 3 Go.P8.sh95e (o, ls, ((), (), (), (), ()), ())))) := by kernel_rfl
theorem v95F (c : Nat) (i h : Int) (o : List Int) (ls : List Lk) (K : post95.den → Prop) : (xfn2 Tryz.prog { nm := true, l2 := [(45, 0, lc95 c)] } 5 45 (fc95 (c + 1)) (i, h, o, ls, ((), (), (), (), ()), ()) K) =
  (req (decide ((0 : Int) ≤ i ∧ i < (24 : Int))) (req (decide (0 + Int.toNat i < o.length)) (fork (decide (List.getD o (0 + Int.toNat i) (0 : Int) ≥ (0 : Int))) (K ((), (), o, ls, ((), (), (), (), ()), ())) (req (decide ((0
 : Int) ≤ i ∧ i < (24 : Int))) (req (decide (0 + Int.toNat i < o.length)) (∀ (ys : List (Ty.den Go.P8.I)), ys = List.set o (0 + Int.toNat i) h → (Go.P8.lksOk ls ∧ ls = ls ∧ (↑(ls.length) : Int) = (↑(ls.length) : SV.den
 (SV.slot 17 (SV.v Go.P8.I))) ∧ ((0 : SV.den (SV.slot 18 (SV.v Go.P8.I))) ≤ (0 : Int) ∧ (0 : Int) ≤ (↑(ls.length) : SV.den (SV.slot 18 (SV.v Go.P8.I)))) ∧ ys.length = 24 ∧ Go.P8.inP i ∧ (0 : SV.den (SV.slot 1 (SV.v
 Go.P8.I))) ≤ h ∧ (0 : Int) ≤ Go.P8.at' ys i ∧ Go.P8.neg ys < c) ∧ ∀ (o1 : List Int), Go.P8.Grew ls ys i h o1 → (Go.P8.closedBut ls ys o1 fun x => False) → Go.P8.neg o1 ≤ Go.P8.neg ys → (∀ (x : Ty.den Go.P8.T2), x ∈
 List.drop 0 ls → (x.1 = i → (0 : Int) ≤ Go.P8.at' o1 (x.2)) ∧ (x.2 = i → (0 : Int) ≤ Go.P8.at' o1 (x.1))) → K ((), (), o1, ls, ((), (), (), (), ()), ()))))))) := by kernel_rfl
abbrev sh65a : SV := S [(1, .box 0 (.v L2)), (2, .arr 1 I), (6, .v I)]
abbrev sh65ae : SV := S [(1, .box 0 (.v L2)), (2, .arr 1 I)]
abbrev lc65a : LC2 := ⟨0, sh65a, 2, fun (ls, o, n, _) Q => (o.length = 24 ∧ 0 ≤ n ∧ n ≤ 24) ∧ ∀ o1 : List Int, o1 = o.take n.toNat ++ List.replicate (24 - n.toNat) (-1) → Q (.exit 0) (stS 2 sh65ae (ls, o1, ()))⟩
theorem v65A (ls : List Lk) (o : List Int) (n : Int) (Q : AX → St → Prop) : (xloop2 Tryz.prog {} 5 13 0 lc65a (fun _ => some (sh65ae, 2)) (fun (_, _, n, _) => (24 - n).toNat) (ls, o, n, ()) Q) =
  (fork (decide (n < (24 : Int))) (req (decide ((0 : Int) ≤ n ∧ n < (24 : Int))) (req (decide (0 + Int.toNat n < o.length)) (req (inR IntKind.i64 (n + 1)) (Int.toNat ((24 : SV.den (SV.slot 6 (SV.v Go.P8.I))) - (n + 1)) <
 Int.toNat ((24 : SV.den (SV.slot 6 (SV.v Go.P8.I))) - n) ∧ LC2.spec Go.P8.lc65a (ls, List.set o (0 + Int.toNat n) (-1 : Int), n + 1, ()) Q)))) (Q (AX.exit 0) (stS 2 Go.P8.sh65ae (ls, o, ())))) := by kernel_rfl
abbrev cl65 : SV := .fn 45 .nil (A [.ref 1, .ref 0, .ref 2])
abbrev sh65b : SV := S [(1, .box 0 (.v L2)), (2, .arr 1 I), (4, .box 2 cl65), (13, .v I)]
abbrev lc65b : LC2 := ⟨0, sh65b, 3, fun (ls, o, u, n, _) Q => (lksOk ls ∧ TopInv ls o n ∧ 0 ≤ n ∧ n ≤ 24) ∧ ∀ o1 : List Int, HeadsOk ls o1 → Q (.exit 2) (stS 2 sh65ae (ls, o1, ()))⟩
theorem v65B (ls : List Lk) (o : List Int) (n : Int) (Q : AX → St → Prop) : (xloop2 Tryz.prog { f2 := [(45, fc95 25)] } 5 13 1 lc65b (fun _ => some (sh65ae, 2)) (fun (_, _, _, n, _) => (24 - n).toNat) (ls, o, ((), (), (), (), ()), n, ()) Q) =
  (fork (decide (n < (24 : Int))) ((Go.P8.lksOk ls ∧ o.length = 24 ∧ Go.P8.inP n ∧ (0 : SV.den (SV.v Go.P8.I)) ≤ n ∧ Go.P8.neg o < 25) ∧ ∀ (o1 : List Int), Go.P8.Joined ls o n n o1 → req (inR IntKind.i64 (n + 1)) (Int.toNat
 ((24 : SV.den (SV.slot 13 (SV.v Go.P8.I))) - (n + 1)) < Int.toNat ((24 : SV.den (SV.slot 13 (SV.v Go.P8.I))) - n) ∧ LC2.spec Go.P8.lc65b (ls, o1, ((), (), (), (), ()), n + 1, ()) Q)) (Q (AX.exit 2) (stS 2 Go.P8.sh65ae
 (ls, o, ())))) := by kernel_rfl
abbrev fc65 : FC := ⟨[.v L2], [.ar 24 I], fun x K => lksOk x.1 ∧ ∀ h : List Int, HeadsOk x.1 h → K (h, ())⟩
theorem v65F (ls : List Lk) (K : dens [.ar 24 I] → Prop) : (xfn1 Tryz.prog { l2 := [(13, 0, lc65a), (13, 1, lc65b)] } 5 13 fc65 (ls, ()) K) =
  ((24 = 24 ∧ (0 : SV.den (SV.slot 6 (SV.v Go.P8.I))) ≤ (0 : Int) ∧ (0 : Int) ≤ (24 : SV.den (SV.slot 6 (SV.v Go.P8.I)))) ∧ ∀ (o1 : List Int), o1 = List.take 0 [(0 : Int), (0 : Int), (0 : Int), (0 : Int), (0 : Int), (0 :
 Int), (0 : Int), (0 : Int), (0 : Int), (0 : Int), (0 : Int), (0 : Int), (0 : Int), (0 : Int), (0 : Int), (0 : Int), (0 : Int), (0 : Int), (0 : Int), (0 : Int), (0 : Int), (0 : Int), (0 : Int), (0 : Int)] ++ List.replicate
 24 (-1 : Ty.den Go.P8.I) → (Go.P8.lksOk ls ∧ Go.P8.TopInv ls o1 (0 : Int) ∧ (0 : SV.den (SV.slot 13 (SV.v Go.P8.I))) ≤ (0 : Int) ∧ (0 : Int) ≤ (24 : SV.den (SV.slot 13 (SV.v Go.P8.I)))) ∧ ∀ (o1 : List Int), Go.P8.HeadsOk
 ls o1 → req (decide (o1.length = 24)) (req (decide (o1.length = 24)) (req (decide (o1.length = o1.length)) (req (decide (o1.length = 24)) (req (decide (o1.length = 24)) (K (o1, ()))))))) := by kernel_rfl
abbrev fc65h : FC := ⟨[.v L2], [AR], fun x K => lksOk x.1 ∧ ∀ h : Ar, arL 23 h = headOf x.1 → HeadsOk x.1 (headOf x.1) → K (h, ())⟩
abbrev fc50w : FC2 := ⟨A [.v L], 0, A [.any, .own 0 I], 1, fun (l, _) K => l.length ≤ 100 ∧ ∀ r : List Int, r = l → K ((), r, ())⟩
theorem v50W (l : List Int) (K : fc50w.post.den → Prop) : (xfn2 Tryz.prog {} 5 14 fc50w (l, ()) K) =
  (∀ (b : Bool), (b = true → l.length = 0) → fork b (K ((), [], ())) (req (fitsN (0 + l.length) 8) (req (decide (0 + (0 + l.length) ≤ List.length ([] ++ l))) (K ((), seg 0 (0 + l.length) ([] ++ l), ()))))) := by kernel_rfl
noncomputable def linkedR (ls : List Lk) : List Int × Int := if linkedOk ls = true then (headOf ls, 0) else ([], 83)
abbrev fcLinked : FC := ⟨[.v L2], [L, E], fun x K => x.1.length ≤ big ∧ ∀ r e, (r, e) = linkedR x.1 → (linkedOk x.1 = true → HeadsOk x.1 (headOf x.1)) → K (r, e, ())⟩
theorem v31F (ls : List Lk) (K : dens [L, E] → Prop) : (xfn1 Tryz.prog { f := [(12, fc64), (13, fc65h)], f2 := [(14, fc50w)] } 5 4 fcLinked (ls, ()) K) =
  (ls.length ≤ 9223372036854775807 ∧ ∀ (b : Bool), b = Go.P8.linkedOk ls → fork (!b) (K ([], (83 : Int), ())) (Go.P8.lksOk ls ∧ ∀ (h : Go.P8.Ar), Go.P8.arL 23 h = Go.P8.headOf ls → Go.P8.HeadsOk ls (Go.P8.headOf ls) →
 List.length [h.1, h.2.1, h.2.2.1, h.2.2.2.1, h.2.2.2.2.1, h.2.2.2.2.2.1, h.2.2.2.2.2.2.1, h.2.2.2.2.2.2.2.1, h.2.2.2.2.2.2.2.2.1, h.2.2.2.2.2.2.2.2.2.1, h.2.2.2.2.2.2.2.2.2.2.1, h.2.2.2.2.2.2.2.2.2.2.2.1,
 h.2.2.2.2.2.2.2.2.2.2.2.2.1, h.2.2.2.2.2.2.2.2.2.2.2.2.2.1, h.2.2.2.2.2.2.2.2.2.2.2.2.2.2.1, h.2.2.2.2.2.2.2.2.2.2.2.2.2.2.2.1, h.2.2.2.2.2.2.2.2.2.2.2.2.2.2.2.2.1, h.2.2.2.2.2.2.2.2.2.2.2.2.2.2.2.2.2.1,
 h.2.2.2.2.2.2.2.2.2.2.2.2.2.2.2.2.2.2.1, h.2.2.2.2.2.2.2.2.2.2.2.2.2.2.2.2.2.2.2.1, h.2.2.2.2.2.2.2.2.2.2.2.2.2.2.2.2.2.2.2.2.1, h.2.2.2.2.2.2.2.2.2.2.2.2.2.2.2.2.2.2.2.2.2.1,
 h.2.2.2.2.2.2.2.2.2.2.2.2.2.2.2.2.2.2.2.2.2.2.1, h.2.2.2.2.2.2.2.2.2.2.2.2.2.2.2.2.2.2.2.2.2.2.2] ≤ 100 ∧ ∀ (r : List Int), r = [h.1, h.2.1, h.2.2.1, h.2.2.2.1, h.2.2.2.2.1, h.2.2.2.2.2.1, h.2.2.2.2.2.2.1,
 h.2.2.2.2.2.2.2.1, h.2.2.2.2.2.2.2.2.1, h.2.2.2.2.2.2.2.2.2.1, h.2.2.2.2.2.2.2.2.2.2.1, h.2.2.2.2.2.2.2.2.2.2.2.1, h.2.2.2.2.2.2.2.2.2.2.2.2.1, h.2.2.2.2.2.2.2.2.2.2.2.2.2.1, h.2.2.2.2.2.2.2.2.2.2.2.2.2.2.1,
 h.2.2.2.2.2.2.2.2.2.2.2.2.2.2.2.1, h.2.2.2.2.2.2.2.2.2.2.2.2.2.2.2.2.1, h.2.2.2.2.2.2.2.2.2.2.2.2.2.2.2.2.2.1, h.2.2.2.2.2.2.2.2.2.2.2.2.2.2.2.2.2.2.1, h.2.2.2.2.2.2.2.2.2.2.2.2.2.2.2.2.2.2.2.1,
 h.2.2.2.2.2.2.2.2.2.2.2.2.2.2.2.2.2.2.2.2.1, h.2.2.2.2.2.2.2.2.2.2.2.2.2.2.2.2.2.2.2.2.2.1, h.2.2.2.2.2.2.2.2.2.2.2.2.2.2.2.2.2.2.2.2.2.2.1, h.2.2.2.2.2.2.2.2.2.2.2.2.2.2.2.2.2.2.2.2.2.2.2] → req (decide (0 + r.length ≤
 r.length)) (K (seg 0 (r.length) r, (0 : Int), ())))) := by kernel_rfl
end Go.P8
