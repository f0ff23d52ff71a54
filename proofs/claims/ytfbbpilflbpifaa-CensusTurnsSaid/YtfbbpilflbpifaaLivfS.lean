/- Turns: the reference's lives: states and what is to be shown, reduced. No conditions. -/
import Derived.Test.YtfbbpilflbpifaaLiveS
set_option linter.unusedSimpArgs false
set_option linter.unusedVariables false
set_option linter.constructorNameAsVariable false
set_option maxRecDepth 100000
set_option maxHeartbeats 2000000
namespace Go.P10
open Go.Lom Go.Proofs Go
def agesN (ps : List Int) (n : Int) : List Int := agesR ps (List.replicate ps.length 0) n ps.length
abbrev sh86a : SV := S [(0, .v L), (2, .box 0 (.v TLv)), (3, .v I), (4, .v I)]
abbrev sh86ae : SV := S [(0, .v L), (2, .box 0 (.v TLv)), (3, .v I)]
abbrev lc86a : LC2 := ⟨0, sh86a, 1, fun (ps, z, m, i, _) Q => (okPs ps ∧ (0 ≤ i ∧ i ≤ ps.length) ∧ m = prodP (ps.take i.toNat)) ∧ ∀ m', m' = prodP ps → Q (.exit 0) (stS 1 sh86ae (ps, z, m', ()))⟩
theorem v86A (ps : List Int) (z : Lv) (m i : Int) (Q : AX → St → Prop) : (xloop2 Try.prog { nm := true } 5 86 0 lc86a (fun _ => some (sh86ae, 1)) (fun (ps, _, _, i, _) => mL ps i) (ps, z, m, i, ()) Q) =
  (fork (decide (i < (↑(ps.length) : Int))) (req (decide ((0 : Int) ≤ i ∧ i < (↑(ps.length) : Int))) (req (inR IntKind.i64 (m * List.getD ps (Int.toNat i) (0 : Int))) (req (inR IntKind.i64 (i + 1)) (mL ps (i + 1) < mL ps i
 ∧ LC2.spec lc86a (ps, z, m * List.getD ps (Int.toNat i) (0 : Int), i + 1, ()) Q)))) (Q (AX.exit 0) (stS 1 sh86ae (ps, z, m, ())))) := by kernel_rfl
abbrev bx : SV := .box 1 (A [.v L, .lst 2 I])
abbrev Bx := List Int × List Int × Unit
def moreB (ps L : List Int) (t : Int) (k : Nat) : Bool := L.getD k 0 == t && goesB (ps, L) (agesN ps k) t
def someL (ps L : List Int) (t : Int) (n k : Nat) : List Int := ((List.range' n k).filter (moreB ps L t)).map fun j : Nat => (j : Int)
abbrev sh86b : SV := S [(0, .v L), (2, .box 0 (.v TLv)), (3, .v I), (5, bx), (6, .v I), (7, .sls 2 1), (8, .own 3 I), (9, .v I)]
abbrev sh86be : SV := S [(0, .v L), (2, .box 0 (.v TLv)), (3, .v I), (5, bx), (6, .v I), (7, .sls 2 1), (8, .own 3 I)]
abbrev okL86 (ps : List Int) (m : Int) (x : Bx) (k : Nat) : Prop := okPs ps ∧ m = prodP ps ∧ x.1 = ps ∧ (x.2.1.length : Int) = prodP ps ∧ k = x.2.1.length
abbrev lc86b : LC2 := ⟨0, sh86b, 4, fun (ps, z, m, x, t, k, o, n, _) Q => (okL86 ps m x k ∧ (0 ≤ t ∧ t ≤ 40000) ∧ (0 ≤ n ∧ n ≤ m) ∧ (o.length : Int) ≤ n) ∧ ∀ o' : List Int, o' = o ++ someL ps x.2.1 t n.toNat (m - n).toNat → Q (.exit 4) (stS 4 sh86be (ps, z, m, x, t, k, o', ()))⟩
theorem v86B (ps : List Int) (z : Lv) (m : Int) (qs L : List Int) (t : Int) (k : Nat) (o : List Int) (n : Int) (Q : AX → St → Prop) : (xloop2 Try.prog { nm := true, f := [(100, fc100), (101, fc101)] } 5 86 2 lc86b (fun _ => some (sh86be, 4)) (fun (_, _, m, _, _, _, _, n, _) => (m - n).toNat) (ps, z, m, (qs, L, ()), t, k, o, n, ()) Q) =
  (fork (decide (n < m)) (req (decide ((0 : Int) ≤ n ∧ n < (↑k : Int))) (req (decide (Int.toNat n + 0 < L.length)) (fork (List.getD L (Int.toNat n + 0) (0 : Int) == t) ((okPs ps ∧ (0 : AT.den (AT.v I)) ≤ n ∧ n ≤ (40000 :
 AT.den (AT.v I))) ∧ ∀ (r : List Int), r = agesR ps (List.replicate (ps.length) (0 : Int)) n (ps.length) → AV.agg [AV.rl I qs, AV.sl 2 1 0 (L.length) none] = AV.agg [AV.rl I qs, AV.sl 2 1 0 (L.length) none] ∧ req (decide
 (0 + L.length ≤ L.length)) ((okLv (qs, seg 0 (L.length) L) ∧ vldL qs r) ∧ ∀ (b : Bool), b = goesB (qs, seg 0 (L.length) L) r t → fork b (req (decide (0 + o.length ≤ o.length)) (req (fitsN (o.length + 1) 8) (∀ (ys : List
 (Ty.den (Ty.i IntKind.i64))), ys = seg 0 (o.length) o ++ [n] → req (inR IntKind.i64 (n + 1)) (req (decide (L.length = L.length)) (req (decide (0 + (o.length + 1) ≤ ys.length)) (Int.toNat (m - (n + 1)) < Int.toNat (m - n)
 ∧ LC2.spec lc86b (ps, z, m, (qs, L, ()), t, k, seg 0 (o.length + 1) ys, n + 1, ()) Q)))))) (req (inR IntKind.i64 (n + 1)) (req (decide (L.length = L.length)) (req (decide (0 + o.length ≤ o.length)) (Int.toNat (m - (n +
 1)) < Int.toNat (m - n) ∧ LC2.spec lc86b (ps, z, m, (qs, L, ()), t, k, seg 0 (o.length) o, n + 1, ()) Q)))))) (req (inR IntKind.i64 (n + 1)) (req (decide (L.length = L.length)) (req (decide (0 + o.length ≤ o.length))
 (Int.toNat (m - (n + 1)) < Int.toNat (m - n) ∧ LC2.spec lc86b (ps, z, m, (qs, L, ()), t, k, seg 0 (o.length) o, n + 1, ()) Q))))))) (req (decide (L.length = L.length)) (req (decide (0 + o.length ≤ o.length)) (Q (AX.exit
 4) (stS 4 sh86be (ps, z, m, (qs, L, ()), t, k, seg 0 (o.length) o, ())))))) := by kernel_rfl
abbrev sh86c : SV := S [(0, .v L), (2, .box 0 (.v TLv)), (3, .v I), (5, bx), (6, .v I), (7, .sls 2 1), (8, .own 3 I), (10, .v I), (11, .v I)]
abbrev sh86ce : SV := S [(0, .v L), (2, .box 0 (.v TLv)), (3, .v I), (5, bx), (6, .v I), (7, .sls 2 1), (8, .own 3 I), (10, .v I)]
abbrev lc86c : LC2 := ⟨0, sh86c, 4, fun (ps, z, m, x, t, k, o, c, n, _) Q => (okL86 ps m x k ∧ (0 ≤ n ∧ n ≤ m) ∧ (0 ≤ c ∧ c ≤ n)) ∧ ∀ c', c' = c + ((x.2.1.drop n.toNat).countP (· == t) : Nat) → Q (.exit 6) (stS 4 sh86ce (ps, z, m, x, t, k, o, c', ()))⟩
theorem v86C (ps : List Int) (z : Lv) (m : Int) (qs L : List Int) (t : Int) (k : Nat) (o : List Int) (c n : Int) (Q : AX → St → Prop) : (xloop2 Try.prog { nm := true } 5 86 3 lc86c (fun _ => some (sh86ce, 4)) (fun (_, _, m, _, _, _, _, _, n, _) => (m - n).toNat) (ps, z, m, (qs, L, ()), t, k, o, c, n, ()) Q) =
  (fork (decide (n < m)) (req (decide ((0 : Int) ≤ n ∧ n < (↑k : Int))) (req (decide (Int.toNat n + 0 < L.length)) (fork (List.getD L (Int.toNat n + 0) (0 : Int) == t) (req (inR IntKind.i64 (c + 1)) (req (inR IntKind.i64 (n
 + 1)) (req (decide (L.length = L.length)) (req (decide (0 + o.length ≤ o.length)) (Int.toNat (m - (n + 1)) < Int.toNat (m - n) ∧ LC2.spec lc86c (ps, z, m, (qs, L, ()), t, k, seg 0 (o.length) o, c + 1, n + 1, ()) Q)))))
 (req (inR IntKind.i64 (n + 1)) (req (decide (L.length = L.length)) (req (decide (0 + o.length ≤ o.length)) (Int.toNat (m - (n + 1)) < Int.toNat (m - n) ∧ LC2.spec lc86c (ps, z, m, (qs, L, ()), t, k, seg 0 (o.length) o, c,
 n + 1, ()) Q))))))) (req (decide (L.length = L.length)) (req (decide (0 + o.length ≤ o.length)) (Q (AX.exit 6) (stS 4 sh86ce (ps, z, m, (qs, L, ()), t, k, seg 0 (o.length) o, c, ())))))) := by kernel_rfl
abbrev sh86d : SV := S [(0, .v L), (2, .box 0 (.v TLv)), (3, .v I), (5, bx), (6, .v I), (7, .sls 2 1), (8, .own 3 I), (10, .v I), (12, .v I)]
abbrev lc86d : LC2 := ⟨0, sh86d, 4, fun (ps, z, m, x, t, k, o, c, i, _) Q => (okL86 ps m x k ∧ (0 ≤ t ∧ t ≤ 40000) ∧ (0 ≤ i ∧ i ≤ o.length) ∧ o.length ≤ 40000 ∧ ∀ n ∈ o, 0 ≤ n ∧ n < m) ∧ ∀ L' : List Int, L' = (o.drop i.toNat).foldl (fun l n => l.set n.toNat (t + 1)) x.2.1 → Q (.exit 8) (stS 4 sh86ce (ps, z, m, (x.1, L', ()), t, k, o, c, ()))⟩
theorem v86D (ps : List Int) (z : Lv) (m : Int) (qs L : List Int) (t : Int) (k : Nat) (o : List Int) (c i : Int) (Q : AX → St → Prop) : (xloop2 Try.prog { nm := true } 5 86 4 lc86d (fun _ => some (sh86ce, 4)) (fun (_, _, _, _, _, _, o, _, i, _) => mL o i) (ps, z, m, (qs, L, ()), t, k, o, c, i, ()) Q) =
  (fork (decide (i < (↑(o.length) : Int))) (req (decide ((0 : Int) ≤ i ∧ i < (↑(o.length) : Int))) (req (decide (Int.toNat i + 0 < o.length)) (req (inR IntKind.i64 (t + 1)) (req (decide ((0 : Int) ≤ List.getD o (Int.toNat i
 + 0) (0 : Int) ∧ List.getD o (Int.toNat i + 0) (0 : Int) < (↑k : Int))) (req (decide (Int.toNat (List.getD o (Int.toNat i + 0) (0 : Int)) + 0 < L.length)) (∀ (ys : List (Ty.den I)), ys = List.set L (Int.toNat (List.getD o
 (Int.toNat i + 0) (0 : Int)) + 0) (t + 1) → req (inR IntKind.i64 (i + 1)) (req (decide (L.length = ys.length)) (req (decide (0 + o.length ≤ o.length)) (mL (seg 0 (o.length) o) (i + 1) < mL o i ∧ LC2.spec lc86d (ps, z, m,
 (qs, ys, ()), t, k, seg 0 (o.length) o, c, i + 1, ()) Q))))))))) (req (decide (L.length = L.length)) (req (decide (0 + o.length ≤ o.length)) (Q (AX.exit 8) (stS 4 sh86ce (ps, z, m, (qs, L, ()), t, k, seg 0 (o.length) o,
 c, ())))))) := by kernel_rfl
abbrev sh86m : SV := S [(0, .v L), (2, .box 0 (.v TLv)), (3, .v I), (5, bx), (6, .v I)]
abbrev sh86r : SV := S [(2, .box 0 (A [.v L, .lst 1 I]))]
structure LiI (ps L : List Int) (t : Nat) : Prop where
  len : (L.length : Int) = prodP ps
  at' : ∀ n : Nat, n < L.length → 0 ≤ L.getD n 0 ∧ L.getD n 0 ≤ t ∧ ∀ k : Nat, k ≤ t → (aliveB ps k (toA (agesN ps n)) = true ↔ (k : Int) ≤ L.getD n 0)
  few : t + L.countP (· == (t : Int)) ≤ L.length
structure LiF (ps L : List Int) (t : Nat) : Prop where
  len : (L.length : Int) = prodP ps
  ever : ∀ n : Nat, n < L.length → Ever ps (toA (agesN ps n)) → L.getD n 0 = t + 1
  not : ∀ n : Nat, n < L.length → ¬ Ever ps (toA (agesN ps n)) → 0 ≤ L.getD n 0 ∧ L.getD n 0 < t ∧ ∀ k : Nat, aliveB ps k (toA (agesN ps n)) = true ↔ (k : Int) ≤ L.getD n 0
abbrev lc86 : LC2 := ⟨0, sh86m, 3, fun (ps, z, m, x, t, _) Q => (okPs ps ∧ m = prodP ps ∧ x.1 = ps ∧ 0 ≤ t ∧ LiI ps x.2.1 t.toNat) ∧ ∀ L' t', LiF ps L' t' → Q .ret (stS 2 sh86r ((ps, L', ()), ()))⟩
def ex86 : Ex2
  | .ret => some (sh86r, 2)
  | _ => none
theorem v86M (ps : List Int) (z : Lv) (m : Int) (qs L : List Int) (t : Int) (Q : AX → St → Prop) : (xloop2 Try.prog { nm := true, l2 := [(86, 2, lc86b), (86, 3, lc86c), (86, 4, lc86d)] } 5 86 1 lc86 ex86 (fun (_, _, _, x, t, _) => x.2.1.length - t.toNat) (ps, z, m, (qs, L, ()), t, ()) Q) =
  (req (decide (L.length = L.length)) ((okL86 ps m (qs, L, ()) (L.length) ∧ ((0 : SV.den (SV.slot 6 (SV.v I))) ≤ t ∧ t ≤ (40000 : SV.den (SV.slot 6 (SV.v I)))) ∧ ((0 : SV.den (SV.slot 9 (SV.v I))) ≤ (0 : Int) ∧ (0 : Int) ≤
 m) ∧ (0 : Int) ≤ (0 : Int)) ∧ ∀ (o' : List Int), o' = [] ++ someL ps L t 0 (Int.toNat (m - 0)) → req (decide (L.length = L.length)) (req (decide (0 + o'.length ≤ o'.length)) ((okL86 ps m (qs, L, ()) (L.length) ∧ ((0 :
 SV.den (SV.slot 11 (SV.v I))) ≤ (0 : Int) ∧ (0 : Int) ≤ m) ∧ (0 : SV.den (SV.slot 10 (SV.v I))) ≤ (0 : Int) ∧ (0 : Int) ≤ (0 : Int)) ∧ ∀ (c' : SV.den (SV.slot ((10, SV.v I).1) ((10, SV.v I).2))), c' = (0 : Int) +
 (↑(List.countP (fun x => x == t) (List.drop 0 L)) : SV.den (SV.slot 10 (SV.v I))) → req (decide (L.length = L.length)) (req (decide (0 + List.length (seg 0 (o'.length) o') ≤ List.length (seg 0 (o'.length) o'))) ((okL86 ps
 m (qs, L, ()) (L.length) ∧ ((0 : SV.den (SV.slot 6 (SV.v I))) ≤ t ∧ t ≤ (40000 : SV.den (SV.slot 6 (SV.v I)))) ∧ ((0 : SV.den (SV.slot 12 (SV.v I))) ≤ (0 : Int) ∧ (0 : Int) ≤ (↑(List.length (seg 0 (List.length (seg 0
 (o'.length) o')) (seg 0 (o'.length) o'))) : SV.den (SV.slot 12 (SV.v I)))) ∧ List.length (seg 0 (List.length (seg 0 (o'.length) o')) (seg 0 (o'.length) o')) ≤ 40000 ∧ ∀ (n : Ty.den I), n ∈ seg 0 (List.length (seg 0
 (o'.length) o')) (seg 0 (o'.length) o') → (0 : Ty.den I) ≤ n ∧ n < m) ∧ ∀ (L' : List Int), L' = List.foldl (fun l n => List.set l (Int.toNat n) (t + (1 : Ty.den I))) L (List.drop 0 (seg 0 (List.length (seg 0 (o'.length)
 o')) (seg 0 (o'.length) o'))) → fork ((↑(List.length (seg 0 (List.length (seg 0 (o'.length) o')) (seg 0 (o'.length) o'))) : Int) == c') (req (decide (L'.length = L'.length)) (Q AX.ret (stS 2 sh86r ((qs, L', ()), ()))))
 (req (inR IntKind.i64 (t + 1)) (req (decide (L'.length = L'.length)) (L'.length - Int.toNat (t + 1) < L.length - Int.toNat t ∧ LC2.spec lc86 (ps, z, m, (qs, L', ()), t + 1, ()) Q))))))))) := by kernel_rfl
abbrev fc86 : FC := ⟨[.v L], [TLv], fun x K => okPs x.1 ∧ ∀ L' t', LiF x.1 L' t' → K ((x.1, L'), ())⟩
theorem v86F (ps : List Int) (K : dens [TLv] → Prop) : (xfn1 Try.prog { nm := true, l2 := [(86, 0, lc86a), (86, 1, lc86)] } 5 86 fc86 (ps, ()) K) =
  ((okPs ps ∧ ((0 : SV.den (SV.slot 4 (SV.v I))) ≤ (0 : Int) ∧ (0 : Int) ≤ (↑(ps.length) : SV.den (SV.slot 4 (SV.v I)))) ∧ (1 : Int) = prodP (List.take 0 ps)) ∧ ∀ (m' : Int), m' = prodP ps → req (decide ((0 : Int) ≤ m' ∧ m'
 ≤ m' ∧ (8 : Int) * m' ≤ (281474976710656 : Int) ∧ m' ≤ (281474976710656 : Int))) (req (decide (Int.toNat m' = List.length (List.replicate (Int.toNat m') (0 : Int)))) ((okPs ps ∧ m' = prodP ps ∧ ps = ps ∧ (0 : SV.den
 (SV.slot 6 (SV.v I))) ≤ (0 : Int) ∧ LiI ps (List.replicate (Int.toNat m') (0 : Int)) 0) ∧ ∀ (L' : List Int) (t' : Nat), LiF ps L' t' → req (decide (0 + L'.length ≤ L'.length)) (K ((ps, seg 0 (L'.length) L'), ()))))) := by kernel_rfl
end Go.P10
