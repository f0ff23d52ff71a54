/- Turns: what a day does, and all that can be reached: states and what is to be shown, reduced. No conditions. -/
import Derived.Test.YtfbbpilflbpifaaLibD
import Derived.KernelRfl
import Derived.Test.YtfbbpilflbpifaaProg
set_option linter.unusedSimpArgs false
set_option linter.unusedVariables false
set_option linter.constructorNameAsVariable false
set_option maxRecDepth 100000
set_option maxHeartbeats 2000000
namespace Go.P10
open Go.Lom Go.Proofs Go
@[reducible] def S : List (Nat × SV) → SV
  | [] => .nil
  | p :: l => .cons (.slot p.1 p.2) (S l)
@[reducible] def A : List SV → SV
  | [] => .nil
  | p :: l => .cons p (A l)
abbrev I : Ty := .i .i64
abbrev E : Ty := .i .i64
abbrev L : Ty := .sl I
abbrev P5 : Ty := .pr I (.pr I (.pr I (.pr I I)))
abbrev big : Nat := 9223372036854775807
abbrev Ag : Type := Int × Int × Int × Int × Int
def mL {α : Type} (l : List α) (i : Int) : Nat := (l.length - i).toNat
abbrev LQ := AX → St → Prop
def ofA (a : Ag) : List Int := [a.1, a.2.1, a.2.2.1, a.2.2.2.1, a.2.2.2.2]
def toA (l : List Int) : Ag := (l.getD 0 0, l.getD 1 0, l.getD 2 0, l.getD 3 0, l.getD 4 0)
def stepI (x i r : Int) : Int := if i = r then 0 else x + 1
def goA (r : Int) : List Int → Int → List Int → List Int × Bool
  | [], _, xs => (xs, true)
  | p :: ps, i, xs => if stepI (xs.getD i.toNat 0) i r ≥ p then (xs.set i.toNat (stepI (xs.getD i.toNat 0) i r), false) else goA r ps (i + 1) (xs.set i.toNat (stepI (xs.getD i.toNat 0) i r))
abbrev sh82 : SV := S [(2, .v I), (4, .arr 0 I), (6, .arr 1 I), (7, .v .b), (11, .v L), (12, .v I), (13, .v I)]
abbrev sh82e : SV := S [(4, .arr 0 I), (6, .arr 1 I)]
abbrev sh82r : SV := S [(6, .arr 1 I), (7, .v .b)]
def ex82 : Ex2
  | .ret => some (sh82r, 2)
  | _ => some (sh82e, 2)
def boxL (xs : List Int) : Prop := xs.length = 5 ∧ ∀ x ∈ xs, 0 ≤ x ∧ x ≤ 100
abbrev lc82 : LC2 := ⟨0, sh82, 2, fun (r, xs, os, b, l, m, i, _) Q => (0 ≤ i ∧ i ≤ l.length ∧ m = l.length ∧ l.length ≤ 5 ∧ boxL xs ∧ os.length = 5 ∧ ∀ p ∈ l, p ≤ 100) ∧
  ∀ ys ok, (ys, ok) = goA r (l.drop i.toNat) i xs → (ok = true → Q (.exit 0) (stS 2 sh82e (ys, os, ()))) ∧ (ok = false → Q .ret (stS 2 sh82r (ys, false, ())))⟩
theorem v82L (r : Int) (xs os : List Int) (b : Bool) (l : List Int) (m i : Int) (Q : AX → St → Prop) : (xloop2 Try.prog { nm := true } 5 82 0 lc82 ex82 (fun (_, _, _, _, l, _, i, _) => mL l i) (r, xs, os, b, l, m, i, ()) Q) =
  (fork (decide (i < m)) (req (decide ((0 : Int) ≤ i ∧ i < (↑(l.length) : Int))) (req (decide ((0 : Int) ≤ i ∧ i < (5 : Int))) (req (decide (0 + Int.toNat i < xs.length)) (req (inR IntKind.i64 (List.getD xs (0 + Int.toNat
 i) (0 : Int) + 1)) (req (decide ((0 : Int) ≤ i ∧ i < (5 : Int))) (req (decide (0 + Int.toNat i < xs.length)) (∀ (ys : List (Ty.den I)), ys = List.set xs (0 + Int.toNat i) (List.getD xs (0 + Int.toNat i) (0 : Int) + 1) →
 fork (i == r) (req (decide ((0 : Int) ≤ i ∧ i < (5 : Int))) (req (decide (0 + Int.toNat i < ys.length)) (∀ (ys_1 : List (Ty.den I)), ys_1 = List.set ys (0 + Int.toNat i) (0 : Int) → req (decide ((0 : Int) ≤ i ∧ i < (5 :
 Int))) (req (decide (0 + Int.toNat i < ys_1.length)) (fork (decide (List.getD ys_1 (0 + Int.toNat i) (0 : Int) ≥ List.getD l (Int.toNat i) (0 : Int))) (req (decide (ys_1.length = 5)) (req (decide (ys_1.length = 5)) (req
 (decide (ys_1.length = os.length)) (∀ (ys : List (Ty.den I)), ys = ys_1 → Q AX.ret (stS 2 sh82r (ys, false, ())))))) (req (inR IntKind.i64 (i + 1)) (mL l (i + 1) < mL l i ∧ LC2.spec lc82 (r, ys_1, os, b, l, m, i + 1, ())
 Q))))))) (req (decide ((0 : Int) ≤ i ∧ i < (5 : Int))) (req (decide (0 + Int.toNat i < ys.length)) (fork (decide (List.getD ys (0 + Int.toNat i) (0 : Int) ≥ List.getD l (Int.toNat i) (0 : Int))) (req (decide (ys.length =
 5)) (req (decide (ys.length = 5)) (req (decide (ys.length = os.length)) (∀ (ys_1 : List (Ty.den I)), ys_1 = ys → Q AX.ret (stS 2 sh82r (ys_1, false, ())))))) (req (inR IntKind.i64 (i + 1)) (mL l (i + 1) < mL l i ∧
 LC2.spec lc82 (r, ys, os, b, l, m, i + 1, ()) Q)))))))))))) (Q (AX.exit 0) (stS 2 sh82e (xs, os, ())))) := by kernel_rfl
abbrev TN : Ty := .mp P5 (.sl P5)
abbrev NL : Type := List (Ag × List Ag)
abbrev KL : Type := List (Ag × Int)
def okPs (ps : List Int) : Prop := (1 ≤ ps.length ∧ ps.length ≤ 5) ∧ ∀ p ∈ ps, 1 ≤ p ∧ p ≤ 8
def nextR (ps : List Int) (a : Ag) (r : Nat) : Option Ag := if (goA (r : Int) ps 0 (ofA a)).2 = true then some (toA (goA (r : Int) ps 0 (ofA a)).1) else none
def sucL (ps : List Int) (a : Ag) (r : Nat) : List Ag := (List.range' r (ps.length - r)).filterMap (nextR ps a)
def keysN {β : Type} (l : List (Ag × β)) : List Ag := l.map (·.1)
def validA (ps : List Int) (a : Ag) : Prop := ∀ k : Nat, k < 5 → 0 ≤ (ofA a).getD k 0 ∧ ((ofA a).getD k 0 < ps.getD k 1)
structure InvN (ps : List Int) (nl : NL) : Prop where
  nd : (keysN nl).Nodup
  ok : ∀ e ∈ nl, validA ps e.1 ∧ e.2 = sucL ps e.1 0
structure InvQ (ps : List Int) (nl : NL) (q : List Ag) (i : Int) : Prop where
  n : InvN ps nl
  i0 : 0 ≤ i ∧ i ≤ q.length
  z : (0, 0, 0, 0, 0) ∈ q
  ql : q.length ≤ 1 + 5 * nl.length
  qv : ∀ a ∈ q, validA ps a
  suc : ∀ e ∈ nl, ∀ b ∈ e.2, b ∈ q
  had : ∀ j : Nat, (j : Int) < i → q.getD j (0, 0, 0, 0, 0) ∈ keysN nl
structure FinN (ps : List Int) (nl : NL) : Prop where
  n : InvN ps nl
  z : (0, 0, 0, 0, 0) ∈ keysN nl
  cl : ∀ e ∈ nl, ∀ b ∈ e.2, b ∈ keysN nl
abbrev sh85r : SV := S [(1, .box 0 (.v L)), (3, .mapx 1 P5 P5 3), (4, .own 2 P5), (5, .v I), (6, .box 4 (.v P5)), (51, .v I), (52, .v I)]
abbrev sh85re : SV := S [(1, .box 0 (.v L)), (3, .mapx 1 P5 P5 3), (4, .own 2 P5), (5, .v I)]
abbrev lc85r : LC2 := ⟨0, sh85r, 5, fun (ps, (nl, k, o), q, i, a, m, j, _) Q => (okPs ps ∧ validA ps a ∧ k = a ∧ noKey (tmGet P5 nl a) = true ∧ (0 ≤ j ∧ j ≤ ps.length) ∧ m = ps.length ∧ (o.length : Int) ≤ j ∧ (q.length : Int) ≤ 200000 + j) ∧
  ∀ k' o' q', k' = a → o' = o ++ sucL ps a j.toNat → q' = q ++ sucL ps a j.toNat → Q (.exit 2) (stS 5 sh85re (ps, (nl, k', o'), q', i, ()))⟩
abbrev fc82 : FC2 := ⟨A [.agg (.v L), .v P5, .v I], 0, A [.any, .any, .any, .v P5, .v .b], 0, fun (l, a, r, _) K => (okPs l ∧ validA l a ∧ 0 ≤ r) ∧ ∀ b ok, (nextR l a r.toNat = if ok = true then some b else none) → K ((), (), (), b, ok, ())⟩
theorem v82F (l : List Int) (a : Ag) (r : Int) (K : fc82.post.den → Prop) : (xfn2 Try.prog { nm := true, l2 := [(82, 0, lc82)] } 5 82 fc82 (l, a, r, ()) K) =
  (((0 : SV.den (SV.slot 13 (SV.v I))) ≤ (0 : Int) ∧ (0 : Int) ≤ (↑(l.length) : SV.den (SV.slot 13 (SV.v I))) ∧ (↑(l.length) : Int) = (↑(l.length) : SV.den (SV.slot 12 (SV.v I))) ∧ l.length ≤ 5 ∧ boxL [a.1, a.2.1, a.2.2.1,
 a.2.2.2.1, a.2.2.2.2] ∧ 5 = 5 ∧ ∀ (p : Ty.den I), p ∈ l → p ≤ (100 : Ty.den I)) ∧ ∀ (ys : List Int) (ok : Bool), (ys, ok) = goA r (List.drop 0 l) (0 : Int) [a.1, a.2.1, a.2.2.1, a.2.2.2.1, a.2.2.2.2] → (ok = true → req
 (decide (ys.length = 5)) (req (decide (ys.length = 5)) (req (decide (ys.length = 5)) (∀ (ys_1 : List (Ty.den I)), ys_1 = ys → req (decide (ys_1.length = 5)) (req (decide (ys_1.length = 5)) (K ((), (), (), (List.getD ys_1
 0 (0 : Int), List.getD ys_1 1 (0 : Int), List.getD ys_1 2 (0 : Int), List.getD ys_1 3 (0 : Int), List.getD ys_1 4 (0 : Int)), true, ()))))))) ∧ (ok = false → req (decide (ys.length = 5)) (req (decide (ys.length = 5)) (K
 ((), (), (), (List.getD ys 0 (0 : Int), List.getD ys 1 (0 : Int), List.getD ys 2 (0 : Int), List.getD ys 3 (0 : Int), List.getD ys 4 (0 : Int)), false, ()))))) := by kernel_rfl
theorem v85R (ps : List Int) (nl : NL) (k : Ag) (o : List Ag) (q : List Ag) (i : Int) (a : Ag) (m j : Int) (Q : AX → St → Prop) : (xloop2 Try.prog { nm := true, f2 := [(82, fc82)] } 5 85 1 lc85r (fun _ => some (sh85re, 5)) (fun (ps, _, _, _, _, _, j, _) => mL ps j) (ps, (nl, k, o), q, i, a, m, j, ()) Q) =
  (fork (decide (j < m)) ((okPs ps ∧ validA ps a ∧ (0 : SV.den (SV.v I)) ≤ j) ∧ ∀ (b : Ag) (ok : Bool), (nextR ps a (Int.toNat j) = if ok = true then Option.some b else none) → fork ok (req (eqT P5 a k) (req (noKey (tmGet
 P5 nl a)) (∀ (s : Int), req (decide (0 + o.length ≤ o.length)) (req (fitsN (o.length + 1) 40) (∀ (ys : List (Ty.den (Ty.pr (Ty.i IntKind.i64) (Ty.pr (Ty.i IntKind.i64) (Ty.pr (Ty.i IntKind.i64) (Ty.pr (Ty.i IntKind.i64)
 (Ty.i IntKind.i64))))))), ys = seg 0 (o.length) o ++ [b] → req (s == s) (req (decide (0 + q.length ≤ q.length)) (req (fitsN (q.length + 1) 40) (∀ (ys_1 : List (Ty.den (Ty.pr (Ty.i IntKind.i64) (Ty.pr (Ty.i IntKind.i64)
 (Ty.pr (Ty.i IntKind.i64) (Ty.pr (Ty.i IntKind.i64) (Ty.i IntKind.i64))))))), ys_1 = seg 0 (q.length) q ++ [b] → req (inR IntKind.i64 (j + 1)) (req (decide (0 + (o.length + 1) ≤ ys.length)) (req (decide (0 + (q.length +
 1) ≤ ys_1.length)) (mL ps (j + 1) < mL ps j ∧ LC2.spec lc85r (ps, (nl, a, seg 0 (o.length + 1) ys), seg 0 (q.length + 1) ys_1, i, a, m, j + 1, ()) Q))))))))))) (req (inR IntKind.i64 (j + 1)) (req (decide (0 + o.length ≤
 o.length)) (req (decide (0 + q.length ≤ q.length)) (mL ps (j + 1) < mL ps j ∧ LC2.spec lc85r (ps, (nl, k, seg 0 (o.length) o), seg 0 (q.length) q, i, a, m, j + 1, ()) Q))))) (req (decide (0 + o.length ≤ o.length)) (req
 (decide (0 + q.length ≤ q.length)) (Q (AX.exit 2) (stS 5 sh85re (ps, (nl, k, seg 0 (o.length) o), seg 0 (q.length) q, i, ())))))) := by kernel_rfl
abbrev sh85 : SV := S [(1, .box 0 (.v L)), (3, .map 1 P5 (.sl P5)), (4, .own 2 P5), (5, .v I)]
abbrev sh85e : SV := S [(3, .map 1 P5 (.sl P5))]
abbrev lc85 : LC2 := ⟨0, sh85, 3, fun (ps, nl, q, i, _) Q => (okPs ps ∧ InvQ ps nl q i) ∧ ∀ nl', FinN ps nl' → Q (.exit 0) (stS 3 sh85e (nl', ()))⟩
theorem v85L (ps : List Int) (nl : NL) (q : List Ag) (i : Int) (Q : AX → St → Prop) : (xloop2 Try.prog { nm := true, l2 := [(85, 1, lc85r)] } 5 85 0 lc85 (fun _ => some (sh85e, 3)) (fun (_, nl, q, i, _) => 6 * (32768 - nl.length) + mL q i) (ps, nl, q, i, ()) Q) =
  (fork (decide (i < (↑(q.length) : Int))) (req (decide ((0 : Int) ≤ i ∧ i < (↑(q.length) : Int))) (req (decide (Int.toNat i < q.length)) (fork (Option.isSome (tmGet P5 nl (List.getD q (Int.toNat i) (0, 0, 0, 0, 0)))) (req
 (inR IntKind.i64 (i + 1)) (req (decide (0 + q.length ≤ q.length)) (6 * (32768 - nl.length) + mL (seg 0 (q.length) q) (i + 1) < 6 * (32768 - nl.length) + mL q i ∧ LC2.spec lc85 (ps, nl, seg 0 (q.length) q, i + 1, ()) Q)))
 (req (noKey (tmGet P5 nl (List.getD q (Int.toNat i) (0, 0, 0, 0, 0)))) (req (decide (0 + q.length ≤ q.length)) ((okPs ps ∧ validA ps (List.getD q (Int.toNat i) (0, 0, 0, 0, 0)) ∧ List.getD q (Int.toNat i) (0, 0, 0, 0, 0)
 = List.getD q (Int.toNat i) (0, 0, 0, 0, 0) ∧ noKey (tmGet P5 nl (List.getD q (Int.toNat i) (0, 0, 0, 0, 0))) = true ∧ ((0 : SV.den (SV.slot 52 (SV.v I))) ≤ (0 : Int) ∧ (0 : Int) ≤ (↑(ps.length) : SV.den (SV.slot 52 (SV.v
 I)))) ∧ (↑(ps.length) : Int) = (↑(ps.length) : SV.den (SV.slot 51 (SV.v I))) ∧ (0 : Int) ≤ (0 : Int) ∧ (↑(List.length (seg 0 (q.length) q)) : Int) ≤ (200000 : Int)) ∧ ∀ (k' : SV.den (SV.slot ((6, SV.box 4 (SV.v P5)).1)
 ((6, SV.box 4 (SV.v P5)).2))) (o' : List (Ty.den P5)) (q' : SV.den (SV.slot ((4, SV.own 2 P5).1) ((4, SV.own 2 P5).2))), k' = List.getD q (Int.toNat i) (0, 0, 0, 0, 0) → o' = [] ++ sucL ps (List.getD q (Int.toNat i) (0,
 0, 0, 0, 0)) 0 → q' = seg 0 (q.length) q ++ sucL ps (List.getD q (Int.toNat i) (0, 0, 0, 0, 0)) 0 → req (inR IntKind.i64 (i + 1)) (req (decide (0 + o'.length ≤ o'.length)) (req (decide (0 + q'.length ≤ q'.length)) (6 *
 (32768 - List.length (nl ++ [(k', seg 0 (o'.length) o')])) + mL (seg 0 (q'.length) q') (i + 1) < 6 * (32768 - nl.length) + mL q i ∧ LC2.spec lc85 (ps, nl ++ [(k', seg 0 (o'.length) o')], seg 0 (q'.length) q', i + 1, ())
 Q))))))))) (Q (AX.exit 0) (stS 3 sh85e (nl, ())))) := by kernel_rfl
def hasK (kl : KL) (a : Ag) : Bool := (tmGet P5 kl a).isSome
def getK (kl : KL) (a : Ag) : Int := (tmGet P5 kl a).getD 0
def mostK (kl : KL) : List Ag → Int → Int
  | [], n => n
  | b :: l, n => mostK kl l (max n (getK kl b + 1))
def allK (kl : KL) (l : List Ag) : Bool := l.all (hasK kl)
inductive Rk (nl : NL) : Ag → Int → Prop
  | mk {a : Ag} {ss : List Ag} (n : Ag → Int) (h : (a, ss) ∈ nl) (hs : ∀ b ∈ ss, Rk nl b (n b)) : Rk nl a (ss.foldl (fun m b => max m (n b + 1)) 0)
structure KnI (nl : NL) (kl : KL) : Prop where
  nd : (keysN kl).Nodup
  sub : ∀ e ∈ kl, e.1 ∈ keysN nl
  rk : ∀ e ∈ kl, Rk nl e.1 e.2
  bd : ∀ e ∈ kl, 0 ≤ e.2 ∧ e.2 ≤ kl.length
structure GrI (nl : NL) : Prop where
  nd : (keysN nl).Nodup
  le : nl.length ≤ 40000
  l5 : ∀ e ∈ nl, e.2.length ≤ 5
def openK (kl : KL) (e : Ag × List Ag) : Prop := hasK kl e.1 = false → ∃ b ∈ e.2, hasK kl b = false
structure Fix (nl : NL) (kl : KL) : Prop where
  k : KnI nl kl
  o : ∀ e ∈ nl, openK kl e
abbrev sh85s : SV := S [(3, .v TN), (12, .map 0 P5 I), (13, .v .b), (14, .box 2 (.v P5)), (18, .v I), (19, .v .b), (79, .it 1 P5 (.sl P5)), (92, .v (.sl P5)), (93, .v I), (94, .v I)]
abbrev sh85se : SV := S [(3, .v TN), (12, .map 0 P5 I), (13, .v .b), (14, .box 2 (.v P5)), (18, .v I), (19, .v .b), (79, .it 1 P5 (.sl P5))]
abbrev lc85s : LC2 := ⟨0, sh85s, 3, fun (nl, kl, c, a, n, al, left, l, m, i, _) Q => (m = l.length ∧ (0 ≤ i ∧ i ≤ l.length) ∧ l.length ≤ 5 ∧ (∀ e ∈ kl, 0 ≤ e.2 ∧ e.2 ≤ 100000)) ∧
  ∀ n' al', n' = mostK kl (l.drop i.toNat) n → al' = (al && allK kl (l.drop i.toNat)) → Q (.exit 8) (stS 3 sh85se (nl, kl, c, a, n', al', left, ()))⟩
theorem v85S (nl : NL) (kl : KL) (c : Bool) (a : Ag) (n : Int) (al : Bool) (left : NL) (l : List Ag) (m i : Int) (Q : AX → St → Prop) : (xloop2 Try.prog { nm := true } 5 85 4 lc85s (fun _ => some (sh85se, 3)) (fun (_, _, _, _, _, _, _, l, _, i, _) => mL l i) (nl, kl, c, a, n, al, left, l, m, i, ()) Q) =
  (fork (decide (i < m)) (req (decide ((0 : Int) ≤ i ∧ i < (↑(l.length) : Int))) (req (inR IntKind.i64 (Option.getD (tmGet P5 kl (List.getD l (Int.toNat i) (0, 0, 0, 0, 0))) (0 : Int) + 1)) (fork al (req (inR IntKind.i64 (i
 + 1)) (mL l (i + 1) < mL l i ∧ LC2.spec lc85s (nl, kl, c, a, if Option.getD (tmGet P5 kl (List.getD l (Int.toNat i) (0, 0, 0, 0, 0))) (0 : Int) + 1 > n then Option.getD (tmGet P5 kl (List.getD l (Int.toNat i) (0, 0, 0, 0,
 0))) (0 : Int) + 1 else n, Option.isSome (tmGet P5 kl (List.getD l (Int.toNat i) (0, 0, 0, 0, 0))), left, l, m, i + 1, ()) Q)) (req (inR IntKind.i64 (i + 1)) (mL l (i + 1) < mL l i ∧ LC2.spec lc85s (nl, kl, c, a, if
 Option.getD (tmGet P5 kl (List.getD l (Int.toNat i) (0, 0, 0, 0, 0))) (0 : Int) + 1 > n then Option.getD (tmGet P5 kl (List.getD l (Int.toNat i) (0, 0, 0, 0, 0))) (0 : Int) + 1 else n, false, left, l, m, i + 1, ()) Q)))))
 (Q (AX.exit 8) (stS 3 sh85se (nl, kl, c, a, n, al, left, ())))) := by kernel_rfl
structure R3 (nl : NL) (kl : KL) (c : Bool) (left : NL) (kl' : KL) (c' : Bool) : Prop where
  k : KnI nl kl'
  le : kl.length ≤ kl'.length
  up : c = true → c' = true
  ch : c' = true → c = true ∨ kl.length < kl'.length
  no : c' = false → kl' = kl ∧ ∀ e ∈ left, openK kl e
abbrev sh85n : SV := S [(3, .v TN), (12, .map 0 P5 I), (13, .v .b), (79, .it 1 P5 (.sl P5))]
abbrev sh85ne : SV := S [(3, .v TN), (12, .map 0 P5 I), (13, .v .b)]
abbrev lc85n : LC2 := ⟨0, sh85n, 2, fun (nl, kl, c, left, _) Q => (GrI nl ∧ KnI nl kl ∧ (∀ e ∈ left, e ∈ nl)) ∧ ∀ kl' c', R3 nl kl c left kl' c' → Q (.exit 6) (stS 2 sh85ne (nl, kl', c', ()))⟩
theorem v85N (nl : NL) (kl : KL) (c : Bool) (left : NL) (Q : AX → St → Prop) : (xloop2 Try.prog { nm := true, l2 := [(85, 4, lc85s)] } 5 85 3 lc85n (fun _ => some (sh85ne, 2)) (fun (_, _, _, left, _) => left.length) (nl, kl, c, left, ()) Q) =
  ((left = [] → Q (AX.exit 6) (stS 2 sh85ne (nl, kl, c, ()))) ∧ ∀ (pre : List (Ty.den P5 × Ty.den (Ty.sl P5))) (p : Ty.den P5 × Ty.den (Ty.sl P5)) (post : List (Ty.den P5 × Ty.den (Ty.sl P5))), left = pre ++ p :: post →
 fork (Option.isSome (tmGet P5 kl (p.1))) (List.length (pre ++ post) < left.length ∧ LC2.spec lc85n (nl, kl, c, pre ++ post, ()) Q) (((↑(List.length (p.2)) : Int) = (↑(List.length (p.2)) : SV.den (SV.slot 93 (SV.v I))) ∧
 ((0 : SV.den (SV.slot 94 (SV.v I))) ≤ (0 : Int) ∧ (0 : Int) ≤ (↑(List.length (p.2)) : SV.den (SV.slot 94 (SV.v I)))) ∧ List.length (p.2) ≤ 5 ∧ ∀ (e : Ty.den P5 × Ty.den I), e ∈ kl → (0 : Ty.den I) ≤ e.2 ∧ e.2 ≤ (100000 :
 Ty.den I)) ∧ ∀ (n' : Int) (al' : Bool), n' = mostK kl (List.drop 0 (p.2)) (0 : Int) → al' = (true && allK kl (List.drop 0 (p.2))) → fork al' (List.length (pre ++ post) < left.length ∧ LC2.spec lc85n (nl, tmPut P5 kl (p.1)
 n', true, pre ++ post, ()) Q) (List.length (pre ++ post) < left.length ∧ LC2.spec lc85n (nl, kl, c, pre ++ post, ()) Q))) := by kernel_rfl
abbrev sh85f : SV := S [(3, .v TN), (12, .map 0 P5 I), (13, .v .b)]
abbrev sh85fe : SV := S [(3, .v TN), (12, .map 0 P5 I)]
def bN (b : Bool) : Nat := if b = true then 1 else 0
abbrev lc85f : LC2 := ⟨0, sh85f, 1, fun (nl, kl, c, _) Q => (GrI nl ∧ KnI nl kl ∧ (c = false → Fix nl kl)) ∧ ∀ kl', Fix nl kl' → Q (.exit 4) (stS 1 sh85fe (nl, kl', ()))⟩
theorem v85F (nl : NL) (kl : KL) (c : Bool) (Q : AX → St → Prop) : (xloop2 Try.prog { nm := true, l2 := [(85, 3, lc85n)] } 5 85 2 lc85f (fun _ => some (sh85fe, 1)) (fun (nl, kl, c, _) => 2 * (nl.length - kl.length) + bN c) (nl, kl, c, ()) Q) =
  (fork c ((GrI nl ∧ KnI nl kl ∧ ∀ (e : Ty.den P5 × Ty.den (Ty.sl P5)), e ∈ nl → e ∈ nl) ∧ ∀ (kl' : KL) (c' : Bool), R3 nl kl false nl kl' c' → 2 * (nl.length - kl'.length) + bN c' < 2 * (nl.length - kl.length) + bN c ∧
 LC2.spec lc85f (nl, kl', c', ()) Q) (Q (AX.exit 4) (stS 1 sh85fe (nl, kl, ())))) := by kernel_rfl
structure R5 (left : NL) (kl kl' : KL) : Prop where
  old : ∀ a v, tmGet P5 kl a = some v → tmGet P5 kl' a = some v
  new : ∀ e ∈ left, tmGet P5 kl e.1 = none → tmGet P5 kl' e.1 = some (-1)
abbrev sh85z : SV := S [(12, .map 0 P5 I), (118, .it 1 P5 (.sl P5))]
abbrev sh85ze : SV := S [(12, .map 0 P5 I)]
abbrev lc85z : LC2 := ⟨0, sh85z, 2, fun (kl, left, _) Q => ∀ kl', R5 left kl kl' → Q (.exit 10) (stS 2 sh85ze (kl', ()))⟩
theorem v85Z (kl : KL) (left : NL) (Q : AX → St → Prop) : (xloop2 Try.prog { nm := true } 5 85 5 lc85z (fun _ => some (sh85ze, 2)) (fun (_, left, _) => left.length) (kl, left, ()) Q) =
  ((left = [] → Q (AX.exit 10) (stS 2 sh85ze (kl, ()))) ∧ ∀ (pre : List (Ty.den P5 × Ty.den (Ty.sl P5))) (p : Ty.den P5 × Ty.den (Ty.sl P5)) (post : List (Ty.den P5 × Ty.den (Ty.sl P5))), left = pre ++ p :: post → fork
 (!Option.isSome (tmGet P5 kl (p.1))) (List.length (pre ++ post) < left.length ∧ LC2.spec lc85z (tmPut P5 kl (p.1) (-1 : Int), pre ++ post, ()) Q) (List.length (pre ++ post) < left.length ∧ LC2.spec lc85z (kl, pre ++ post,
 ()) Q)) := by kernel_rfl
def EvR (ps : List Int) (kl : KL) : Prop := ∃ nl k0, FinN ps nl ∧ Fix nl k0 ∧ R5 nl k0 kl
abbrev fc85 : FC2 := ⟨A [.agg (.v L)], 0, A [.any, .map 0 P5 I], 1, fun (ps, _) K => okPs ps ∧ ∀ kl, EvR ps kl → K ((), kl, ())⟩
theorem v85 (ps : List Int) (K : fc85.post.den → Prop) : (xfn2 Try.prog { nm := true, l2 := [(85, 0, lc85), (85, 2, lc85f), (85, 5, lc85z)] } 5 85 fc85 (ps, ()) K) =
  ((okPs ps ∧ InvQ ps [] [(0, 0, 0, 0, 0)] (0 : Int)) ∧ ∀ (nl' : NL), FinN ps nl' → (GrI nl' ∧ KnI nl' [] ∧ (true = false → Fix nl' [])) ∧ ∀ (kl' : KL), Fix nl' kl' → ∀ (kl'_1 : KL), R5 nl' kl' kl'_1 → K ((), kl'_1, ())) := by kernel_rfl
end Go.P10
