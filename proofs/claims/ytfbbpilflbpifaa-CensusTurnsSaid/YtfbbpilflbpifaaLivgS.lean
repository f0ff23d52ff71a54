/- Turns: the reference's Turns and Lasts: states and what is to be shown, reduced. No conditions. -/
import Derived.Test.YtfbbpilflbpifaaLivfS
set_option linter.unusedSimpArgs false
set_option linter.unusedVariables false
set_option linter.constructorNameAsVariable false
set_option maxRecDepth 100000
set_option maxHeartbeats 2000000
namespace Go.P10
open Go.Lom Go.Proofs Go
def livesR (x : Lv) : Prop := okPs x.1 ∧ ∃ t, LiF x.1 x.2 t
abbrev sh87 : SV := S [(1, .v L), (2, .box 0 (.v TLv)), (5, .v I), (6, .v I)]
abbrev sh87e : SV := S [(1, .v L), (2, .box 0 (.v TLv)), (5, .v I)]
def maxL (m : Int) (l : List Int) : Int := l.foldl max m
abbrev lc87 : LC2 := ⟨0, sh87, 1, fun (xs, x, m, i, _) Q => (x.2.length ≤ 40000 ∧ (0 ≤ i ∧ i ≤ x.2.length)) ∧ ∀ m', m' = maxL m (x.2.drop i.toNat) → Q (.exit 0) (stS 1 sh87e (xs, x, m', ()))⟩
theorem v87L (xs : List Int) (x : Lv) (m i : Int) (Q : AX → St → Prop) : (xloop2 Try.prog { nm := true } 5 87 0 lc87 (fun _ => some (sh87e, 1)) (fun (_, x, _, i, _) => mL x.2 i) (xs, x, m, i, ()) Q) =
  (fork (decide (i < (↑(List.length (x.2)) : Int))) (req (decide ((0 : Int) ≤ i ∧ i < (↑(List.length (x.2)) : Int))) (req (inR IntKind.i64 (i + 1)) (mL (x.2) (i + 1) < mL (x.2) i ∧ LC2.spec lc87 (xs, x, if List.getD (x.2)
 (Int.toNat i) (0 : Int) > m then List.getD (x.2) (Int.toNat i) (0 : Int) else m, i + 1, ()) Q))) (Q (AX.exit 0) (stS 1 sh87e (xs, x, m, ())))) := by kernel_rfl
abbrev fc87 : FC := ⟨[.v TLv, .v L], [.b], fun x K => (livesR x.1 ∧ vldL x.1.1 x.2.1) ∧ ∀ b, (b = true ↔ Ever x.1.1 (toA x.2.1)) → K (b, ())⟩
theorem v87F (x : Lv) (xs : List Int) (K : dens [.b] → Prop) : (xfn1 Try.prog { nm := true, f := [(88, fc88), (100, fc100)], l2 := [(87, 0, lc87)] } 5 87 fc87 (x, xs, ()) K) =
  ((List.length (x.2) ≤ 40000 ∧ (0 : SV.den (SV.slot 6 (SV.v I))) ≤ (0 : Int) ∧ (0 : Int) ≤ (↑(List.length (x.2)) : SV.den (SV.slot 6 (SV.v I)))) ∧ ∀ (m' : Int), m' = maxL (0 : Int) (List.drop 0 (x.2)) → (okPs (x.1) ∧ vldL
 (x.1) xs) ∧ ∀ (r : Int), r = numL (0 : Int) (x.1) xs → req (decide ((0 : Int) ≤ r ∧ r < (↑(List.length (x.2)) : Int))) (fork (List.getD (x.2) (Int.toNat r) (0 : Int) == m') ((okLv x ∧ vldL (x.1) xs) ∧ ∀ (b : Bool), b =
 goesB x xs m' → K (b, ())) (K (false, ())))) := by kernel_rfl
theorem v47F (ps : List Int) (K : dens [I, E] → Prop) : (xfn1 Try.prog { nm := true, f := [(83, fc83), (86, fc86), (87, fc87), (88, fc88)] } 5 47 fcLasts (ps, ()) K) =
  (ps.length ≤ 9223372036854775807 ∧ ∀ (b : Bool), b = decide (okPs ps) → fork (!b) (K ((0 : Int), (105 : Int), ())) (okPs ps ∧ ∀ (L' : List Int) (t' : Nat), LiF ps L' t' → req (decide ((0 : Int) ≤ (↑(ps.length) : Int) ∧
 (↑(ps.length) : Int) ≤ (↑(ps.length) : Int) ∧ (8 : Int) * (↑(ps.length) : Int) ≤ (281474976710656 : Int) ∧ (↑(ps.length) : Int) ≤ (281474976710656 : Int))) (req (decide (0 + ps.length ≤ List.length (List.replicate
 (ps.length) (0 : Int)))) ((livesR (ps, L') ∧ vldL ps (seg 0 (ps.length) (List.replicate (ps.length) (0 : Int)))) ∧ ∀ (b : Bool), (b = true ↔ Ever ps (toA (seg 0 (ps.length) (List.replicate (ps.length) (0 : Int))))) → fork
 b (K ((0 : Int), (4 : Int), ())) (req (decide (0 + ps.length ≤ List.length (List.replicate (ps.length) (0 : Int)))) ((okPs ps ∧ vldL ps (seg 0 (ps.length) (List.replicate (ps.length) (0 : Int)))) ∧ ∀ (r : Int), r = numL
 (0 : Int) ps (seg 0 (ps.length) (List.replicate (ps.length) (0 : Int))) → AV.rl I L' = AV.rl I L' ∧ req (decide ((0 : Int) ≤ r ∧ r < (↑(L'.length) : Int))) (K (List.getD L' (Int.toNat r) (0 : Int), (0 : Int), ())))))))) := by kernel_rfl
def agL (ps : List Int) (a : Ag) : List Int := (ofA a).take ps.length
abbrev sh45b : SV := S [(0, .v L), (1, .v I), (6, .box 0 (.v TLv)), (7, .v L), (8, .own 1 I), (9, .v I), (10, .v I)]
abbrev sh45be : SV := S [(0, .v L), (1, .v I), (6, .box 0 (.v TLv)), (7, .v L), (8, .own 1 I), (9, .v I)]
abbrev lc45b : LC2 := ⟨0, sh45b, 2, fun (ps, d, x, xs, o, i, j, _) Q => (x.1 = ps ∧ livesR x ∧ vldL ps xs ∧ (0 ≤ j ∧ j ≤ ps.length) ∧ o.length ≤ 64) ∧ ∀ o' a', FirstR ps j (toA xs) o o' a' → Q (.exit 2) (stS 2 sh45be (ps, d, x, agL ps a', o', i, ()))⟩
theorem v45B (ps : List Int) (d : Int) (x : Lv) (xs o : List Int) (i j : Int) (Q : AX → St → Prop) : (xloop2 Try.prog { nm := true, f := [(84, fc84), (87, fc87)] } 5 45 1 lc45b (fun _ => some (sh45be, 2)) (fun (ps, _, _, _, _, _, j, _) => mL ps j) (ps, d, x, xs, o, i, j, ()) Q) =
  (fork (decide (j < (↑(ps.length) : Int))) ((ps.length = xs.length ∧ smX xs) ∧ ∀ (l : List Int) (b : Bool), (if b = true then Option.some l else none) = afterL j ps xs (0 : Int) → (b = false → l = []) → fork b ((livesR x ∧
 vldL (x.1) l) ∧ ∀ (b : Bool), (b = true ↔ Ever (x.1) (toA l)) → fork b (req (decide (0 + o.length ≤ o.length)) (req (fitsN (o.length + 1) 8) (∀ (ys : List (Ty.den (Ty.i IntKind.i64))), ys = seg 0 (o.length) o ++ [j] → req
 (decide (0 + (o.length + 1) ≤ ys.length)) (Q (AX.exit 2) (stS 2 sh45be (ps, d, x, l, seg 0 (o.length + 1) ys, i, ())))))) (req (inR IntKind.i64 (j + 1)) (req (decide (0 + o.length ≤ o.length)) (mL ps (j + 1) < mL ps j ∧
 LC2.spec lc45b (ps, d, x, xs, seg 0 (o.length) o, i, j + 1, ()) Q)))) (req (inR IntKind.i64 (j + 1)) (req (decide (0 + o.length ≤ o.length)) (mL ps (j + 1) < mL ps j ∧ LC2.spec lc45b (ps, d, x, xs, seg 0 (o.length) o, i,
 j + 1, ()) Q)))) (req (decide (0 + o.length ≤ o.length)) (Q (AX.exit 2) (stS 2 sh45be (ps, d, x, xs, seg 0 (o.length) o, i, ()))))) := by kernel_rfl
abbrev lc45a : LC2 := ⟨0, sh45be, 2, fun (ps, d, x, xs, o, i, _) Q => (x.1 = ps ∧ livesR x ∧ vldL ps xs ∧ Ever ps (toA xs) ∧ (0 ≤ i ∧ i ≤ d ∧ d ≤ 64) ∧ (o.length : Int) = i) ∧ ∀ l, Gr ps (d - i).toNat (toA xs) l → Q (.exit 0) (stS 2 (S [(8, .own 1 I)]) (o ++ l, ()))⟩
theorem v45A (ps : List Int) (d : Int) (x : Lv) (xs o : List Int) (i : Int) (Q : AX → St → Prop) : (xloop2 Try.prog { nm := true, l2 := [(45, 1, lc45b)] } 5 45 0 lc45a (fun _ => some (S [(8, .own 1 I)], 2)) (fun (_, d, _, _, _, i, _) => (d - i).toNat) (ps, d, x, xs, o, i, ()) Q) =
  (fork (decide (i < d)) (req (decide (0 + o.length ≤ o.length)) ((x.1 = ps ∧ livesR x ∧ vldL ps xs ∧ ((0 : SV.den (SV.slot 10 (SV.v I))) ≤ (0 : Int) ∧ (0 : Int) ≤ (↑(ps.length) : SV.den (SV.slot 10 (SV.v I)))) ∧
 List.length (seg 0 (o.length) o) ≤ 64) ∧ ∀ (o' : List Int) (a' : Ag), FirstR ps (0 : Int) (toA xs) (seg 0 (o.length) o) o' a' → req (inR IntKind.i64 (i + 1)) (req (decide (0 + o'.length ≤ o'.length)) (Int.toNat (d - (i +
 1)) < Int.toNat (d - i) ∧ LC2.spec lc45a (ps, d, x, agL ps a', seg 0 (o'.length) o', i + 1, ()) Q)))) (req (decide (0 + o.length ≤ o.length)) (Q (AX.exit 0) (stS 2 (S [(8, SV.own 1 I)]) (seg 0 (o.length) o, ()))))) := by kernel_rfl
theorem v45F (ps : List Int) (d : Int) (K : dens [L, E] → Prop) : (xfn1 Try.prog { nm := true, f := [(83, fc83), (86, fc86), (87, fc87)], l2 := [(45, 0, lc45a)] } 5 45 fcTurns (ps, d, ()) K) =
  (ps.length ≤ 9223372036854775807 ∧ ∀ (b : Bool), b = decide (okPs ps) → fork (!b) (K ([], (105 : Int), ())) (fork (decide ((0 : Int) ≤ d)) (fork (!decide (d ≤ (64 : Int))) (K ([], (7 : Int), ())) (okPs ps ∧ ∀ (L' : List
 Int) (t' : Nat), LiF ps L' t' → req (decide ((0 : Int) ≤ (↑(ps.length) : Int) ∧ (↑(ps.length) : Int) ≤ (↑(ps.length) : Int) ∧ (8 : Int) * (↑(ps.length) : Int) ≤ (281474976710656 : Int) ∧ (↑(ps.length) : Int) ≤
 (281474976710656 : Int))) (req (decide (0 + ps.length ≤ List.length (List.replicate (ps.length) (0 : Int)))) ((livesR (ps, L') ∧ vldL ps (seg 0 (ps.length) (List.replicate (ps.length) (0 : Int)))) ∧ ∀ (b : Bool), (b =
 true ↔ Ever ps (toA (seg 0 (ps.length) (List.replicate (ps.length) (0 : Int))))) → fork (!b) (K ([], (4 : Int), ())) (req (decide (0 + ps.length ≤ List.length (List.replicate (ps.length) (0 : Int)))) ((ps = ps ∧ livesR
 (ps, L') ∧ vldL ps (seg 0 (ps.length) (List.replicate (ps.length) (0 : Int))) ∧ Ever ps (toA (seg 0 (ps.length) (List.replicate (ps.length) (0 : Int)))) ∧ ((0 : SV.den (SV.slot 9 (SV.v I))) ≤ (0 : Int) ∧ (0 : Int) ≤ d ∧ d
 ≤ (64 : SV.den (SV.slot 1 (SV.v I)))) ∧ (0 : Int) = (0 : Int)) ∧ ∀ (l : List Int), Gr ps (Int.toNat (d - 0)) (toA (seg 0 (ps.length) (List.replicate (ps.length) (0 : Int)))) l → req (decide (0 + List.length ([] ++ l) ≤
 List.length ([] ++ l))) (K (seg 0 (List.length ([] ++ l)) ([] ++ l), (0 : Int), ())))))))) (K ([], (7 : Int), ())))) := by kernel_rfl
abbrev fc10 : FC := ⟨[.v L, .v L, .v I], [.b], fun x K => (x.1.length ≤ big ∧ x.2.1.length ≤ big) ∧ K (true, ())⟩
theorem v10F (ps ts : List Int) (d : Int) (K : dens [.b] → Prop) : (xfn1 Try.prog { nm := true, f := [(18, fcSame), (19, fcWorks), (42, fc42), (43, fc42), (44, fcTurns), (45, fcTurns), (46, fcLasts), (47, fcLasts)] } 5 10 fc10 (ps, ts, d, ()) K) =
  ((ps.length ≤ 9223372036854775807 ∧ ts.length ≤ 9223372036854775807) ∧ ∀ (b : Bool) (e : Int), (b, e) = keepsV ps ts → (ps.length ≤ 9223372036854775807 ∧ ts.length ≤ 9223372036854775807) ∧ ∀ (b_1 : Bool) (e_1 : Int),
 (b_1, e_1) = keepsV ps ts → fork (!b == b_1) (K (false, ())) (fork (e != e_1) (K (false, ())) (ps.length ≤ 9223372036854775807 ∧ ∀ (l : List Int) (e : Int), TurnsR ps d l e → ps.length ≤ 9223372036854775807 ∧ ∀ (l_1 :
 List Int) (e_2 : Int), TurnsR ps d l_1 e_2 → l.length ≤ 9223372036854775807 ∧ ∀ (r : Bool), r = decide (l = l_1) → fork (!r) (K (false, ())) (fork (e != e_2) (K (false, ())) (ps.length ≤ 9223372036854775807 ∧ ∀ (n e :
 Int), LastsR ps n e → ps.length ≤ 9223372036854775807 ∧ ∀ (n_1 e_3 : Int), LastsR ps n_1 e_3 → fork (n == n_1) (fork (e == e_3) (K (true, ())) (K (false, ()))) (K (false, ()))))))) := by kernel_rfl
end Go.P10
