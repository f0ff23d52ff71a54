/- Patrols: states and what is to be shown, reduced. No conditions. -/
import Derived.Test.YtfbbpilflbpifaaWorkP
set_option linter.unusedSimpArgs false
set_option linter.unusedVariables false
set_option linter.constructorNameAsVariable false
set_option maxRecDepth 100000
set_option maxHeartbeats 2000000
namespace Go.P10
open Go.Lom Go.Proofs Go
def badW (n : Int) : Bool := !decide (1 ≤ n ∧ n ≤ 10000)
theorem v96L102 (l : List Int) (m i : Int) (Q : AX → St → Prop) : (xloop2 Try.prog {} 5 96 0 (lc96 102 badW) ex96 (fun (l, _, m, i, _) => mL l i) (l, ((), ()), m, i, ()) Q) =
  (fork (decide (i < m)) (req (decide ((0 : Int) ≤ i ∧ i < (↑(l.length) : Int))) (fork (decide (List.getD l (Int.toNat i) (0 : Int) ≥ (1 : Int))) (fork (!decide (List.getD l (Int.toNat i) (0 : Int) ≤ (10000 : Int))) (Q
 AX.ret (stS 0 shR4i (i, ()))) (req (inR IntKind.i64 (i + 1)) (mL l (i + 1) < mL l i ∧ LC2.spec (lc96 102 badW) (l, ((), ()), m, i + 1, ()) Q))) (Q AX.ret (stS 0 shR4i (i, ()))))) (Q (AX.exit 0) (stS 0 SV.nil ()))) := by kernel_rfl
theorem v96F102 (l : List Int) (K : dens [I] → Prop) : (xfn1 Try.prog { l2 := [(96, 0, lc96 102 badW)] } 5 96 (fc96 102 badW) (l, ((), ()), ()) K) =
  (((0 : SV.den (SV.slot 8 (SV.v I))) ≤ (0 : Int) ∧ (0 : Int) ≤ (↑(l.length) : SV.den (SV.slot 8 (SV.v I))) ∧ (↑(l.length) : Int) = (↑(l.length) : SV.den (SV.slot 7 (SV.v I))) ∧ l.length ≤ 9223372036854775807) ∧ (idxF badW
 (List.drop 0 l) (0 : Int) < (0 : Int) → K ((-1 : Int), ())) ∧ ((0 : Int) ≤ idxF badW (List.drop 0 l) (0 : Int) → K (idxF badW (List.drop 0 l) (0 : Int), ()))) := by kernel_rfl
theorem v72F102 (l : List Int) (K : dens [.b] → Prop) : (xfn1 Try.prog { f := [(96, fc96 102 badW)] } 5 72 (fc72 102 badW) (l, ((), ()), ()) K) =
  (l.length ≤ 9223372036854775807 ∧ K (decide (idxF badW l (0 : Int) ≥ (0 : Int)), ())) := by kernel_rfl
def okW (l : List Int) : Prop := (1 ≤ l.length ∧ l.length ≤ 6) ∧ ∀ n ∈ l, 1 ≤ n ∧ n ≤ 10000
instance (l : List Int) : Decidable (okW l) := by unfold okW; infer_instance
abbrev fc89 : FC := ⟨[.v L], [.b], fun x K => x.1.length ≤ big ∧ ∀ r : Bool, r = decide (okW x.1) → K (r, ())⟩
theorem v89F (l : List Int) (K : dens [.b] → Prop) : (xfn1 Try.prog { f := [(72, fc72 102 badW)] } 5 89 fc89 (l, ()) K) =
  (fork (decide ((↑(l.length) : Int) ≥ (1 : Int))) (fork (decide ((↑(l.length) : Int) ≤ (6 : Int))) (l.length ≤ 9223372036854775807 ∧ ∀ (b : Bool), b = List.any l badW → K (!b, ())) (K (false, ()))) (K (false, ()))) := by kernel_rfl
def minL (a : Int) (l : List Int) : Int := l.foldl (fun a n => if n < a then n else a) a
abbrev sh103 : SV := S [(0, .v I), (7, .v L), (8, .v I), (9, .v I)]
abbrev sh103e : SV := S [(0, .v I)]
abbrev lc103 : LC2 := ⟨0, sh103, 0, fun (a, l, m, i, _) Q => (m = l.length ∧ l.length ≤ big ∧ 0 ≤ i ∧ i ≤ l.length) ∧ ∀ r, r = minL a (l.drop i.toNat) → Q (.exit 0) (stS 0 sh103e (r, ()))⟩
theorem v103L (a : Int) (l : List Int) (m i : Int) (Q : AX → St → Prop) : (xloop2 Try.prog {} 5 103 0 lc103 (fun _ => some (sh103e, 0)) (fun (_, l, _, i, _) => mL l i) (a, l, m, i, ()) Q) =
  (fork (decide (i < m)) (req (decide ((0 : Int) ≤ i ∧ i < (↑(l.length) : Int))) (fork (decide (List.getD l (Int.toNat i) (0 : Int) < a)) (req (inR IntKind.i64 (i + 1)) (mL l (i + 1) < mL l i ∧ LC2.spec lc103 (List.getD l
 (Int.toNat i) (0 : Int), l, m, i + 1, ()) Q)) (req (inR IntKind.i64 (i + 1)) (mL l (i + 1) < mL l i ∧ LC2.spec lc103 (a, l, m, i + 1, ()) Q)))) (Q (AX.exit 0) (stS 0 sh103e (a, ())))) := by kernel_rfl
abbrev fc103 : FC := ⟨[.v I, .v L], [I], fun x K => x.2.1.length ≤ big ∧ ∀ r, r = minL x.1 x.2.1 → K (r, ())⟩
theorem v103F (a : Int) (l : List Int) (K : dens [I] → Prop) : (xfn1 Try.prog { l2 := [(103, 0, lc103)] } 5 103 fc103 (a, l, ()) K) =
  (((↑(l.length) : Int) = (↑(l.length) : SV.den (SV.slot 8 (SV.v I))) ∧ l.length ≤ 9223372036854775807 ∧ (0 : SV.den (SV.slot 9 (SV.v I))) ≤ (0 : Int) ∧ (0 : Int) ≤ (↑(l.length) : SV.den (SV.slot 9 (SV.v I)))) ∧ ∀ (r :
 Int), r = minL a (List.drop 0 l) → K (r, ())) := by kernel_rfl
def wI (r n : Int) : Int := 64 - min 64 (r / n)
def needW (l : List Int) (r : Int) : List Int := l.map (wI r)
def needN (l : List Int) (r : Int) : Int := (needW l r).sum
abbrev sh91 : SV := S [(1, .v I), (4, .own 0 I), (5, .v I), (9, .v L), (10, .v I), (11, .v I)]
abbrev sh91e : SV := S [(4, .own 0 I), (5, .v I)]
abbrev lc91 : LC2 := ⟨0, sh91, 1, fun (r, o, s, l, m, i, _) Q => (okW l ∧ (0 ≤ r ∧ r ≤ 9223372036854775807) ∧ m = l.length ∧ (0 ≤ i ∧ i ≤ l.length) ∧ (o.length : Int) = i ∧ (0 ≤ s ∧ s ≤ 64 * i)) ∧ ∀ o' s', o' = o ++ needW (l.drop i.toNat) r → s' = s + needN (l.drop i.toNat) r → Q (.exit 0) (stS 1 sh91e (o', s', ()))⟩
theorem v91L (r : Int) (o : List Int) (s : Int) (l : List Int) (m i : Int) (Q : AX → St → Prop) : (xloop2 Try.prog { nm := true, f := [(103, fc103)] } 5 91 0 lc91 (fun _ => some (sh91e, 1)) (fun (_, _, _, l, _, i, _) => mL l i) (r, o, s, l, m, i, ()) Q) =
  (fork (decide (i < m)) (req (decide ((0 : Int) ≤ i ∧ i < (↑(l.length) : Int))) (req (decide (List.getD l (Int.toNat i) (0 : Int) ≠ (0 : Int))) (req (inR IntKind.i64 (Int.tdiv r (List.getD l (Int.toNat i) (0 : Int)))) (1 ≤
 9223372036854775807 ∧ ∀ (r_1 : Int), r_1 = minL (64 : Int) [Int.tdiv r (List.getD l (Int.toNat i) (0 : Int))] → req (inR IntKind.i64 ((64 : Int) - r_1)) (req (decide (0 + o.length ≤ o.length)) (req (fitsN (o.length + 1)
 8) (∀ (ys : List (Ty.den (Ty.i IntKind.i64))), ys = seg 0 (o.length) o ++ [(64 : Int) - r_1] → req (inR IntKind.i64 (s + ((64 : Int) - r_1))) (req (inR IntKind.i64 (i + 1)) (req (decide (0 + (o.length + 1) ≤ ys.length))
 (mL l (i + 1) < mL l i ∧ LC2.spec lc91 (r, seg 0 (o.length + 1) ys, s + ((64 : Int) - r_1), l, m, i + 1, ()) Q)))))))))) (req (decide (0 + o.length ≤ o.length)) (Q (AX.exit 0) (stS 1 sh91e (seg 0 (o.length) o, s, ()))))) := by kernel_rfl
abbrev fc91 : FC2 := ⟨A [.v L, .v I], 0, A [.any, .any, .own 0 I, .v I], 1, fun (l, r, _) K => (okW l ∧ 0 ≤ r ∧ r ≤ 9223372036854775807) ∧ ∀ o s, o = needW l r → s = needN l r → K ((), (), o, s, ())⟩
theorem v91F (l : List Int) (r : Int) (K : fc91.post.den → Prop) : (xfn2 Try.prog { nm := true, l2 := [(91, 0, lc91)] } 5 91 fc91 (l, r, ()) K) =
  ((okW l ∧ ((0 : SV.den (SV.slot 1 (SV.v I))) ≤ r ∧ r ≤ (9223372036854775807 : SV.den (SV.slot 1 (SV.v I)))) ∧ (↑(l.length) : Int) = (↑(l.length) : SV.den (SV.slot 10 (SV.v I))) ∧ ((0 : SV.den (SV.slot 11 (SV.v I))) ≤ (0 :
 Int) ∧ (0 : Int) ≤ (↑(l.length) : SV.den (SV.slot 11 (SV.v I)))) ∧ (0 : Int) = (0 : Int) ∧ (0 : SV.den (SV.slot 5 (SV.v I))) ≤ (0 : Int) ∧ (0 : Int) ≤ (64 : SV.den (SV.slot 5 (SV.v I))) * (0 : Int)) ∧ ∀ (o' : SV.den
 (SV.slot ((4, SV.own 0 I).1) ((4, SV.own 0 I).2))) (s' : SV.den (SV.slot ((5, SV.v I).1) ((5, SV.v I).2))), o' = [] ++ needW (List.drop 0 l) r → s' = (0 : Int) + needN (List.drop 0 l) r → req (decide (0 + o'.length ≤
 o'.length)) (K ((), (), seg 0 (o'.length) o', s', ()))) := by kernel_rfl
def needV (l : List Int) (r : Int) : Int × Int := if okW l then if r < 0 then (0, 7) else (needN l r, 0) else (0, 103)
abbrev fc50 : FC := ⟨[.v L, .v I], [I, E], fun x K => (x.1.length ≤ big ∧ x.2.1 ≤ 9223372036854775807) ∧ ∀ n e, (n, e) = needV x.1 x.2.1 → K (n, e, ())⟩
theorem v50F (l : List Int) (r : Int) (K : dens [I, E] → Prop) : (xfn1 Try.prog { nm := true, f := [(89, fc89)], f2 := [(91, fc91)] } 5 50 fc50 (l, r, ()) K) =
  (l.length ≤ 9223372036854775807 ∧ ∀ (r_1 : Bool), r_1 = decide (okW l) → fork (!r_1) (K ((0 : Int), (103 : Int), ())) (fork (decide (r < (0 : Int))) (K ((0 : Int), (7 : Int), ())) ((okW l ∧ (0 : SV.den (SV.v I)) ≤ r ∧ r ≤
 (9223372036854775807 : SV.den (SV.v I))) ∧ ∀ (o : List Int) (s : Int), o = needW l r → s = needN l r → K (s, (0 : Int), ())))) := by kernel_rfl
def inW (n : Int) : Bool := decide (0 ≤ n ∧ n ≤ 64)
def maxR : List Int → List Int → Int → Int
  | n :: l, w :: ws, m => maxR l ws (max m (n * (64 - w)))
  | _, _, m => m
abbrev sh48a : SV := S [(0, .v L), (1, .v L), (6, .v I), (7, .v .b), (23, .v L), (24, .v I), (25, .v I)]
abbrev sh48ae : SV := S [(0, .v L), (1, .v L), (6, .v I), (7, .v .b)]
abbrev lc48a : LC2 := ⟨0, sh48a, 0, fun (l, ws, s, b, w2, m, i, _) Q => (w2 = ws ∧ m = ws.length ∧ ws.length ≤ big ∧ (0 ≤ i ∧ i ≤ ws.length) ∧ (b = false → ws.length ≤ 6 ∧ 0 ≤ s ∧ s ≤ 64 * i)) ∧ ∀ s' b', b' = (b || !(ws.drop i.toNat).all inW) → (b' = false → s' = s + (ws.drop i.toNat).sum) → Q (.exit 0) (stS 0 sh48ae (l, ws, s', b', ()))⟩
theorem v48A (l ws : List Int) (s : Int) (b : Bool) (w2 : List Int) (m i : Int) (Q : AX → St → Prop) : (xloop2 Try.prog { wr := true } 5 48 0 lc48a (fun _ => some (sh48ae, 0)) (fun (_, _, _, _, w2, _, i, _) => mL w2 i) (l, ws, s, b, w2, m, i, ()) Q) =
  (fork (decide (i < m)) (req (decide ((0 : Int) ≤ i ∧ i < (↑(w2.length) : Int))) (fork b (mL w2 (wrapA IntKind.i64 (i + 1)) < mL w2 i ∧ LC2.spec lc48a (l, ws, wrapA IntKind.i64 (s + List.getD w2 (Int.toNat i) (0 : Int)),
 true, w2, m, wrapA IntKind.i64 (i + 1), ()) Q) (fork (decide (List.getD w2 (Int.toNat i) (0 : Int) ≥ (0 : Int))) (mL w2 (wrapA IntKind.i64 (i + 1)) < mL w2 i ∧ LC2.spec lc48a (l, ws, wrapA IntKind.i64 (s + List.getD w2
 (Int.toNat i) (0 : Int)), !decide (List.getD w2 (Int.toNat i) (0 : Int) ≤ (64 : Int)), w2, m, wrapA IntKind.i64 (i + 1), ()) Q) (mL w2 (wrapA IntKind.i64 (i + 1)) < mL w2 i ∧ LC2.spec lc48a (l, ws, wrapA IntKind.i64 (s +
 List.getD w2 (Int.toNat i) (0 : Int)), !false, w2, m, wrapA IntKind.i64 (i + 1), ()) Q)))) (Q (AX.exit 0) (stS 0 sh48ae (l, ws, s, b, ())))) := by kernel_rfl
abbrev sh48b : SV := S [(1, .v L), (10, .v I), (44, .v L), (45, .v I), (46, .v I)]
abbrev sh48be : SV := S [(10, .v I)]
abbrev lc48b : LC2 := ⟨0, sh48b, 0, fun (ws, x, l, m, i, _) Q => (okW l ∧ ws.length = l.length ∧ (∀ w ∈ ws, 0 ≤ w ∧ w ≤ 64) ∧ m = l.length ∧ (0 ≤ i ∧ i ≤ l.length)) ∧ ∀ x', x' = maxR (l.drop i.toNat) (ws.drop i.toNat) x → Q (.exit 2) (stS 0 sh48be (x', ()))⟩
theorem v48B (ws : List Int) (x : Int) (l : List Int) (m i : Int) (Q : AX → St → Prop) : (xloop2 Try.prog {} 5 48 1 lc48b (fun _ => some (sh48be, 0)) (fun (_, _, l, _, i, _) => mL l i) (ws, x, l, m, i, ()) Q) =
  (fork (decide (i < m)) (req (decide ((0 : Int) ≤ i ∧ i < (↑(l.length) : Int))) (req (decide ((0 : Int) ≤ i ∧ i < (↑(ws.length) : Int))) (req (inR IntKind.i64 ((64 : Int) - List.getD ws (Int.toNat i) (0 : Int))) (req (inR
 IntKind.i64 (List.getD l (Int.toNat i) (0 : Int) * ((64 : Int) - List.getD ws (Int.toNat i) (0 : Int)))) (req (inR IntKind.i64 (i + 1)) (mL l (i + 1) < mL l i ∧ LC2.spec lc48b (ws, if List.getD l (Int.toNat i) (0 : Int) *
 ((64 : Int) - List.getD ws (Int.toNat i) (0 : Int)) > x then List.getD l (Int.toNat i) (0 : Int) * ((64 : Int) - List.getD ws (Int.toNat i) (0 : Int)) else x, l, m, i + 1, ()) Q)))))) (Q (AX.exit 2) (stS 0 sh48be (x,
 ())))) := by kernel_rfl
def riskV (l ws : List Int) : Int × Int := if okW l ∧ ws.length = l.length ∧ ws.all inW = true ∧ ws.sum = 64 then (maxR l ws 0, 0) else (0, 103)
abbrev fc48 : FC := ⟨[.v L, .v L], [I, E], fun x K => (x.1.length ≤ big ∧ x.2.1.length ≤ big) ∧ ∀ n e, (n, e) = riskV x.1 x.2.1 → K (n, e, ())⟩
theorem v48F (l ws : List Int) (K : dens [I, E] → Prop) : (xfn1 Try.prog { wr := true, f := [(89, fc89)], l2 := [(48, 0, lc48a), (48, 1, lc48b)] } 5 48 fc48 (l, ws, ()) K) =
  (l.length ≤ 9223372036854775807 ∧ ∀ (r : Bool), r = decide (okW l) → fork (!r) ((ws = ws ∧ (↑(ws.length) : Int) = (↑(ws.length) : SV.den (SV.slot 24 (SV.v I))) ∧ ws.length ≤ 9223372036854775807 ∧ ((0 : SV.den (SV.slot 25
 (SV.v I))) ≤ (0 : Int) ∧ (0 : Int) ≤ (↑(ws.length) : SV.den (SV.slot 25 (SV.v I)))) ∧ (true = false → ws.length ≤ 6 ∧ (0 : SV.den (SV.slot 6 (SV.v I))) ≤ (0 : Int) ∧ (0 : Int) ≤ (64 : SV.den (SV.slot 6 (SV.v I))) * (0 :
 Int))) ∧ ∀ (s' : SV.den (SV.slot ((6, SV.v I).1) ((6, SV.v I).2))) (b' : Bool), b' = (true || !List.all (List.drop 0 ws) inW) → (b' = false → s' = (0 : Int) + List.sum (List.drop 0 ws)) → fork b' (K ((0 : Int), (103 :
 Int), ())) (fork (s' != (64 : Int)) (K ((0 : Int), (103 : Int), ())) ((okW l ∧ ws.length = l.length ∧ (∀ (w : Ty.den I), w ∈ ws → (0 : Ty.den I) ≤ w ∧ w ≤ (64 : Ty.den I)) ∧ (↑(l.length) : Int) = (↑(l.length) : SV.den
 (SV.slot 45 (SV.v I))) ∧ (0 : SV.den (SV.slot 46 (SV.v I))) ≤ (0 : Int) ∧ (0 : Int) ≤ (↑(l.length) : SV.den (SV.slot 46 (SV.v I)))) ∧ ∀ (x' : Int), x' = maxR (List.drop 0 l) (List.drop 0 ws) (0 : Int) → K (x', (0 : Int),
 ())))) ((ws = ws ∧ (↑(ws.length) : Int) = (↑(ws.length) : SV.den (SV.slot 24 (SV.v I))) ∧ ws.length ≤ 9223372036854775807 ∧ ((0 : SV.den (SV.slot 25 (SV.v I))) ≤ (0 : Int) ∧ (0 : Int) ≤ (↑(ws.length) : SV.den (SV.slot 25
 (SV.v I)))) ∧ (((↑(ws.length) : Int) != (↑(l.length) : Int)) = false → ws.length ≤ 6 ∧ (0 : SV.den (SV.slot 6 (SV.v I))) ≤ (0 : Int) ∧ (0 : Int) ≤ (64 : SV.den (SV.slot 6 (SV.v I))) * (0 : Int))) ∧ ∀ (s' : SV.den (SV.slot
 ((6, SV.v I).1) ((6, SV.v I).2))) (b' : Bool), b' = ((↑(ws.length) : Int) != (↑(l.length) : Int) || !List.all (List.drop 0 ws) inW) → (b' = false → s' = (0 : Int) + List.sum (List.drop 0 ws)) → fork b' (K ((0 : Int), (103
 : Int), ())) (fork (s' != (64 : Int)) (K ((0 : Int), (103 : Int), ())) ((okW l ∧ ws.length = l.length ∧ (∀ (w : Ty.den I), w ∈ ws → (0 : Ty.den I) ≤ w ∧ w ≤ (64 : Ty.den I)) ∧ (↑(l.length) : Int) = (↑(l.length) : SV.den
 (SV.slot 45 (SV.v I))) ∧ (0 : SV.den (SV.slot 46 (SV.v I))) ≤ (0 : Int) ∧ (0 : Int) ≤ (↑(l.length) : SV.den (SV.slot 46 (SV.v I)))) ∧ ∀ (x' : Int), x' = maxR (List.drop 0 l) (List.drop 0 ws) (0 : Int) → K (x', (0 : Int),
 ()))))) := by kernel_rfl
end Go.P10
