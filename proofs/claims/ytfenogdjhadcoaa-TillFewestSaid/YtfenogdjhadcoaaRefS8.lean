/- Payments of the reference, and the statements: states and what is to be shown, reduced. No conditions. -/
import Derived.Test.YtfenogdjhadcoaaPayS
import Derived.Test.YtfenogdjhadcoaaWorksT
set_option linter.unusedSimpArgs false
set_option linter.unusedVariables false
set_option linter.constructorNameAsVariable false
set_option maxRecDepth 100000
set_option maxHeartbeats 2000000
namespace Go.P8
open Go.Lom Go.Proofs Go

/-- As the reference says: -1: it cannot be paid. -/
def conv (x : Int) : Int := if x ≥ 1073741824 then -1 else x
def tabF (l : List (Int × Int)) (i n : Nat) : List Int := (List.range' i n).map fun s : Nat => conv (few l (s : Int))
def tabL (l : List (Int × Int)) (sum : Int) : List Int := tabF l 0 (sum + 1).toNat
abbrev sh78a : SV := S [(3, .v I), (9, .own 0 I), (10, .v I)]
abbrev sh78ae : SV := S [(9, .own 0 I)]
abbrev lc78a : LC2 := ⟨0, sh78a, 1, fun (s, o, i, _) Q => (0 ≤ s ∧ s ≤ 2000 ∧ 0 ≤ i ∧ i ≤ s + 1 ∧ (o.length : Int) ≤ i) ∧ ∀ r, r = o ++ List.replicate (s + 1 - i).toNat (-1) → Q (.exit 0) (stS 1 sh78ae (r, ()))⟩
theorem v78A (s : Int) (o : List Int) (i : Int) (Q : AX → St → Prop) : (xloop2 Try.prog { nm := true } 5 78 0 lc78a (fun _ => some (sh78ae, 1)) (fun (s, _, i, _) => (s + 1 - i).toNat) (s, o, i, ()) Q) =
  (fork (decide (i ≤ s)) (req (decide (0 + o.length ≤ o.length)) (req (fitsN (o.length + 1) 8) (∀ (ys : List (Ty.den (Ty.i IntKind.i64))), ys = seg 0 (o.length) o ++ [(-1 : Int)] → req (inR IntKind.i64 (i + 1)) (req (decide
 (0 + (o.length + 1) ≤ ys.length)) (Int.toNat (s + (1 : SV.den (SV.slot 3 (SV.v Go.P8.I))) - (i + 1)) < Int.toNat (s + (1 : SV.den (SV.slot 3 (SV.v Go.P8.I))) - i) ∧ LC2.spec Go.P8.lc78a (s, seg 0 (o.length + 1) ys, i + 1,
 ()) Q))))) (req (decide (0 + o.length ≤ o.length)) (Q (AX.exit 0) (stS 1 Go.P8.sh78ae (seg 0 (o.length) o, ()))))) := by kernel_rfl
/-- The best of the reference, after so many of a kind. -/
def refM (g : Int → Int) (c s : Int) : Nat → Int → Int → Int
  | 0, _, b => b
  | r + 1, i, b => refM g c s r (i + 1) (if g (s - i * c) ≥ 0 ∧ (b < 0 ∨ g (s - i * c) + i < b) then g (s - i * c) + i else b)
abbrev sh78c : SV := S [(0, .v L), (1, .v L), (2, .v I), (3, .v I), (11, .v L), (12, .own 0 I), (13, .v I), (14, .v I), (15, .v I)]
abbrev sh78ce : SV := S [(0, .v L), (1, .v L), (2, .v I), (3, .v I), (11, .v L), (12, .own 0 I), (13, .v I), (14, .v I)]
abbrev lc78c : LC2 := ⟨0, sh78c, 1, fun (cs, hv, k, sm, rs, o, s, b, n, _) Q => (okC cs hv ∧ (0 ≤ k ∧ k < cs.length) ∧ (0 ≤ s ∧ s ≤ sm ∧ sm ≤ 2000) ∧ rs = tabL (lst cs hv (k + 1)) sm ∧ (0 ≤ n ∧ n ≤ manyI cs hv (k, s)) ∧ (-1 ≤ b ∧ b ≤ 1073741824)) ∧
  ∀ r : Int, r = refM (fun x => conv (few (lst cs hv (k + 1)) x)) (cs.getD k.toNat 0) s (manyI cs hv (k, s) - n).toNat n b → Q (.exit 4) (stS 1 sh78ce (cs, hv, k, sm, rs, o, s, r, ()))⟩
theorem v78C (cs hv : List Int) (k sm : Int) (rs o : List Int) (s b n : Int) (Q : AX → St → Prop) : (xloop2 Try.prog { nm := true } 5 78 2 lc78c (fun _ => some (sh78ce, 1)) (fun (cs, hv, k, _, _, _, s, _, n, _) => (manyI cs hv (k, s) - n).toNat) (cs, hv, k, sm, rs, o, s, b, n, ()) Q) =
  (req (decide ((0 : Int) ≤ k ∧ k < (↑(hv.length) : Int))) (fork (decide (n ≤ List.getD hv (Int.toNat k) (0 : Int))) (req (decide ((0 : Int) ≤ k ∧ k < (↑(cs.length) : Int))) (req (inR IntKind.i64 (n * List.getD cs
 (Int.toNat k) (0 : Int))) (fork (decide (n * List.getD cs (Int.toNat k) (0 : Int) ≤ s)) (req (decide ((0 : Int) ≤ k ∧ k < (↑(cs.length) : Int))) (req (inR IntKind.i64 (n * List.getD cs (Int.toNat k) (0 : Int))) (req (inR
 IntKind.i64 (s - n * List.getD cs (Int.toNat k) (0 : Int))) (req (decide ((0 : Int) ≤ s - n * List.getD cs (Int.toNat k) (0 : Int) ∧ s - n * List.getD cs (Int.toNat k) (0 : Int) < (↑(rs.length) : Int))) (fork (decide
 (List.getD rs (Int.toNat (s - n * List.getD cs (Int.toNat k) (0 : Int))) (0 : Int) ≥ (0 : Int))) (fork (decide (b < (0 : Int))) (req (inR IntKind.i64 (List.getD rs (Int.toNat (s - n * List.getD cs (Int.toNat k) (0 :
 Int))) (0 : Int) + n)) (req (inR IntKind.i64 (n + 1)) (req (decide (0 + o.length ≤ o.length)) (Int.toNat (Go.P8.manyI cs hv (k, s) - (n + 1)) < Int.toNat (Go.P8.manyI cs hv (k, s) - n) ∧ LC2.spec Go.P8.lc78c (cs, hv, k,
 sm, rs, seg 0 (o.length) o, s, List.getD rs (Int.toNat (s - n * List.getD cs (Int.toNat k) (0 : Int))) (0 : Int) + n, n + 1, ()) Q)))) (req (inR IntKind.i64 (List.getD rs (Int.toNat (s - n * List.getD cs (Int.toNat k) (0
 : Int))) (0 : Int) + n)) (fork (decide (List.getD rs (Int.toNat (s - n * List.getD cs (Int.toNat k) (0 : Int))) (0 : Int) + n < b)) (req (inR IntKind.i64 (List.getD rs (Int.toNat (s - n * List.getD cs (Int.toNat k) (0 :
 Int))) (0 : Int) + n)) (req (inR IntKind.i64 (n + 1)) (req (decide (0 + o.length ≤ o.length)) (Int.toNat (Go.P8.manyI cs hv (k, s) - (n + 1)) < Int.toNat (Go.P8.manyI cs hv (k, s) - n) ∧ LC2.spec Go.P8.lc78c (cs, hv, k,
 sm, rs, seg 0 (o.length) o, s, List.getD rs (Int.toNat (s - n * List.getD cs (Int.toNat k) (0 : Int))) (0 : Int) + n, n + 1, ()) Q)))) (req (inR IntKind.i64 (n + 1)) (req (decide (0 + o.length ≤ o.length)) (Int.toNat
 (Go.P8.manyI cs hv (k, s) - (n + 1)) < Int.toNat (Go.P8.manyI cs hv (k, s) - n) ∧ LC2.spec Go.P8.lc78c (cs, hv, k, sm, rs, seg 0 (o.length) o, s, b, n + 1, ()) Q)))))) (req (inR IntKind.i64 (n + 1)) (req (decide (0 +
 o.length ≤ o.length)) (Int.toNat (Go.P8.manyI cs hv (k, s) - (n + 1)) < Int.toNat (Go.P8.manyI cs hv (k, s) - n) ∧ LC2.spec Go.P8.lc78c (cs, hv, k, sm, rs, seg 0 (o.length) o, s, b, n + 1, ()) Q)))))))) (req (decide (0 +
 o.length ≤ o.length)) (Q (AX.exit 4) (stS 1 Go.P8.sh78ce (cs, hv, k, sm, rs, seg 0 (o.length) o, s, b, ()))))))) (req (decide (0 + o.length ≤ o.length)) (Q (AX.exit 4) (stS 1 Go.P8.sh78ce (cs, hv, k, sm, rs, seg 0
 (o.length) o, s, b, ())))))) := by kernel_rfl
abbrev sh78b : SV := S [(0, .v L), (1, .v L), (2, .v I), (3, .v I), (11, .v L), (12, .own 0 I), (13, .v I)]
abbrev sh78be : SV := S [(12, .own 0 I)]
abbrev lc78b : LC2 := ⟨0, sh78b, 1, fun (cs, hv, k, sm, rs, o, s, _) Q => (okC cs hv ∧ (0 ≤ k ∧ k < cs.length) ∧ (0 ≤ s ∧ s ≤ sm + 1 ∧ 0 ≤ sm ∧ sm ≤ 2000) ∧ rs = tabL (lst cs hv (k + 1)) sm ∧ (o.length : Int) ≤ s) ∧
  ∀ r, r = o ++ tabF (lst cs hv k) s.toNat (sm + 1 - s).toNat → Q (.exit 2) (stS 1 sh78be (r, ()))⟩
theorem v78B (cs hv : List Int) (k sm : Int) (rs o : List Int) (s : Int) (Q : AX → St → Prop) : (xloop2 Try.prog { nm := true, l2 := [(78, 2, lc78c)] } 5 78 1 lc78b (fun _ => some (sh78be, 1)) (fun (_, _, _, sm, _, _, s, _) => (sm + 1 - s).toNat) (cs, hv, k, sm, rs, o, s, ()) Q) =
  (fork (decide (s ≤ sm)) (req (decide (0 + o.length ≤ o.length)) ((Go.P8.okC cs hv ∧ ((0 : SV.den (SV.slot 2 (SV.v Go.P8.I))) ≤ k ∧ k < (↑(cs.length) : SV.den (SV.slot 2 (SV.v Go.P8.I)))) ∧ ((0 : SV.den (SV.slot 13 (SV.v
 Go.P8.I))) ≤ s ∧ s ≤ sm ∧ sm ≤ (2000 : SV.den (SV.slot 3 (SV.v Go.P8.I)))) ∧ rs = Go.P8.tabL (Go.P8.lst cs hv (k + 1)) sm ∧ ((0 : SV.den (SV.slot 15 (SV.v Go.P8.I))) ≤ (0 : Int) ∧ (0 : Int) ≤ Go.P8.manyI cs hv (k, s)) ∧
 (-1 : SV.den (SV.slot 14 (SV.v Go.P8.I))) ≤ (-1 : Int) ∧ (-1 : Int) ≤ (1073741824 : SV.den (SV.slot 14 (SV.v Go.P8.I)))) ∧ ∀ (r : Int), r = Go.P8.refM (fun x => Go.P8.conv (Go.P8.few (Go.P8.lst cs hv (k + 1)) x))
 (List.getD cs (Int.toNat k) (0 : Ty.den Go.P8.I)) s (Int.toNat (Go.P8.manyI cs hv (k, s) - 0)) (0 : Int) (-1 : Int) → req (decide (0 + List.length (seg 0 (o.length) o) ≤ List.length (seg 0 (o.length) o))) (req (fitsN
 (List.length (seg 0 (o.length) o) + 1) 8) (∀ (ys : List (Ty.den (Ty.i IntKind.i64))), ys = seg 0 (List.length (seg 0 (o.length) o)) (seg 0 (o.length) o) ++ [r] → req (inR IntKind.i64 (s + 1)) (req (decide (0 +
 (List.length (seg 0 (o.length) o) + 1) ≤ ys.length)) (Int.toNat (sm + (1 : SV.den (SV.slot 3 (SV.v Go.P8.I))) - (s + 1)) < Int.toNat (sm + (1 : SV.den (SV.slot 3 (SV.v Go.P8.I))) - s) ∧ LC2.spec Go.P8.lc78b (cs, hv, k,
 sm, rs, seg 0 (List.length (seg 0 (o.length) o) + 1) ys, s + 1, ()) Q)))))) (req (decide (0 + o.length ≤ o.length)) (Q (AX.exit 2) (stS 1 Go.P8.sh78be (seg 0 (o.length) o, ()))))) := by kernel_rfl
abbrev fc78 (c : Nat) : FC := ⟨[.v L, .v L, .v I, .v I], [L], fun x K => (okC x.1 x.2.1 ∧ (0 ≤ x.2.2.1 ∧ x.2.2.1 ≤ x.1.length ∧ x.1.length - x.2.2.1 < c) ∧ 0 ≤ x.2.2.2.1 ∧ x.2.2.2.1 ≤ 2000) ∧ ∀ r, r = tabL (lst x.1 x.2.1 x.2.2.1) x.2.2.2.1 → K (r, ())⟩
theorem v78F (c : Nat) (cs hv : List Int) (k sm : Int) (K : dens [L] → Prop) : (xfn1 Try.prog { nm := true, f := [(78, fc78 c)], l2 := [(78, 0, lc78a), (78, 1, lc78b)] } 5 78 (fc78 (c + 1)) (cs, hv, k, sm, ()) K) =
  (fork (k == (↑(cs.length) : Int)) (((0 : SV.den (SV.slot 3 (SV.v Go.P8.I))) ≤ sm ∧ sm ≤ (2000 : SV.den (SV.slot 3 (SV.v Go.P8.I))) ∧ (0 : SV.den (SV.slot 10 (SV.v Go.P8.I))) ≤ (1 : Int) ∧ (1 : Int) ≤ sm + (1 : SV.den
 (SV.slot 10 (SV.v Go.P8.I))) ∧ (1 : Int) ≤ (1 : Int)) ∧ ∀ (r : SV.den (SV.slot ((9, SV.own 0 Go.P8.I).1) ((9, SV.own 0 Go.P8.I).2))), r = [(0 : Int)] ++ List.replicate (Int.toNat (sm + (1 : SV.den (SV.slot 3 (SV.v
 Go.P8.I))) - 1)) (-1 : Ty.den Go.P8.I) → req (decide (0 + r.length ≤ r.length)) (K (seg 0 (r.length) r, ()))) (req (inR IntKind.i64 (k + 1)) ((Go.P8.okC cs hv ∧ ((0 : AT.den (AT.v Go.P8.I)) ≤ k + 1 ∧ k + 1 ≤ (↑(cs.length)
 : AT.den (AT.v Go.P8.I)) ∧ (↑(cs.length) : AT.den (AT.v Go.P8.I)) - (k + 1) < (↑c : AT.den (AT.v Go.P8.I))) ∧ (0 : AT.den (AT.v Go.P8.I)) ≤ sm ∧ sm ≤ (2000 : AT.den (AT.v Go.P8.I))) ∧ ∀ (r : List Int), r = Go.P8.tabL
 (Go.P8.lst cs hv (k + 1)) sm → (Go.P8.okC cs hv ∧ ((0 : SV.den (SV.slot 2 (SV.v Go.P8.I))) ≤ k ∧ k < (↑(cs.length) : SV.den (SV.slot 2 (SV.v Go.P8.I)))) ∧ ((0 : SV.den (SV.slot 13 (SV.v Go.P8.I))) ≤ (0 : Int) ∧ (0 : Int)
 ≤ sm + (1 : SV.den (SV.slot 13 (SV.v Go.P8.I))) ∧ (0 : SV.den (SV.slot 3 (SV.v Go.P8.I))) ≤ sm ∧ sm ≤ (2000 : SV.den (SV.slot 3 (SV.v Go.P8.I)))) ∧ r = Go.P8.tabL (Go.P8.lst cs hv (k + 1)) sm ∧ (0 : Int) ≤ (0 : Int)) ∧ ∀
 (r : SV.den (SV.slot ((12, SV.own 0 Go.P8.I).1) ((12, SV.own 0 Go.P8.I).2))), r = [] ++ Go.P8.tabF (Go.P8.lst cs hv k) 0 (Int.toNat (sm + (1 : SV.den (SV.slot 3 (SV.v Go.P8.I))) - 0)) → req (decide (0 + r.length ≤
 r.length)) (K (seg 0 (r.length) r, ()))))) := by kernel_rfl
/-! pay -/
abbrev sh46b : SV := S [(0, .v L), (1, .v L), (2, .v I), (8, .v I), (9, .own 0 I), (10, .v I), (11, .v L), (12, .v I)]
abbrev sh46be : SV := S [(0, .v L), (1, .v L), (2, .v I), (8, .v I), (9, .own 0 I), (10, .v I), (12, .v I)]
abbrev lc46b : LC2 := ⟨0, sh46b, 1, fun (cs, hv, s, ms, o, i, rs, n, _) Q => (okC cs hv ∧ (0 ≤ i ∧ i < cs.length) ∧ (0 ≤ s ∧ s ≤ 2000) ∧ rs = tabL (lst cs hv (i + 1)) s ∧ (ms = fewI cs hv (i, s) ∧ ms < 1073741824) ∧ (0 ≤ n ∧ n ≤ hv.getD i.toNat 0) ∧ hasN (few (lst cs hv (i + 1))) (cs.getD i.toNat 0) s ms (min n (manyI cs hv (i, s) - 1))) ∧
  ∀ r : Int, r = topN (few (lst cs hv (i + 1))) (cs.getD i.toNat 0) s ms (min n (manyI cs hv (i, s) - 1)).toNat → Q (.exit 2) (stS 1 sh46be (cs, hv, s, ms, o, i, r, ()))⟩
theorem v46B (cs hv : List Int) (s ms : Int) (o : List Int) (i : Int) (rs : List Int) (n : Int) (Q : AX → St → Prop) : (xloop2 Try.prog { nm := true } 5 46 1 lc46b (fun _ => some (sh46be, 1)) (fun (_, _, _, _, _, _, _, n, _) => n.toNat) (cs, hv, s, ms, o, i, rs, n, ()) Q) =
  (req (decide ((0 : Int) ≤ i ∧ i < (↑(cs.length) : Int))) (req (inR IntKind.i64 (n * List.getD cs (Int.toNat i) (0 : Int))) (fork (decide (n * List.getD cs (Int.toNat i) (0 : Int) > s)) (req (inR IntKind.i64 (n - 1)) (req
 (decide (0 + o.length ≤ o.length)) (Int.toNat (n - 1) < Int.toNat n ∧ LC2.spec Go.P8.lc46b (cs, hv, s, ms, seg 0 (o.length) o, i, rs, n - 1, ()) Q))) (req (decide ((0 : Int) ≤ i ∧ i < (↑(cs.length) : Int))) (req (inR
 IntKind.i64 (n * List.getD cs (Int.toNat i) (0 : Int))) (req (inR IntKind.i64 (s - n * List.getD cs (Int.toNat i) (0 : Int))) (req (decide ((0 : Int) ≤ s - n * List.getD cs (Int.toNat i) (0 : Int) ∧ s - n * List.getD cs
 (Int.toNat i) (0 : Int) < (↑(rs.length) : Int))) (req (inR IntKind.i64 (ms - n)) (fork (List.getD rs (Int.toNat (s - n * List.getD cs (Int.toNat i) (0 : Int))) (0 : Int) != ms - n) (req (inR IntKind.i64 (n - 1)) (req
 (decide (0 + o.length ≤ o.length)) (Int.toNat (n - 1) < Int.toNat n ∧ LC2.spec Go.P8.lc46b (cs, hv, s, ms, seg 0 (o.length) o, i, rs, n - 1, ()) Q))) (req (decide (0 + o.length ≤ o.length)) (Q (AX.exit 2) (stS 1
 Go.P8.sh46be (cs, hv, s, ms, seg 0 (o.length) o, i, n, ()))))))))))))) := by kernel_rfl
abbrev sh46 : SV := S [(0, .v L), (1, .v L), (2, .v I), (8, .v I), (9, .own 0 I), (10, .v I)]
abbrev sh46e : SV := S [(9, .own 0 I)]
abbrev lc46 : LC2 := ⟨0, sh46, 1, fun (cs, hv, s, ms, o, i, _) Q => (okC cs hv ∧ (0 ≤ i ∧ i ≤ cs.length) ∧ (0 ≤ s ∧ s ≤ 2000) ∧ (ms = fewI cs hv (i, s) ∧ ms < 1073741824) ∧ (o.length : Int) ≤ i) ∧
  ∀ r, r = o ++ payL (lst cs hv i) s → Q (.exit 0) (stS 1 sh46e (r, ()))⟩
theorem v46L (cs hv : List Int) (s ms : Int) (o : List Int) (i : Int) (Q : AX → St → Prop) : (xloop2 Try.prog { nm := true, f := [(78, fc78 9)], l2 := [(46, 1, lc46b)] } 5 46 0 lc46 (fun _ => some (sh46e, 1)) (fun (cs, _, _, _, _, i, _) => mL cs i) (cs, hv, s, ms, o, i, ()) Q) =
  (fork (decide (i < (↑(cs.length) : Int))) (req (inR IntKind.i64 (i + 1)) ((Go.P8.okC cs hv ∧ ((0 : AT.den (AT.v Go.P8.I)) ≤ i + 1 ∧ i + 1 ≤ (↑(cs.length) : AT.den (AT.v Go.P8.I)) ∧ (↑(cs.length) : AT.den (AT.v Go.P8.I)) -
 (i + 1) < (↑9 : AT.den (AT.v Go.P8.I))) ∧ (0 : AT.den (AT.v Go.P8.I)) ≤ s ∧ s ≤ (2000 : AT.den (AT.v Go.P8.I))) ∧ ∀ (r : List Int), r = Go.P8.tabL (Go.P8.lst cs hv (i + 1)) s → req (decide ((0 : Int) ≤ i ∧ i <
 (↑(hv.length) : Int))) (req (decide (0 + o.length ≤ o.length)) ((Go.P8.okC cs hv ∧ ((0 : SV.den (SV.slot 10 (SV.v Go.P8.I))) ≤ i ∧ i < (↑(cs.length) : SV.den (SV.slot 10 (SV.v Go.P8.I)))) ∧ ((0 : SV.den (SV.slot 2 (SV.v
 Go.P8.I))) ≤ s ∧ s ≤ (2000 : SV.den (SV.slot 2 (SV.v Go.P8.I)))) ∧ r = Go.P8.tabL (Go.P8.lst cs hv (i + 1)) s ∧ (ms = Go.P8.fewI cs hv (i, s) ∧ ms < (1073741824 : SV.den (SV.slot 8 (SV.v Go.P8.I)))) ∧ ((0 : SV.den
 (SV.slot 12 (SV.v Go.P8.I))) ≤ List.getD hv (Int.toNat i) (0 : Int) ∧ List.getD hv (Int.toNat i) (0 : Int) ≤ List.getD hv (Int.toNat i) (0 : Ty.den Go.P8.I)) ∧ Go.P8.hasN (Go.P8.few (Go.P8.lst cs hv (i + 1))) (List.getD
 cs (Int.toNat i) (0 : Ty.den Go.P8.I)) s ms (Min.min (List.getD hv (Int.toNat i) (0 : Int)) (Go.P8.manyI cs hv (i, s) - 1))) ∧ ∀ (r : Int), r = Go.P8.topN (Go.P8.few (Go.P8.lst cs hv (i + 1))) (List.getD cs (Int.toNat i)
 (0 : Ty.den Go.P8.I)) s ms (Int.toNat (Min.min (List.getD hv (Int.toNat i) (0 : Int)) (Go.P8.manyI cs hv (i, s) - (1 : SV.den (SV.slot 12 (SV.v Go.P8.I)))))) → req (decide (0 + List.length (seg 0 (o.length) o) ≤
 List.length (seg 0 (o.length) o))) (req (fitsN (List.length (seg 0 (o.length) o) + 1) 8) (∀ (ys : List (Ty.den (Ty.i IntKind.i64))), ys = seg 0 (List.length (seg 0 (o.length) o)) (seg 0 (o.length) o) ++ [r] → req (decide
 ((0 : Int) ≤ i ∧ i < (↑(cs.length) : Int))) (req (inR IntKind.i64 (r * List.getD cs (Int.toNat i) (0 : Int))) (req (inR IntKind.i64 (s - r * List.getD cs (Int.toNat i) (0 : Int))) (req (inR IntKind.i64 (ms - r)) (req (inR
 IntKind.i64 (i + 1)) (req (decide (0 + (List.length (seg 0 (o.length) o) + 1) ≤ ys.length)) (Go.P8.mL cs (i + 1) < Go.P8.mL cs i ∧ LC2.spec Go.P8.lc46 (cs, hv, s - r * List.getD cs (Int.toNat i) (0 : Int), ms - r, seg 0
 (List.length (seg 0 (o.length) o) + 1) ys, i + 1, ()) Q)))))))))))) (req (decide (0 + o.length ≤ o.length)) (Q (AX.exit 0) (stS 1 Go.P8.sh46e (seg 0 (o.length) o, ()))))) := by kernel_rfl
abbrev fc46 : FC := ⟨[.v L, .v L, .v I], [L, .b], fun x K => (okC x.1 x.2.1 ∧ 0 ≤ x.2.2.1 ∧ x.2.2.1 ≤ 2000) ∧ ∀ (r : List Int) (b : Bool), b = decide (few (x.1.zip x.2.1) x.2.2.1 < 1073741824) → r = (payR x.1 x.2.1 x.2.2.1).1 → K (r, b, ())⟩
theorem v46F (cs hv : List Int) (s : Int) (K : dens [L, .b] → Prop) : (xfn1 Try.prog { nm := true, f := [(78, fc78 9)], l2 := [(46, 0, lc46)] } 5 46 fc46 (cs, hv, s, ()) K) =
  ((Go.P8.okC cs hv ∧ ((0 : AT.den (AT.v Go.P8.I)) ≤ (0 : Int) ∧ (0 : Int) ≤ (↑(cs.length) : AT.den (AT.v Go.P8.I)) ∧ (↑(cs.length) : AT.den (AT.v Go.P8.I)) - 0 < (↑9 : AT.den (AT.v Go.P8.I))) ∧ (0 : AT.den (AT.v Go.P8.I))
 ≤ s ∧ s ≤ (2000 : AT.den (AT.v Go.P8.I))) ∧ ∀ (r : List Int), r = Go.P8.tabL (Go.P8.lst cs hv (0 : Int)) s → req (decide ((0 : Int) ≤ s ∧ s < (↑(r.length) : Int))) (fork (decide (List.getD r (Int.toNat s) (0 : Int) < (0 :
 Int))) (K ([], false, ())) ((Go.P8.okC cs hv ∧ ((0 : SV.den (SV.slot 10 (SV.v Go.P8.I))) ≤ (0 : Int) ∧ (0 : Int) ≤ (↑(cs.length) : SV.den (SV.slot 10 (SV.v Go.P8.I)))) ∧ ((0 : SV.den (SV.slot 2 (SV.v Go.P8.I))) ≤ s ∧ s ≤
 (2000 : SV.den (SV.slot 2 (SV.v Go.P8.I)))) ∧ (List.getD r (Int.toNat s) (0 : Int) = Go.P8.fewI cs hv ((0 : Int), s) ∧ List.getD r (Int.toNat s) (0 : Int) < (1073741824 : SV.den (SV.slot 8 (SV.v Go.P8.I)))) ∧ (0 : Int) ≤
 (0 : Int)) ∧ ∀ (r : SV.den (SV.slot ((9, SV.own 0 Go.P8.I).1) ((9, SV.own 0 Go.P8.I).2))), r = [] ++ Go.P8.payL (Go.P8.lst cs hv (0 : Int)) s → req (decide (0 + r.length ≤ r.length)) (K (seg 0 (r.length) r, true, ()))))) := by kernel_rfl
abbrev fcFrom' : FC := ⟨[.v I, .v I, .v I], [.b], fun x K => ∀ b : Bool, b = decide (x.1 ≤ x.2.1 ∧ x.2.1 ≤ x.2.2.1) → K (b, ())⟩
theorem v13F (d : Dr) (sum : Int) (K : dens [L, E] → Prop) : (xfn1 Try.prog { f := [(16, fcCheck'), (26, fcFrom), (46, fc46)] } 5 13 fcPayE (d, sum, ()) K) =
  ((List.length (d.1) ≤ 9223372036854775807 ∧ List.length (d.2) ≤ 9223372036854775807) ∧ ∀ (e : Int), e = Go.P8.checkE d → fork (e != (0 : Int)) (K ([], e, ())) (fork (!decide ((0 : Int) ≤ sum ∧ sum ≤ (2000 : Int))) (K ([],
 (7 : Int), ())) ((Go.P8.okC (d.1) (d.2) ∧ (0 : AT.den (AT.v Go.P8.I)) ≤ sum ∧ sum ≤ (2000 : AT.den (AT.v Go.P8.I))) ∧ ∀ (r : List Int) (b : Bool), b = decide (Go.P8.few (List.zip (d.1) (d.2)) sum < (1073741824 : Int)) → r
 = (Go.P8.payR (d.1) (d.2) sum).1 → fork (!b) (K ([], (4 : Int), ())) (K (r, (0 : Int), ()))))) := by kernel_rfl
/-! Change -/
abbrev sh51 : SV := S [(0, .v L), (1, .v L), (5, .v I), (6, .v I)]
abbrev sh51e : SV := S [(5, .v I)]
abbrev lc51 : LC2 := ⟨0, sh51, 0, fun (cs, l, n, i, _) Q => (0 ≤ i ∧ i ≤ l.length ∧ l.length = cs.length ∧ l.length ≤ 8 ∧ (∀ x ∈ l, 0 ≤ x ∧ x ≤ 50) ∧ (∀ c ∈ cs, 1 ≤ c ∧ c ≤ 50000) ∧ 0 ≤ n ∧ n ≤ i * 2500000) ∧ ∀ r : Int, r = n + valueN (cs.drop i.toNat) (l.drop i.toNat) → Q (.exit 0) (stS 0 sh51e (r, ()))⟩
theorem v51L (cs l : List Int) (n i : Int) (Q : AX → St → Prop) : (xloop2 Try.prog {} 5 51 0 lc51 (fun _ => some (sh51e, 0)) (fun (_, l, _, i, _) => mL l i) (cs, l, n, i, ()) Q) =
  (fork (decide (i < (↑(l.length) : Int))) (fork (decide (i < (↑(cs.length) : Int))) (req (decide ((0 : Int) ≤ i ∧ i < (↑(l.length) : Int))) (req (decide ((0 : Int) ≤ i ∧ i < (↑(cs.length) : Int))) (req (inR IntKind.i64
 (List.getD l (Int.toNat i) (0 : Int) * List.getD cs (Int.toNat i) (0 : Int))) (req (inR IntKind.i64 (n + List.getD l (Int.toNat i) (0 : Int) * List.getD cs (Int.toNat i) (0 : Int))) (req (inR IntKind.i64 (i + 1))
 (Go.P8.mL l (i + 1) < Go.P8.mL l i ∧ LC2.spec Go.P8.lc51 (cs, l, n + List.getD l (Int.toNat i) (0 : Int) * List.getD cs (Int.toNat i) (0 : Int), i + 1, ()) Q)))))) (Q (AX.exit 0) (stS 0 Go.P8.sh51e (n, ())))) (Q (AX.exit
 0) (stS 0 Go.P8.sh51e (n, ())))) := by kernel_rfl
abbrev fc51 : FC := ⟨[.v L, .v L], [I], fun x K => (x.2.1.length = x.1.length ∧ x.2.1.length ≤ 8 ∧ (∀ y ∈ x.2.1, 0 ≤ y ∧ y ≤ 50) ∧ (∀ c ∈ x.1, 1 ≤ c ∧ c ≤ 50000)) ∧ ∀ r : Int, r = valueN x.1 x.2.1 → K (r, ())⟩
theorem v51F (cs l : List Int) (K : dens [I] → Prop) : (xfn1 Try.prog { l2 := [(51, 0, lc51)] } 5 51 fc51 (cs, l, ()) K) =
  (((0 : SV.den (SV.slot 6 (SV.v Go.P8.I))) ≤ (0 : Int) ∧ (0 : Int) ≤ (↑(l.length) : SV.den (SV.slot 6 (SV.v Go.P8.I))) ∧ l.length = cs.length ∧ l.length ≤ 8 ∧ (∀ (x : Ty.den Go.P8.I), x ∈ l → (0 : Ty.den Go.P8.I) ≤ x ∧ x ≤
 (50 : Ty.den Go.P8.I)) ∧ (∀ (c : Ty.den Go.P8.I), c ∈ cs → (1 : Ty.den Go.P8.I) ≤ c ∧ c ≤ (50000 : Ty.den Go.P8.I)) ∧ (0 : SV.den (SV.slot 5 (SV.v Go.P8.I))) ≤ (0 : Int) ∧ (0 : Int) ≤ (0 : Int) * (2500000 : SV.den
 (SV.slot 5 (SV.v Go.P8.I)))) ∧ ∀ (r : Int), r = (0 : Int) + Go.P8.valueN (List.drop 0 cs) (List.drop 0 l) → K (r, ())) := by kernel_rfl
abbrev sh18a : SV := S [(1, .v L), (2, .v I), (3, .box 0 (.v TDr)), (9, .v .b), (10, .v I)]
abbrev sh18ae : SV := S [(1, .v L), (2, .v I), (3, .box 0 (.v TDr)), (9, .v .b)]
abbrev lc18a : LC2 := ⟨0, sh18a, 1, fun (g, p, d, ok, i, _) Q => (0 ≤ i ∧ i ≤ g.length ∧ g.length ≤ big) ∧ ∀ b : Bool, b = (ok && (g.drop i.toNat).all haveB) → Q (.exit 0) (stS 1 sh18ae (g, p, d, b, ()))⟩
theorem v18A (g : List Int) (p : Int) (d : Dr) (ok : Bool) (i : Int) (Q : AX → St → Prop) : (xloop2 Try.prog { f := [(26, fcFrom)] } 5 18 0 lc18a (fun _ => some (sh18ae, 1)) (fun (g, _, _, _, i, _) => mL g i) (g, p, d, ok, i, ()) Q) =
  (fork (decide (i < (↑(g.length) : Int))) (fork ok (req (decide ((0 : Int) ≤ i ∧ i < (↑(g.length) : Int))) (req (inR IntKind.i64 (i + 1)) (Go.P8.mL g (i + 1) < Go.P8.mL g i ∧ LC2.spec Go.P8.lc18a (g, p, d, decide ((0 :
 Int) ≤ List.getD g (Int.toNat i) (0 : Int) ∧ List.getD g (Int.toNat i) (0 : Int) ≤ (50 : Int)), i + 1, ()) Q))) (req (inR IntKind.i64 (i + 1)) (Go.P8.mL g (i + 1) < Go.P8.mL g i ∧ LC2.spec Go.P8.lc18a (g, p, d, false, i +
 1, ()) Q))) (Q (AX.exit 0) (stS 1 Go.P8.sh18ae (g, p, d, ok, ())))) := by kernel_rfl
abbrev sh18b : SV := S [(1, .v L), (3, .box 0 (.v TDr)), (11, .v I), (12, .own 1 I), (13, .v I)]
abbrev sh18be : SV := S [(3, .box 0 (.v TDr)), (11, .v I), (12, .own 1 I)]
abbrev lc18b : LC2 := ⟨0, sh18b, 2, fun (g, d, s, o, i, _) Q => (0 ≤ i ∧ i ≤ g.length ∧ g.length ≤ 8 ∧ d.2.length = g.length ∧ (o.length : Int) ≤ i ∧ (∀ x ∈ g, 0 ≤ x ∧ x ≤ 50) ∧ (∀ x ∈ d.2, 0 ≤ x ∧ x ≤ 50)) ∧ ∀ r, r = o ++ addL (d.2.drop i.toNat) (g.drop i.toNat) → Q (.exit 2) (stS 2 sh18be (d, s, r, ()))⟩
theorem v18B (g : List Int) (d : Dr) (s : Int) (o : List Int) (i : Int) (Q : AX → St → Prop) : (xloop2 Try.prog { nm := true } 5 18 1 lc18b (fun _ => some (sh18be, 2)) (fun (g, _, _, _, i, _) => mL g i) (g, d, s, o, i, ()) Q) =
  (fork (decide (i < (↑(g.length) : Int))) (req (decide ((0 : Int) ≤ i ∧ i < (↑(List.length (d.2)) : Int))) (req (decide ((0 : Int) ≤ i ∧ i < (↑(g.length) : Int))) (req (inR IntKind.i64 (List.getD (d.2) (Int.toNat i) (0 :
 Int) + List.getD g (Int.toNat i) (0 : Int))) (req (decide (0 + o.length ≤ o.length)) (req (fitsN (o.length + 1) 8) (∀ (ys : List (Ty.den (Ty.i IntKind.i64))), ys = seg 0 (o.length) o ++ [List.getD (d.2) (Int.toNat i) (0 :
 Int) + List.getD g (Int.toNat i) (0 : Int)] → req (inR IntKind.i64 (i + 1)) (req (decide (0 + (o.length + 1) ≤ ys.length)) (Go.P8.mL g (i + 1) < Go.P8.mL g i ∧ LC2.spec Go.P8.lc18b (g, d, s, seg 0 (o.length + 1) ys, i +
 1, ()) Q)))))))) (req (decide (0 + o.length ≤ o.length)) (Q (AX.exit 2) (stS 2 Go.P8.sh18be (d, s, seg 0 (o.length) o, ()))))) := by kernel_rfl
abbrev fcChangeR : FC := ⟨[.v TDr, .v L, .v I], [L, E], fun x K => (x.1.1.length ≤ big ∧ x.1.2.length ≤ big ∧ x.2.1.length ≤ big ∧ x.2.2.1 ≤ 9223372036854775807) ∧ ∀ r e, (r, e) = changeE x.1 x.2.1 x.2.2.1 → K (r, e, ())⟩
theorem v18F (d : Dr) (g : List Int) (p : Int) (K : dens [L, E] → Prop) : (xfn1 Try.prog { nm := true, f := [(16, fcCheck'), (51, fc51), (46, fc46)], l2 := [(18, 0, lc18a), (18, 1, lc18b)] } 5 18 fcChangeR (d, g, p, ()) K) =
  ((List.length (d.1) ≤ 9223372036854775807 ∧ List.length (d.2) ≤ 9223372036854775807) ∧ ∀ (e : Int), e = Go.P8.checkE d → fork (e != (0 : Int)) (K ([], e, ())) (fork ((↑(g.length) : Int) == (↑(List.length (d.1)) : Int))
 (((0 : SV.den (SV.slot 10 (SV.v Go.P8.I))) ≤ (0 : Int) ∧ (0 : Int) ≤ (↑(g.length) : SV.den (SV.slot 10 (SV.v Go.P8.I))) ∧ g.length ≤ 9223372036854775807) ∧ ∀ (b : Bool), b = (decide (p ≥ (0 : Int)) && List.all (List.drop
 0 g) Go.P8.haveB) → fork (!b) (K ([], (7 : Int), ())) ((g.length = List.length (d.1) ∧ g.length ≤ 8 ∧ (∀ (y : Ty.den Go.P8.I), y ∈ g → (0 : Ty.den Go.P8.I) ≤ y ∧ y ≤ (50 : Ty.den Go.P8.I)) ∧ ∀ (c : Ty.den Go.P8.I), c ∈
 d.1 → (1 : Ty.den Go.P8.I) ≤ c ∧ c ≤ (50000 : Ty.den Go.P8.I)) ∧ ∀ (r : Int), r = Go.P8.valueN (d.1) g → req (inR IntKind.i64 (r - p)) (fork (decide (r - p < (0 : Int))) (K ([], (81 : Int), ())) (fork (decide (r - p >
 (2000 : Int))) (K ([], (7 : Int), ())) (((0 : SV.den (SV.slot 13 (SV.v Go.P8.I))) ≤ (0 : Int) ∧ (0 : Int) ≤ (↑(g.length) : SV.den (SV.slot 13 (SV.v Go.P8.I))) ∧ g.length ≤ 8 ∧ List.length (d.2) = g.length ∧ (0 : Int) ≤ (0
 : Int) ∧ (∀ (x : Ty.den Go.P8.I), x ∈ g → (0 : Ty.den Go.P8.I) ≤ x ∧ x ≤ (50 : Ty.den Go.P8.I)) ∧ ∀ (x : Ty.den Go.P8.I), x ∈ d.2 → (0 : Ty.den Go.P8.I) ≤ x ∧ x ≤ (50 : Ty.den Go.P8.I)) ∧ ∀ (r_1 : SV.den (SV.slot ((12,
 SV.own 1 Go.P8.I).1) ((12, SV.own 1 Go.P8.I).2))), r_1 = [] ++ Go.P8.addL (List.drop 0 (d.2)) (List.drop 0 g) → req (decide (0 + r_1.length ≤ r_1.length)) ((Go.P8.okC (d.1) (seg 0 (r_1.length) r_1) ∧ (0 : AT.den (AT.v
 Go.P8.I)) ≤ r - p ∧ r - p ≤ (2000 : AT.den (AT.v Go.P8.I))) ∧ ∀ (r_2 : List Int) (b : Bool), b = decide (Go.P8.few (List.zip (d.1) (seg 0 (r_1.length) r_1)) (r - p) < (1073741824 : Int)) → r_2 = (Go.P8.payR (d.1) (seg 0
 (r_1.length) r_1) (r - p)).1 → fork (!b) (K ([], (4 : Int), ())) (K (r_2, (0 : Int), ())))))))) (((0 : SV.den (SV.slot 10 (SV.v Go.P8.I))) ≤ (0 : Int) ∧ (0 : Int) ≤ (↑(g.length) : SV.den (SV.slot 10 (SV.v Go.P8.I))) ∧
 g.length ≤ 9223372036854775807) ∧ ∀ (b : Bool), b = (false && List.all (List.drop 0 g) Go.P8.haveB) → fork (!b) (K ([], (7 : Int), ())) ((g.length = List.length (d.1) ∧ g.length ≤ 8 ∧ (∀ (y : Ty.den Go.P8.I), y ∈ g → (0 :
 Ty.den Go.P8.I) ≤ y ∧ y ≤ (50 : Ty.den Go.P8.I)) ∧ ∀ (c : Ty.den Go.P8.I), c ∈ d.1 → (1 : Ty.den Go.P8.I) ≤ c ∧ c ≤ (50000 : Ty.den Go.P8.I)) ∧ ∀ (r : Int), r = Go.P8.valueN (d.1) g → req (inR IntKind.i64 (r - p)) (fork
 (decide (r - p < (0 : Int))) (K ([], (81 : Int), ())) (fork (decide (r - p > (2000 : Int))) (K ([], (7 : Int), ())) (((0 : SV.den (SV.slot 13 (SV.v Go.P8.I))) ≤ (0 : Int) ∧ (0 : Int) ≤ (↑(g.length) : SV.den (SV.slot 13
 (SV.v Go.P8.I))) ∧ g.length ≤ 8 ∧ List.length (d.2) = g.length ∧ (0 : Int) ≤ (0 : Int) ∧ (∀ (x : Ty.den Go.P8.I), x ∈ g → (0 : Ty.den Go.P8.I) ≤ x ∧ x ≤ (50 : Ty.den Go.P8.I)) ∧ ∀ (x : Ty.den Go.P8.I), x ∈ d.2 → (0 :
 Ty.den Go.P8.I) ≤ x ∧ x ≤ (50 : Ty.den Go.P8.I)) ∧ ∀ (r_1 : SV.den (SV.slot ((12, SV.own 1 Go.P8.I).1) ((12, SV.own 1 Go.P8.I).2))), r_1 = [] ++ Go.P8.addL (List.drop 0 (d.2)) (List.drop 0 g) → req (decide (0 + r_1.length
 ≤ r_1.length)) ((Go.P8.okC (d.1) (seg 0 (r_1.length) r_1) ∧ (0 : AT.den (AT.v Go.P8.I)) ≤ r - p ∧ r - p ≤ (2000 : AT.den (AT.v Go.P8.I))) ∧ ∀ (r_2 : List Int) (b : Bool), b = decide (Go.P8.few (List.zip (d.1) (seg 0
 (r_1.length) r_1)) (r - p) < (1073741824 : Int)) → r_2 = (Go.P8.payR (d.1) (seg 0 (r_1.length) r_1) (r - p)).1 → fork (!b) (K ([], (4 : Int), ())) (K (r_2, (0 : Int), ())))))))))) := by kernel_rfl
/-! the statement -/
abbrev sh14 : SV := S [(0, .v L), (1, .v L), (5, .v .b), (6, .v I)]
abbrev sh14e : SV := S [(5, .v .b)]
abbrev lc14 : LC2 := ⟨0, sh14, 0, fun (a, b, ok, i, _) Q => (0 ≤ i ∧ a.length ≤ big ∧ (ok = true → a.length = b.length ∧ i ≤ a.length)) ∧ ∀ r : Bool, r = (ok && decide (a.drop i.toNat = b.drop i.toNat)) → Q (.exit 0) (stS 0 sh14e (r, ()))⟩
theorem v14L (a b : List Int) (ok : Bool) (i : Int) (Q : AX → St → Prop) : (xloop2 Try.prog {} 5 14 0 lc14 (fun _ => some (sh14e, 0)) (fun (a, _, _, i, _) => (a.length + 1 - i).toNat) (a, b, ok, i, ()) Q) =
  (fork ok (fork (decide (i < (↑(a.length) : Int))) (req (decide ((0 : Int) ≤ i ∧ i < (↑(a.length) : Int))) (req (decide ((0 : Int) ≤ i ∧ i < (↑(b.length) : Int))) (req (inR IntKind.i64 (i + 1)) (Int.toNat ((↑(a.length) :
 SV.den (SV.slot 6 (SV.v Go.P8.I))) + (1 : SV.den (SV.slot 6 (SV.v Go.P8.I))) - (i + 1)) < Int.toNat ((↑(a.length) : SV.den (SV.slot 6 (SV.v Go.P8.I))) + (1 : SV.den (SV.slot 6 (SV.v Go.P8.I))) - i) ∧ LC2.spec Go.P8.lc14
 (a, b, List.getD a (Int.toNat i) (0 : Int) == List.getD b (Int.toNat i) (0 : Int), i + 1, ()) Q)))) (Q (AX.exit 0) (stS 0 Go.P8.sh14e (ok, ())))) (Q (AX.exit 0) (stS 0 Go.P8.sh14e (ok, ())))) := by kernel_rfl
abbrev fcSame : FC := ⟨[.v L, .v L], [.b], fun x K => x.1.length ≤ big ∧ ∀ r : Bool, r = decide (x.1 = x.2.1) → K (r, ())⟩
theorem v14F (a b : List Int) (K : dens [.b] → Prop) : (xfn1 Try.prog { l2 := [(14, 0, lc14)] } 5 14 fcSame (a, b, ()) K) =
  (((0 : SV.den (SV.slot 6 (SV.v Go.P8.I))) ≤ (0 : Int) ∧ a.length ≤ 9223372036854775807 ∧ (((↑(a.length) : Int) == (↑(b.length) : Int)) = true → a.length = b.length ∧ (0 : Int) ≤ (↑(a.length) : SV.den (SV.slot 6 (SV.v
 Go.P8.I))))) ∧ ∀ (r : Bool), r = ((↑(a.length) : Int) == (↑(b.length) : Int) && decide (List.drop 0 a = List.drop 0 b)) → K (r, ())) := by kernel_rfl
abbrev fcWorks : FC := ⟨[], [.b], fun _ K => K (true, ())⟩
abbrev A2 : Ty := .pr I I
structure okD (d : Dr) : Prop where
  a : d.1.length ≤ big
  b : d.2.length ≤ big
abbrev fcPays : FC := ⟨[.v TDr, .v L, .v A2], [.b], fun x K => (okD x.1 ∧ x.2.1.length ≤ big ∧ x.2.2.1.2 ≤ 9223372036854775807) ∧ K (true, ())⟩
theorem v3F (d : Dr) (g : List Int) (a b : Int) (K : dens [.b] → Prop) : (xfn1 Try.prog { f := [(12, fcPayE), (13, fcPayE), (14, fcSame), (15, fcCheck'), (16, fcCheck'), (17, fcChange), (18, fcChangeR), (19, fcWorks)] } 5 3 fcPays (d, g, (a, b), ()) K) =
  ((List.length (d.1) ≤ 9223372036854775807 ∧ List.length (d.2) ≤ 9223372036854775807) ∧ ∀ (r : List Int) (e : Int), (r, e) = Go.P8.payE d a → (List.length (d.1) ≤ 9223372036854775807 ∧ List.length (d.2) ≤
 9223372036854775807) ∧ ∀ (r_1 : List Int) (e_1 : Int), (r_1, e_1) = Go.P8.payE d a → r.length ≤ 9223372036854775807 ∧ ∀ (r_2 : Bool), r_2 = decide (r = r_1) → fork (!r_2) (K (false, ())) (fork (e != e_1) (K (false, ()))
 ((List.length (d.1) ≤ 9223372036854775807 ∧ List.length (d.2) ≤ 9223372036854775807) ∧ ∀ (e : Int), e = Go.P8.checkE d → AV.agg [AV.rl Go.P8.I (d.1), AV.rl Go.P8.I (d.2)] = AV.agg [AV.rl Go.P8.I (d.1), AV.rl Go.P8.I
 (d.2)] ∧ (List.length (d.1) ≤ 9223372036854775807 ∧ List.length (d.2) ≤ 9223372036854775807) ∧ ∀ (e_2 : Int), e_2 = Go.P8.checkE d → fork (e != e_2) (K (false, ())) ((List.length (d.1) ≤ 9223372036854775807 ∧ List.length
 (d.2) ≤ 9223372036854775807 ∧ g.length ≤ 9223372036854775807) ∧ ∀ (r : List Int) (e : Int), (r, e) = Go.P8.changeE d g b → (List.length (d.1) ≤ 9223372036854775807 ∧ List.length (d.2) ≤ 9223372036854775807 ∧ g.length ≤
 9223372036854775807 ∧ b ≤ (9223372036854775807 : AT.den (AT.v Go.P8.I))) ∧ ∀ (r_3 : List Int) (e_3 : Int), (r_3, e_3) = Go.P8.changeE d g b → r.length ≤ 9223372036854775807 ∧ ∀ (r_4 : Bool), r_4 = decide (r = r_3) → fork
 r_4 (fork (e == e_3) (K (true, ())) (K (false, ()))) (K (false, ())))))) := by kernel_rfl
end Go.P8
