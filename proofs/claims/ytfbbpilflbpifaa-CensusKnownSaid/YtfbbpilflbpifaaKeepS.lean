/- Turns: Keeps: states and what is to be shown, reduced. No conditions. -/
import Derived.Test.YtfbbpilflbpifaaPatP
import Derived.Test.YtfbbpilflbpifaaRankQ
set_option linter.unusedSimpArgs false
set_option linter.unusedVariables false
set_option linter.constructorNameAsVariable false
set_option maxRecDepth 100000
set_option maxHeartbeats 2000000
namespace Go.P10
open Go.Lom Go.Proofs Go
def roomB (ps : List Int) (n : Int) : Bool := !decide (0 ≤ n ∧ n ≤ (ps.length : Int) - 1)
abbrev cl81 : SV := .fn 81 .nil (A [.box 0 (.v L)])
abbrev sh96c : SV := S [(0, .v L), (1, cl81), (7, .v I), (8, .v I)]
abbrev sh96ce : SV := S [(1, cl81)]
abbrev sh96cr : SV := S [(1, cl81), (4, .v I)]
def ex96c : Ex2
  | .ret => some (sh96cr, 1)
  | _ => some (sh96ce, 1)
abbrev lc96c : LC2 := ⟨1, sh96c, 1, fun (l, c, m, i, _) Q => ((0 ≤ i ∧ i ≤ l.length ∧ m = l.length ∧ l.length ≤ big) ∧ c.2.1.length ≤ 5) ∧ (idxF (roomB c.2.1) (l.drop i.toNat) i < 0 → Q (.exit 0) (stS 1 sh96ce (c, ()))) ∧ (0 ≤ idxF (roomB c.2.1) (l.drop i.toNat) i → Q .ret (stS 1 sh96cr (c, idxF (roomB c.2.1) (l.drop i.toNat) i, ())))⟩
theorem v96cL (l ps : List Int) (m i : Int) (Q : AX → St → Prop) : (xloop2 Try.prog {} 5 96 0 lc96c ex96c (fun (l, _, m, i, _) => mL l i) (l, ((), (ps, ())), m, i, ()) Q) =
  (fork (decide (i < m)) (req (decide ((0 : Int) ≤ i ∧ i < (↑(l.length) : Int))) (req (inR IntKind.i64 ((↑(ps.length) : Int) - 1)) (fork (decide (List.getD l (Int.toNat i) (0 : Int) ≥ (0 : Int))) (fork (!decide (List.getD l
 (Int.toNat i) (0 : Int) ≤ (↑(ps.length) : Int) - 1)) (Q AX.ret (stS 1 sh96cr (((), ps, ()), i, ()))) (req (inR IntKind.i64 (i + 1)) (mL l (i + 1) < mL l i ∧ LC2.spec lc96c (l, ((), ps, ()), m, i + 1, ()) Q))) (Q AX.ret
 (stS 1 sh96cr (((), ps, ()), i, ())))))) (Q (AX.exit 0) (stS 1 sh96ce (((), ps, ()), ())))) := by kernel_rfl
abbrev fc96c : FC2 := ⟨A [.v L, cl81], 1, A [.any, cl81, .v I], 1, fun (l, c, _) K => (l.length ≤ big ∧ c.2.1.length ≤ 5) ∧ K ((), c, idxF (roomB c.2.1) l 0, ())⟩
theorem v96cF (l ps : List Int) (K : fc96c.post.den → Prop) : (xfn2 Try.prog { l2 := [(96, 0, lc96c)] } 5 96 fc96c (l, ((), (ps, ())), ()) K) =
  ((((0 : SV.den (SV.slot 8 (SV.v I))) ≤ (0 : Int) ∧ (0 : Int) ≤ (↑(l.length) : SV.den (SV.slot 8 (SV.v I))) ∧ (↑(l.length) : Int) = (↑(l.length) : SV.den (SV.slot 7 (SV.v I))) ∧ l.length ≤ 9223372036854775807) ∧ ps.length
 ≤ 5) ∧ (idxF (roomB ps) (List.drop 0 l) (0 : Int) < (0 : Int) → K ((), ((), ps, ()), (-1 : Int), ())) ∧ ((0 : Int) ≤ idxF (roomB ps) (List.drop 0 l) (0 : Int) → K ((), ((), ps, ()), idxF (roomB ps) (List.drop 0 l) (0 :
 Int), ()))) := by kernel_rfl
abbrev fc72c : FC2 := ⟨A [.v L, cl81], 1, A [.any, cl81, .v .b], 1, fun (l, c, _) K => (l.length ≤ big ∧ c.2.1.length ≤ 5) ∧ ∀ b : Bool, b = l.any (roomB c.2.1) → K ((), c, b, ())⟩
theorem v72cF (l ps : List Int) (K : fc72c.post.den → Prop) : (xfn2 Try.prog { f2 := [(96, fc96c)] } 5 72 fc72c (l, ((), (ps, ())), ()) K) =
  ((l.length ≤ 9223372036854775807 ∧ ps.length ≤ 5) ∧ K ((), ((), ps, ()), decide (idxF (roomB ps) l (0 : Int) ≥ (0 : Int)), ())) := by kernel_rfl
def walkB (ps : List Int) : Ag → List Int → Bool
  | _, [] => true
  | a, r :: ts => match nextR ps a r.toNat with
    | some b => walkB ps b ts
    | none => false
abbrev sh42 : SV := S [(8, .fn 82 (A [.agg (.v L)]) .nil), (9, .box 0 (.v P5)), (10, .v .b), (31, .v L), (32, .v I), (33, .v I)]
abbrev sh42e : SV := S [(10, .v .b)]
abbrev lc42 : LC2 := ⟨0, sh42, 1, fun (c, a, b, l, m, i, _) Q => (okPs c.1.1 ∧ validA c.1.1 a ∧ b = true ∧ m = l.length ∧ l.length ≤ 64 ∧ (0 ≤ i ∧ i ≤ l.length) ∧ (∀ x ∈ l, 0 ≤ x)) ∧ ∀ r, r = walkB c.1.1 a (l.drop i.toNat) → Q (.exit 0) (stS 0 sh42e (r, ()))⟩
theorem v42L (ps : List Int) (a : Ag) (b : Bool) (l : List Int) (m i : Int) (Q : AX → St → Prop) : (xloop2 Try.prog { nm := true, f2 := [(82, fc82)] } 5 42 0 lc42 (fun _ => some (sh42e, 0)) (fun (_, _, _, l, _, i, _) => mL l i) (((ps, ()), ()), a, b, l, m, i, ()) Q) =
  (fork (decide (i < m)) (req (decide ((0 : Int) ≤ i ∧ i < (↑(l.length) : Int))) ((okPs ps ∧ validA ps a ∧ (0 : SV.den (SV.v I)) ≤ List.getD l (Int.toNat i) (0 : Int)) ∧ ∀ (b : Ag) (ok : Bool), (nextR ps a (Int.toNat
 (List.getD l (Int.toNat i) (0 : Int))) = if ok = true then Option.some b else none) → fork (!ok) (Q (AX.exit 0) (stS 0 sh42e (ok, ()))) (req (inR IntKind.i64 (i + 1)) (mL l (i + 1) < mL l i ∧ LC2.spec lc42 (((ps, ()),
 ()), b, ok, l, m, i + 1, ()) Q)))) (Q (AX.exit 0) (stS 0 sh42e (b, ())))) := by kernel_rfl
def okTs (ps ts : List Int) : Prop := okPs ps ∧ ts.length ≤ 64 ∧ ts.any (roomB ps) = false
instance (ps ts : List Int) : Decidable (okTs ps ts) := by unfold okTs okPs; infer_instance
def keepsV (ps ts : List Int) : Bool × Int := if okTs ps ts then (walkB ps zA ts, 0) else (false, 105)
abbrev fc42 : FC := ⟨[.v L, .v L], [.b, E], fun x K => (x.1.length ≤ big ∧ x.2.1.length ≤ big) ∧ ∀ b e, (b, e) = keepsV x.1 x.2.1 → K (b, e, ())⟩
theorem v42F (ps ts : List Int) (K : dens [.b, E] → Prop) : (xfn1 Try.prog { nm := true, f := [(72, fc72 99 badT)], f2 := [(72, fc72c)], l2 := [(42, 0, lc42)] } 5 42 fc42 (ps, ts, ()) K) =
  (fork (decide ((↑(ps.length) : Int) ≥ (1 : Int))) (fork (!decide ((↑(ps.length) : Int) ≤ (5 : Int))) (K (false, (105 : Int), ())) (ps.length ≤ 9223372036854775807 ∧ ∀ (b : Bool), b = List.any ps badT → fork b (K (false,
 (105 : Int), ())) (fork (decide ((↑(ts.length) : Int) > (64 : Int))) (K (false, (105 : Int), ())) ((ts.length ≤ 9223372036854775807 ∧ ps.length ≤ 5) ∧ ∀ (b : Bool), b = List.any ts (roomB ps) → fork b (K (false, (105 :
 Int), ())) ((okPs ps ∧ validA ps (0, 0, 0, 0, 0) ∧ true = true ∧ (↑(ts.length) : Int) = (↑(ts.length) : SV.den (SV.slot 32 (SV.v I))) ∧ ts.length ≤ 64 ∧ ((0 : SV.den (SV.slot 33 (SV.v I))) ≤ (0 : Int) ∧ (0 : Int) ≤
 (↑(ts.length) : SV.den (SV.slot 33 (SV.v I)))) ∧ ∀ (x : Ty.den I), x ∈ ts → (0 : Ty.den I) ≤ x) ∧ ∀ (r : Bool), r = walkB ps (0, 0, 0, 0, 0) (List.drop 0 ts) → K (r, (0 : Int), ())))))) (K (false, (105 : Int), ()))) := by kernel_rfl
end Go.P10
