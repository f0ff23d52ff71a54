/- Turns and Lasts of the program: states and what is to be shown, reduced. No conditions. -/
import Derived.Test.YtfbbpilflbpifaaEverQ
set_option linter.unusedSimpArgs false
set_option linter.unusedVariables false
set_option linter.constructorNameAsVariable false
set_option maxRecDepth 100000
set_option maxHeartbeats 2000000
namespace Go.P10
open Go.Lom Go.Proofs Go
def idxF (p : Int → Bool) : List Int → Int → Int
  | [], _ => -1
  | x :: l, i => if p x = true then i else idxF p l (i + 1)
abbrev sh96 (k : Nat) : SV := S [(0, .v L), (1, .a (.clo k [] [])), (7, .v I), (8, .v I)]
abbrev shR4i : SV := S [(4, .v I)]
def ex96 : Ex2
  | .ret => some (shR4i, 0)
  | _ => some (.nil, 0)
abbrev lc96 (k : Nat) (p : Int → Bool) : LC2 := ⟨0, sh96 k, 0, fun (l, _, m, i, _) Q => (0 ≤ i ∧ i ≤ l.length ∧ m = l.length ∧ l.length ≤ big) ∧ (idxF p (l.drop i.toNat) i < 0 → Q (.exit 0) (stS 0 .nil ())) ∧ (0 ≤ idxF p (l.drop i.toNat) i → Q .ret (stS 0 shR4i (idxF p (l.drop i.toNat) i, ())))⟩
abbrev fc96 (k : Nat) (p : Int → Bool) : FC := ⟨[.v L, .clo k [] []], [I], fun x K => x.1.length ≤ big ∧ K (idxF p x.1 0, ())⟩
abbrev fc72 (k : Nat) (p : Int → Bool) : FC := ⟨[.v L, .clo k [] []], [.b], fun x K => x.1.length ≤ big ∧ ∀ b : Bool, b = x.1.any p → K (b, ())⟩
def badT (n : Int) : Bool := !decide (1 ≤ n ∧ n ≤ 8)
theorem v96L99 (l : List Int) (m i : Int) (Q : AX → St → Prop) : (xloop2 Try.prog {} 5 96 0 (lc96 99 badT) ex96 (fun (l, _, m, i, _) => mL l i) (l, ((), ()), m, i, ()) Q) =
  (fork (decide (i < m)) (req (decide ((0 : Int) ≤ i ∧ i < (↑(l.length) : Int))) (fork (decide (List.getD l (Int.toNat i) (0 : Int) ≥ (1 : Int))) (fork (!decide (List.getD l (Int.toNat i) (0 : Int) ≤ (8 : Int))) (Q AX.ret
 (stS 0 shR4i (i, ()))) (req (inR IntKind.i64 (i + 1)) (mL l (i + 1) < mL l i ∧ LC2.spec (lc96 99 badT) (l, ((), ()), m, i + 1, ()) Q))) (Q AX.ret (stS 0 shR4i (i, ()))))) (Q (AX.exit 0) (stS 0 SV.nil ()))) := by kernel_rfl
theorem v96F99 (l : List Int) (K : dens [I] → Prop) : (xfn1 Try.prog { l2 := [(96, 0, lc96 99 badT)] } 5 96 (fc96 99 badT) (l, ((), ()), ()) K) =
  (((0 : SV.den (SV.slot 8 (SV.v I))) ≤ (0 : Int) ∧ (0 : Int) ≤ (↑(l.length) : SV.den (SV.slot 8 (SV.v I))) ∧ (↑(l.length) : Int) = (↑(l.length) : SV.den (SV.slot 7 (SV.v I))) ∧ l.length ≤ 9223372036854775807) ∧ (idxF badT
 (List.drop 0 l) (0 : Int) < (0 : Int) → K ((-1 : Int), ())) ∧ ((0 : Int) ≤ idxF badT (List.drop 0 l) (0 : Int) → K (idxF badT (List.drop 0 l) (0 : Int), ()))) := by kernel_rfl
theorem v72F99 (l : List Int) (K : dens [.b] → Prop) : (xfn1 Try.prog { f := [(96, fc96 99 badT)] } 5 72 (fc72 99 badT) (l, ((), ()), ()) K) =
  (l.length ≤ 9223372036854775807 ∧ K (decide (idxF badT l (0 : Int) ≥ (0 : Int)), ())) := by kernel_rfl
abbrev fcLasts : FC := ⟨[.v L], [I, E], fun x K => x.1.length ≤ big ∧ ∀ n e, LastsR x.1 n e → K (n, e, ())⟩
theorem v46 (ps : List Int) (K : dens [I, E] → Prop) : (xfn1 Try.prog { nm := true, f := [(72, fc72 99 badT)], f2 := [(85, fc85)] } 5 46 fcLasts (ps, ()) K) =
  (fork (decide ((↑(ps.length) : Int) ≥ (1 : Int))) (fork (!decide ((↑(ps.length) : Int) ≤ (5 : Int))) (K ((0 : Int), (105 : Int), ())) (ps.length ≤ 9223372036854775807 ∧ ∀ (b : Bool), b = List.any ps badT → fork b (K ((0 :
 Int), (105 : Int), ())) (okPs ps ∧ ∀ (kl : KL), EvR ps kl → fork (decide (Option.getD (tmGet P5 kl (0, 0, 0, 0, 0)) (0 : Int) ≥ (0 : Int))) (K (Option.getD (tmGet P5 kl (0, 0, 0, 0, 0)) (0 : Int), (0 : Int), ())) (K ((0 :
 Int), (4 : Int), ()))))) (K ((0 : Int), (105 : Int), ()))) := by kernel_rfl
abbrev sh44r : SV := S [(0, .v L), (6, .box 0 (.v L)), (8, .map 1 P5 I), (9, .own 2 I), (10, .box 3 (.v P5)), (31, .v I), (32, .v I), (35, .v I), (36, .v I)]
abbrev sh44re : SV := S [(0, .v L), (6, .box 0 (.v L)), (8, .map 1 P5 I), (9, .own 2 I), (10, .box 3 (.v P5)), (31, .v I), (32, .v I)]
def FirstR (ps : List Int) (j : Int) (a : Ag) (o o' : List Int) (a' : Ag) : Prop :=
  (∃ r : Nat, j ≤ r ∧ r < ps.length ∧ nextR ps a r = some a' ∧ Ever ps a' ∧ (∀ k : Nat, j ≤ k → k < r → ¬ goodR ps a k) ∧ o' = o ++ [(r : Int)]) ∨ ((∀ k : Nat, j ≤ k → k < ps.length → ¬ goodR ps a k) ∧ o' = o ∧ a' = a)
abbrev lc44r : LC2 := ⟨0, sh44r, 4, fun (ps, qs, kl, o, a, d, i, m, j, _) Q => (okPs ps ∧ qs = ps ∧ EvV ps kl ∧ Reach ps a ∧ validA ps a ∧ m = ps.length ∧ (0 ≤ j ∧ j ≤ ps.length) ∧ o.length ≤ 64) ∧
  ∀ o' a', FirstR ps j a o o' a' → Q (.exit 2) (stS 4 sh44re (ps, qs, kl, o', a', d, i, ()))⟩
theorem v44R (ps qs : List Int) (kl : KL) (o : List Int) (a : Ag) (d i m j : Int) (Q : AX → St → Prop) : (xloop2 Try.prog { nm := true, f2 := [(82, fc82)] } 5 44 1 lc44r (fun _ => some (sh44re, 4)) (fun (ps, _, _, _, _, _, _, _, j, _) => mL ps j) (ps, qs, kl, o, a, d, i, m, j, ()) Q) =
  (fork (decide (j < m)) ((okPs qs ∧ validA qs a ∧ (0 : SV.den (SV.v I)) ≤ j) ∧ ∀ (b : Ag) (ok : Bool), (nextR qs a (Int.toNat j) = if ok = true then Option.some b else none) → fork ok (fork (decide (Option.getD (tmGet P5
 kl b) (0 : Int) < (0 : Int))) (AV.agg [AV.int IntKind.i64 (b.1), AV.int IntKind.i64 (b.2.1), AV.int IntKind.i64 (b.2.2.1), AV.int IntKind.i64 (b.2.2.2.1), AV.int IntKind.i64 (b.2.2.2.2)] = AV.agg [AV.int IntKind.i64
 (b.1), AV.int IntKind.i64 (b.2.1), AV.int IntKind.i64 (b.2.2.1), AV.int IntKind.i64 (b.2.2.2.1), AV.int IntKind.i64 (b.2.2.2.2)] ∧ req (decide (0 + o.length ≤ o.length)) (req (fitsN (o.length + 1) 8) (∀ (ys : List (Ty.den
 (Ty.i IntKind.i64))), ys = seg 0 (o.length) o ++ [j] → AV.agg [AV.int IntKind.i64 (b.1), AV.int IntKind.i64 (b.2.1), AV.int IntKind.i64 (b.2.2.1), AV.int IntKind.i64 (b.2.2.2.1), AV.int IntKind.i64 (b.2.2.2.2)] = AV.agg
 [AV.int IntKind.i64 (b.1), AV.int IntKind.i64 (b.2.1), AV.int IntKind.i64 (b.2.2.1), AV.int IntKind.i64 (b.2.2.2.1), AV.int IntKind.i64 (b.2.2.2.2)] ∧ AV.agg [AV.int IntKind.i64 (b.1), AV.int IntKind.i64 (b.2.1), AV.int
 IntKind.i64 (b.2.2.1), AV.int IntKind.i64 (b.2.2.2.1), AV.int IntKind.i64 (b.2.2.2.2)] = AV.agg [AV.int IntKind.i64 (b.1), AV.int IntKind.i64 (b.2.1), AV.int IntKind.i64 (b.2.2.1), AV.int IntKind.i64 (b.2.2.2.1), AV.int
 IntKind.i64 (b.2.2.2.2)] ∧ req (decide (0 + (o.length + 1) ≤ ys.length)) (Q (AX.exit 2) (stS 4 sh44re (ps, qs, kl, seg 0 (o.length + 1) ys, b, d, i, ())))))) (req (inR IntKind.i64 (j + 1)) (req (decide (0 + o.length ≤
 o.length)) (mL ps (j + 1) < mL ps j ∧ LC2.spec lc44r (ps, qs, kl, seg 0 (o.length) o, a, d, i, m, j + 1, ()) Q)))) (req (inR IntKind.i64 (j + 1)) (req (decide (0 + o.length ≤ o.length)) (mL ps (j + 1) < mL ps j ∧ LC2.spec
 lc44r (ps, qs, kl, seg 0 (o.length) o, a, d, i, m, j + 1, ()) Q)))) (req (decide (0 + o.length ≤ o.length)) (Q (AX.exit 2) (stS 4 sh44re (ps, qs, kl, seg 0 (o.length) o, a, d, i, ()))))) := by kernel_rfl
abbrev sh44 : SV := S [(0, .v L), (6, .box 0 (.v L)), (8, .map 1 P5 I), (9, .own 2 I), (10, .box 3 (.v P5)), (31, .v I), (32, .v I)]
abbrev sh44e : SV := S [(9, .own 2 I)]
abbrev lc44 : LC2 := ⟨0, sh44, 4, fun (ps, qs, kl, o, a, d, i, _) Q => (okPs ps ∧ qs = ps ∧ EvV ps kl ∧ Reach ps a ∧ validA ps a ∧ Ever ps a ∧ (0 ≤ i ∧ i ≤ d ∧ d ≤ 64) ∧ (o.length : Int) = i) ∧
  ∀ l, Gr ps (d - i).toNat a l → Q (.exit 0) (stS 4 sh44e (o ++ l, ()))⟩
theorem v44L (ps qs : List Int) (kl : KL) (o : List Int) (a : Ag) (d i : Int) (Q : AX → St → Prop) : (xloop2 Try.prog { nm := true, l2 := [(44, 1, lc44r)] } 5 44 0 lc44 (fun _ => some (sh44e, 4)) (fun (_, _, _, _, _, d, i, _) => (d - i).toNat) (ps, qs, kl, o, a, d, i, ()) Q) =
  (fork (decide (i < d)) (req (decide (0 + o.length ≤ o.length)) ((okPs ps ∧ qs = ps ∧ EvV ps kl ∧ Reach ps a ∧ validA ps a ∧ (↑(ps.length) : Int) = (↑(ps.length) : SV.den (SV.slot 35 (SV.v I))) ∧ ((0 : SV.den (SV.slot 36
 (SV.v I))) ≤ (0 : Int) ∧ (0 : Int) ≤ (↑(ps.length) : SV.den (SV.slot 36 (SV.v I)))) ∧ List.length (seg 0 (o.length) o) ≤ 64) ∧ ∀ (o' : List Int) (a' : Ag), FirstR ps (0 : Int) a (seg 0 (o.length) o) o' a' → req (inR
 IntKind.i64 (i + 1)) (req (decide (0 + o'.length ≤ o'.length)) (Int.toNat (d - (i + 1)) < Int.toNat (d - i) ∧ LC2.spec lc44 (ps, qs, kl, seg 0 (o'.length) o', a', d, i + 1, ()) Q)))) (req (decide (0 + o.length ≤
 o.length)) (Q (AX.exit 0) (stS 4 sh44e (seg 0 (o.length) o, ()))))) := by kernel_rfl
abbrev fcTurns : FC := ⟨[.v L, .v I], [L, E], fun x K => x.1.length ≤ big ∧ ∀ l e, TurnsR x.1 x.2.1 l e → K (l, e, ())⟩
theorem v44 (ps : List Int) (d : Int) (K : dens [L, E] → Prop) : (xfn1 Try.prog { nm := true, f := [(72, fc72 99 badT)], f2 := [(85, fc85)], l2 := [(44, 0, lc44)] } 5 44 fcTurns (ps, d, ()) K) =
  (fork (decide ((↑(ps.length) : Int) ≥ (1 : Int))) (fork (!decide ((↑(ps.length) : Int) ≤ (5 : Int))) (K ([], (105 : Int), ())) (ps.length ≤ 9223372036854775807 ∧ ∀ (b : Bool), b = List.any ps badT → fork b (K ([], (105 :
 Int), ())) (fork (decide (d ≥ (0 : Int))) (fork (!decide (d ≤ (64 : Int))) (K ([], (7 : Int), ())) (okPs ps ∧ ∀ (kl : KL), EvR ps kl → fork (decide (Option.getD (tmGet P5 kl (0, 0, 0, 0, 0)) (0 : Int) ≥ (0 : Int))) (K
 ([], (4 : Int), ())) ((okPs ps ∧ ps = ps ∧ EvV ps kl ∧ Reach ps (0, 0, 0, 0, 0) ∧ validA ps (0, 0, 0, 0, 0) ∧ Ever ps (0, 0, 0, 0, 0) ∧ ((0 : SV.den (SV.slot 32 (SV.v I))) ≤ (0 : Int) ∧ (0 : Int) ≤ d ∧ d ≤ (64 : SV.den
 (SV.slot 31 (SV.v I)))) ∧ (0 : Int) = (0 : Int)) ∧ ∀ (l : List Int), Gr ps (Int.toNat (d - 0)) (0, 0, 0, 0, 0) l → req (decide (0 + List.length ([] ++ l) ≤ List.length ([] ++ l))) (K (seg 0 (List.length ([] ++ l)) ([] ++
 l), (0 : Int), ()))))) (K ([], (7 : Int), ()))))) (K ([], (105 : Int), ()))) := by kernel_rfl
end Go.P10
