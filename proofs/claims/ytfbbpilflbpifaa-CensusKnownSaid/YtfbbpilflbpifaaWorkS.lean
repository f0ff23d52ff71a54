/- The chapter's examples: what is to be shown, reduced. No conditions. -/
import Derived.Test.YtfbbpilflbpifaaMissP
set_option linter.unusedSimpArgs false
set_option linter.unusedVariables false
set_option linter.constructorNameAsVariable false
set_option maxRecDepth 100000
set_option maxHeartbeats 2000000
namespace Go.P10
open Go.Lom Go.Proofs Go
abbrev sh18 : SV := S [(0, .v L), (1, .v L), (5, .v .b), (6, .v I)]
abbrev sh18e : SV := S [(5, .v .b)]
abbrev lc18 : LC2 := ⟨0, sh18, 0, fun (a, b, ok, i, _) Q => (0 ≤ i ∧ a.length ≤ big ∧ (ok = true → a.length = b.length ∧ i ≤ a.length)) ∧ ∀ r : Bool, r = (ok && decide (a.drop i.toNat = b.drop i.toNat)) → Q (.exit 0) (stS 0 sh18e (r, ()))⟩
theorem v18L (a b : List Int) (ok : Bool) (i : Int) (Q : AX → St → Prop) : (xloop2 Try.prog {} 5 18 0 lc18 (fun _ => some (sh18e, 0)) (fun (a, _, _, i, _) => (a.length + 1 - i).toNat) (a, b, ok, i, ()) Q) =
  (fork ok (fork (decide (i < (↑(a.length) : Int))) (req (decide ((0 : Int) ≤ i ∧ i < (↑(a.length) : Int))) (req (decide ((0 : Int) ≤ i ∧ i < (↑(b.length) : Int))) (req (inR IntKind.i64 (i + 1)) (Int.toNat ((↑(a.length) :
 SV.den (SV.slot 6 (SV.v I))) + (1 : SV.den (SV.slot 6 (SV.v I))) - (i + 1)) < Int.toNat ((↑(a.length) : SV.den (SV.slot 6 (SV.v I))) + (1 : SV.den (SV.slot 6 (SV.v I))) - i) ∧ LC2.spec lc18 (a, b, List.getD a (Int.toNat
 i) (0 : Int) == List.getD b (Int.toNat i) (0 : Int), i + 1, ()) Q)))) (Q (AX.exit 0) (stS 0 sh18e (ok, ())))) (Q (AX.exit 0) (stS 0 sh18e (ok, ())))) := by kernel_rfl
abbrev fcSame : FC := ⟨[.v L, .v L], [.b], fun x K => x.1.length ≤ big ∧ ∀ r : Bool, r = decide (x.1 = x.2.1) → K (r, ())⟩
theorem v18F (a b : List Int) (K : dens [.b] → Prop) : (xfn1 Try.prog { l2 := [(18, 0, lc18)] } 5 18 fcSame (a, b, ()) K) =
  (((0 : SV.den (SV.slot 6 (SV.v I))) ≤ (0 : Int) ∧ a.length ≤ 9223372036854775807 ∧ (((↑(a.length) : Int) == (↑(b.length) : Int)) = true → a.length = b.length ∧ (0 : Int) ≤ (↑(a.length) : SV.den (SV.slot 6 (SV.v I))))) ∧ ∀
 (r : Bool), r = ((↑(a.length) : Int) == (↑(b.length) : Int) && decide (List.drop 0 a = List.drop 0 b)) → K (r, ())) := by kernel_rfl
abbrev fcPat1 : FC := ⟨[.v L], [L, I, E], fun x K => x = ([10, 30], ()) ∧ K ([16, 48], 480, 0, ())⟩
abbrev fcRank1 : FC := ⟨[.v L], [I, E], fun x K => x = ([2, 0, 1], ()) ∧ K (4, 0, ())⟩
abbrev fcDraw1 : FC := ⟨[.v I, .v I, .v L], [L, E], fun x K => x = (3, 2, [5, 3, 2], ()) ∧ K ([2, 0], 0, ())⟩
abbrev fcLeast : FC := ⟨[.v TA], [L, I, E], fun x K => bigs x.1 ∧ ∀ s c e, (s, c, e) = leastV x.1 → K (s, c, e, ())⟩
abbrev fcWorks : FC := ⟨[], [.b], fun _ K => K (true, ())⟩
theorem v19 (K : dens [.b] → Prop) : (xfn1 Try.prog { nm := true, f := [(20, fc20), (23, fc23), (16, fcLeast), (52, fcPat1), (35, fcRank1), (39, fcDraw1), (44, fcTurns), (46, fcLasts), (18, fcSame)] } 5 19 fcWorks () K) =
  ((bigs ([(4 : Int), (3 : Int)], [(2 : Int), (3 : Int)], (2 : Int), (700 : Int)) ∧ 2 ≤ 9223372036854775807 ∧ 2 ≤ 9223372036854775807) ∧ ∀ (n m e : Int), (n, m, e) = missF ([(4 : Int), (3 : Int)], [(2 : Int), (3 : Int)], (2
 : Int), (700 : Int)) [(2 : Int), (1 : Int)] [(2 : Int), (0 : Int)] → (bigs ([(4 : Int), (3 : Int)], [(2 : Int), (3 : Int)], (2 : Int), (700 : Int)) ∧ 2 ≤ 9223372036854775807) ∧ ∀ (l : List Int) (n_1 m_1 e_1 : Int), (l,
 n_1, m_1, e_1) = worstV ([(4 : Int), (3 : Int)], [(2 : Int), (3 : Int)], (2 : Int), (700 : Int)) [(2 : Int), (1 : Int)] → bigs ([(4 : Int), (3 : Int)], [(2 : Int), (3 : Int)], (2 : Int), (700 : Int)) ∧ ∀ (s : List Int) (c
 e_2 : Int), (s, c, e_2) = leastV ([(4 : Int), (3 : Int)], [(2 : Int), (3 : Int)], (2 : Int), (700 : Int)) → ([(10 : Int), (30 : Int)], ()) = ([(10 : Ty.den I), (30 : Ty.den I)], ()) ∧ fork (e != (0 : Int)) (K (false, ()))
 (fork (e_1 != (0 : Int)) (K (false, ())) (fork (e_2 != (0 : Int)) (K (false, ())) (fork (n != (3 : Int)) (K (false, ())) (fork (m != (18 : Int)) (K (false, ())) (l.length ≤ 9223372036854775807 ∧ ∀ (r : Bool), r = decide
 (l = [(0 : Int), (2 : Int)]) → fork (!r) (K (false, ())) (fork (n_1 != (6 : Int)) (K (false, ())) (s.length ≤ 9223372036854775807 ∧ ∀ (r : Bool), r = decide (s = [(2 : Int), (2 : Int)]) → fork (!r) (K (false, ())) (fork
 (c != (10 : Int)) (K (false, ())) (2 ≤ 9223372036854775807 ∧ ∀ (r : Bool), r = decide ([(16 : Ty.den I), (48 : Ty.den I)] = [(16 : Int), (48 : Int)]) → fork (!r) (K (false, ())) (([(2 : Int), (0 : Int), (1 : Int)], ()) =
 ([(2 : Ty.den I), (0 : Ty.den I), (1 : Ty.den I)], ()) ∧ ((3 : Int), (2 : Int), [(5 : Int), (3 : Int), (2 : Int)], ()) = ((3 : AT.den (AT.v I)), (2 : AT.den (AT.v I)), [(5 : Ty.den I), (3 : Ty.den I), (2 : Ty.den I)], ())
 ∧ 3 ≤ 9223372036854775807 ∧ ∀ (l : List Int) (e : Int), TurnsR [(2 : Int), (4 : Int), (4 : Int)] (6 : Int) l e → 3 ≤ 9223372036854775807 ∧ ∀ (n e_3 : Int), LastsR [(2 : Int), (3 : Int), (3 : Int)] n e_3 → fork (e == (0 :
 Int)) (fork (e_3 == (0 : Int)) (2 ≤ 9223372036854775807 ∧ ∀ (r : Bool), r = decide ([(2 : Ty.den I), (0 : Ty.den I)] = [(2 : Int), (0 : Int)]) → fork r (l.length ≤ 9223372036854775807 ∧ ∀ (r : Bool), r = decide (l = [(0 :
 Int), (1 : Int), (0 : Int), (2 : Int), (0 : Int), (1 : Int)]) → fork r (K (n == (3 : Int), ())) (K (false, ()))) (K (false, ()))) (K (false, ()))) (K (false, ()))))))))))))) := by kernel_rfl
end Go.P10
