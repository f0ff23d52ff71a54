/- CensusKnown: what is to be shown, reduced. No conditions. -/
import Derived.Test.YtfbbpilflbpifaaWorkP
import Derived.Test.YtfbbpilflbpifaaKeepP
import Derived.Test.YtfbbpilflbpifaaPatP
set_option linter.unusedSimpArgs false
set_option linter.unusedVariables false
set_option linter.constructorNameAsVariable false
set_option maxRecDepth 100000
set_option maxHeartbeats 2000000
namespace Go.P10
open Go.Lom Go.Proofs Go
abbrev fcPat7 : FC := ⟨[.v L], [L, I, E], fun x K => x = ([7], ()) ∧ K ([64], 0, 0, ())⟩
theorem v15 (K : dens [.b] → Prop) : (xfn1 Try.prog { un := 1064, fz := true, f := [(28, fc28), (20, fc20), (31, fc31), (16, fcLeast), (35, fc35), (37, fc37), (39, fc39), (42, fc42), (48, fc48), (50, fc50), (52, fcPat7), (44, fcTurns), (46, fcLasts), (18, fcSame), (19, fcWorks)] } 6 15 fcWorks () K) =
  ((0 ≤ 9223372036854775807 ∧ 0 ≤ 9223372036854775807) ∧ ∀ (e : Ty.den E), (okA ([], [], (0 : Int), (0 : Int)) → e = (0 : Ty.den E)) → (¬okA ([], [], (0 : Int), (0 : Int)) → e = (100 : Ty.den E)) → fork (e != (100 : Int))
 (K (false, ())) ((2 ≤ 9223372036854775807 ∧ 2 ≤ 9223372036854775807) ∧ ∀ (e : Ty.den E), (okA ([(4 : Int), (3 : Int)], [(2 : Int), (3 : Int)], (8 : Int), (700 : Int)) → e = (0 : Ty.den E)) → (¬okA ([(4 : Int), (3 : Int)],
 [(2 : Int), (3 : Int)], (8 : Int), (700 : Int)) → e = (100 : Ty.den E)) → fork (e != (100 : Int)) (K (false, ())) ((2 ≤ 9223372036854775807 ∧ 2 ≤ 9223372036854775807) ∧ ∀ (e : Ty.den E), (okA ([(9 : Int), (3 : Int)], [(2
 : Int), (3 : Int)], (2 : Int), (700 : Int)) → e = (0 : Ty.den E)) → (¬okA ([(9 : Int), (3 : Int)], [(2 : Int), (3 : Int)], (2 : Int), (700 : Int)) → e = (100 : Ty.den E)) → fork (e != (100 : Int)) (K (false, ())) ((2 ≤
 9223372036854775807 ∧ 1 ≤ 9223372036854775807) ∧ ∀ (e : Ty.den E), (okA ([(4 : Int), (3 : Int)], [(2 : Int)], (2 : Int), (700 : Int)) → e = (0 : Ty.den E)) → (¬okA ([(4 : Int), (3 : Int)], [(2 : Int)], (2 : Int), (700 :
 Int)) → e = (100 : Ty.den E)) → fork (e != (100 : Int)) (K (false, ())) ((2 ≤ 9223372036854775807 ∧ 2 ≤ 9223372036854775807) ∧ ∀ (e : Ty.den E), (okA ([(4 : Int), (3 : Int)], [(2 : Int), (3 : Int)], (2 : Int), (1001 :
 Int)) → e = (0 : Ty.den E)) → (¬okA ([(4 : Int), (3 : Int)], [(2 : Int), (3 : Int)], (2 : Int), (1001 : Int)) → e = (100 : Ty.den E)) → fork (e != (100 : Int)) (K (false, ())) ((bigs ([(4 : Int), (3 : Int)], [(2 : Int),
 (3 : Int)], (2 : Int), (700 : Int)) ∧ 2 ≤ 9223372036854775807 ∧ 2 ≤ 9223372036854775807) ∧ ∀ (n m e : Int), (n, m, e) = missF ([(4 : Int), (3 : Int)], [(2 : Int), (3 : Int)], (2 : Int), (700 : Int)) [(2 : Int), (4 : Int)]
 [(0 : Int), (0 : Int)] → (bigs ([(4 : Int), (3 : Int)], [(2 : Int), (3 : Int)], (2 : Int), (700 : Int)) ∧ 2 ≤ 9223372036854775807 ∧ 2 ≤ 9223372036854775807) ∧ ∀ (n m e_1 : Int), (n, m, e_1) = missF ([(4 : Int), (3 :
 Int)], [(2 : Int), (3 : Int)], (2 : Int), (700 : Int)) [(2 : Int), (1 : Int)] [(0 : Int), (4 : Int)] → (bigs ([(4 : Int), (3 : Int)], [(2 : Int), (3 : Int)], (2 : Int), (700 : Int)) ∧ 1 ≤ 9223372036854775807 ∧ 2 ≤
 9223372036854775807) ∧ ∀ (n m e_2 : Int), (n, m, e_2) = missF ([(4 : Int), (3 : Int)], [(2 : Int), (3 : Int)], (2 : Int), (700 : Int)) [(2 : Int)] [(0 : Int), (0 : Int)] → (bigs ([(4 : Int), (3 : Int)], [(2 : Int), (3 :
 Int)], (2 : Int), (700 : Int)) ∧ 2 ≤ 9223372036854775807 ∧ 2 ≤ 9223372036854775807) ∧ ∀ (n m e_3 : Int), (n, m, e_3) = missF ([(4 : Int), (3 : Int)], [(2 : Int), (3 : Int)], (2 : Int), (700 : Int)) [(2 : Int), (1 : Int)]
 [(1 : Int), (1 : Int)] → (bigs ([(4 : Int), (3 : Int)], [(2 : Int), (3 : Int)], (2 : Int), (700 : Int)) ∧ 2 ≤ 9223372036854775807) ∧ ∀ (b : Bool) (e_4 : Int), (b, e_4) = findsV ([(4 : Int), (3 : Int)], [(2 : Int), (3 :
 Int)], (2 : Int), (700 : Int)) [(2 : Int), (1 : Int)] → (bigs ([(4 : Int), (3 : Int)], [(2 : Int), (3 : Int)], (2 : Int), (700 : Int)) ∧ 2 ≤ 9223372036854775807) ∧ ∀ (b_1 : Bool) (e_5 : Int), (b_1, e_5) = findsV ([(4 :
 Int), (3 : Int)], [(2 : Int), (3 : Int)], (2 : Int), (700 : Int)) [(2 : Int), (2 : Int)] → bigs ([(4 : Int), (3 : Int)], [(2 : Int), (3 : Int)], (2 : Int), (1000 : Int)) ∧ ∀ (s : List Int) (c e_6 : Int), (s, c, e_6) =
 leastV ([(4 : Int), (3 : Int)], [(2 : Int), (3 : Int)], (2 : Int), (1000 : Int)) → bigs ([(4 : Int), (3 : Int)], [(2 : Int), (3 : Int)], (2 : Int), (0 : Int)) ∧ ∀ (s_1 : List Int) (c_1 e_7 : Int), (s_1, c_1, e_7) = leastV
 ([(4 : Int), (3 : Int)], [(2 : Int), (3 : Int)], (2 : Int), (0 : Int)) → fork (e != (101 : Int)) (K (false, ())) (fork (e_1 != (102 : Int)) (K (false, ())) (fork (e_2 != (101 : Int)) (K (false, ())) (fork (e_3 != (0 :
 Int)) (K (false, ())) (fork (n != (6 : Int)) (K (false, ())) (fork (m != (18 : Int)) (K (false, ())) (fork (e_4 != (0 : Int)) (K (false, ())) (fork b (K (false, ())) (fork (e_5 != (0 : Int)) (K (false, ())) (fork (!b_1)
 (K (false, ())) (fork (e_6 != (0 : Int)) (K (false, ())) (s.length ≤ 9223372036854775807 ∧ ∀ (r : Bool), r = decide (s = [(4 : Int), (2 : Int)]) → fork (!r) (K (false, ())) (fork (c != (14 : Int)) (K (false, ())) (fork
 (e_7 != (0 : Int)) (K (false, ())) (s_1.length ≤ 9223372036854775807 ∧ ∀ (r : Bool), r = decide (s_1 = [(0 : Int), (0 : Int)]) → fork (!r) (K (false, ())) (fork (c_1 != (0 : Int)) (K (false, ())) ((2 ≤ 9223372036854775807
 ∧ 2 ≤ 9223372036854775807) ∧ ∀ (n e : Int), (n, e) = riskV [(10 : Int), (30 : Int)] [(10 : Int), (54 : Int)] → (2 ≤ 9223372036854775807 ∧ 2 ≤ 9223372036854775807) ∧ ∀ (n_1 e_8 : Int), (n_1, e_8) = riskV [(10 : Int), (30 :
 Int)] [(10 : Int), (53 : Int)] → (1 ≤ 9223372036854775807 ∧ 1 ≤ 9223372036854775807) ∧ ∀ (n_2 e_9 : Int), (n_2, e_9) = riskV [(0 : Int)] [(64 : Int)] → (2 ≤ 9223372036854775807 ∧ (479 : Int) ≤ (9223372036854775807 :
 AT.den (AT.v I))) ∧ ∀ (n_3 e_10 : Int), (n_3, e_10) = needV [(10 : Int), (30 : Int)] (479 : Int) → (2 ≤ 9223372036854775807 ∧ (-1 : Int) ≤ (9223372036854775807 : AT.den (AT.v I))) ∧ ∀ (n_4 e_11 : Int), (n_4, e_11) = needV
 [(10 : Int), (30 : Int)] (-1 : Int) → ([(7 : Int)], ()) = ([(7 : Ty.den I)], ()) ∧ fork (e != (0 : Int)) (K (false, ())) (fork (n != (540 : Int)) (K (false, ())) (fork (e_8 != (103 : Int)) (K (false, ())) (fork (e_9 !=
 (103 : Int)) (K (false, ())) (fork (e_10 != (0 : Int)) (K (false, ())) (fork (n_3 != (66 : Int)) (K (false, ())) (fork (e_11 != (7 : Int)) (K (false, ())) (1 ≤ 9223372036854775807 ∧ ∀ (r : Bool), r = decide ([(64 : Ty.den
 I)] = [(64 : Int)]) → fork (!r) (K (false, ())) (2 ≤ 9223372036854775807 ∧ ∀ (r e : Int), (r, e) = rankV [(0 : Int), (0 : Int)] → 0 ≤ 9223372036854775807 ∧ ∀ (r e_12 : Int), (r, e_12) = rankV [] → inR IntKind.i64 (3 :
 Int) = true ∧ ∀ (l : List Int) (e_13 : Int), (l, e_13) = unrankV (3 : Int) (5 : Int) → inR IntKind.i64 (3 : Int) = true ∧ ∀ (l_1 : List Int) (e_14 : Int), (l_1, e_14) = unrankV (3 : Int) (6 : Int) → inR IntKind.i64 (9 :
 Int) = true ∧ ∀ (l_2 : List Int) (e_15 : Int), (l_2, e_15) = unrankV (9 : Int) (0 : Int) → 1 ≤ 9223372036854775807 ∧ ∀ (l_3 : List Int) (e_16 : Int), (l_3, e_16) = drawV (3 : Int) (4 : Int) [(0 : Int)] → 1 ≤
 9223372036854775807 ∧ ∀ (l_4 : List Int) (e_17 : Int), (l_4, e_17) = drawV (3 : Int) (1 : Int) [(6 : Int)] → 0 ≤ 9223372036854775807 ∧ ∀ (l_5 : List Int) (e_18 : Int), (l_5, e_18) = drawV (3 : Int) (1 : Int) [] → fork (e
 != (104 : Int)) (K (false, ())) (fork (e_12 != (104 : Int)) (K (false, ())) (fork (e_13 != (0 : Int)) (K (false, ())) (l.length ≤ 9223372036854775807 ∧ ∀ (r : Bool), r = decide (l = [(2 : Int), (1 : Int), (0 : Int)]) →
 fork (!r) (K (false, ())) (fork (e_14 != (7 : Int)) (K (false, ())) (fork (e_15 != (104 : Int)) (K (false, ())) (fork (e_16 != (7 : Int)) (K (false, ())) (fork (e_17 != (104 : Int)) (K (false, ())) (fork (e_18 != (104 :
 Int)) (K (false, ())) ((3 ≤ 9223372036854775807 ∧ 3 ≤ 9223372036854775807) ∧ ∀ (b : Bool) (e : Int), (b, e) = keepsV [(2 : Int), (3 : Int), (3 : Int)] [(1 : Int), (0 : Int), (2 : Int)] → (3 ≤ 9223372036854775807 ∧ 3 ≤
 9223372036854775807) ∧ ∀ (b_2 : Bool) (e_19 : Int), (b_2, e_19) = keepsV [(2 : Int), (3 : Int), (3 : Int)] [(0 : Int), (1 : Int), (0 : Int)] → (3 ≤ 9223372036854775807 ∧ 1 ≤ 9223372036854775807) ∧ ∀ (b_3 : Bool) (e_20 :
 Int), (b_3, e_20) = keepsV [(2 : Int), (3 : Int), (3 : Int)] [(3 : Int)] → 3 ≤ 9223372036854775807 ∧ ∀ (l : List Int) (e_21 : Int), TurnsR [(2 : Int), (3 : Int), (3 : Int)] (1 : Int) l e_21 → 1 ≤ 9223372036854775807 ∧ ∀
 (l : List Int) (e_22 : Int), TurnsR [(2 : Int)] (65 : Int) l e_22 → 3 ≤ 9223372036854775807 ∧ ∀ (n e_23 : Int), LastsR [(2 : Int), (4 : Int), (4 : Int)] n e_23 → 1 ≤ 9223372036854775807 ∧ ∀ (n e_24 : Int), LastsR [(9 :
 Int)] n e_24 → 2 ≤ 9223372036854775807 ∧ ∀ (n e_25 : Int), LastsR [(1 : Int), (1 : Int)] n e_25 → 1 ≤ 9223372036854775807 ∧ ∀ (l : List Int) (e_26 : Int), TurnsR [(1 : Int)] (3 : Int) l e_26 → fork (e == (0 : Int)) (fork
 b (fork (e_19 == (0 : Int)) (fork (!b_2) (fork (e_20 == (105 : Int)) (fork (e_21 == (4 : Int)) (fork (e_22 == (7 : Int)) (fork (e_23 == (4 : Int)) (fork (e_24 == (105 : Int)) (fork (e_25 == (0 : Int)) (fork (n == (0 :
 Int)) (fork (e_26 == (0 : Int)) (l.length ≤ 9223372036854775807 ∧ ∀ (r : Bool), r = decide (l = [(0 : Int), (0 : Int), (0 : Int)]) → fork (bsel r true false) (K (true, ())) (K (false, ()))) (K (false, ()))) (K (false,
 ()))) (K (false, ()))) (K (false, ()))) (K (false, ()))) (K (false, ()))) (K (false, ()))) (K (false, ()))) (K (false, ()))) (K (false, ()))) (K (false, ()))) (K (false, ()))))))))))))))))))))))))))))))))))))))))) := by kernel_rfl
end Go.P10
