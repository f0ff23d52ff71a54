/- CensusCounts: states and what is to be shown, reduced. No conditions. -/
import Derived.Test.YtfbbpilflbpifaaCheapP
set_option linter.unusedSimpArgs false
set_option linter.unusedVariables false
set_option linter.constructorNameAsVariable false
set_option maxRecDepth 100000
set_option maxHeartbeats 2000000
namespace Go.P10
open Go.Lom Go.Proofs Go

/-! all choices, one by one -/
/-! the statement -/
abbrev sh4 : SV := S [(2, .v I), (3, .box 0 (.v TA)), (4, .box 1 (.v TLo)), (7, .v I), (8, .v I), (10, .v I), (11, .v I), (12, .v I)]
abbrev sh4e : SV := S [(2, .v I), (3, .box 0 (.v TA)), (4, .box 1 (.v TLo)), (7, .v I), (8, .v I), (10, .v I), (11, .v I)]
abbrev lc4 : LC2 := ⟨0, sh4, 2, fun (n, a, x, w, al, p, q, i, _) Q => (okSt a.1 ∧ eachB a.1 x.1 = true ∧ eachB a.1 x.2 = true ∧ (0 ≤ i ∧ i ≤ a.1.length) ∧ (0 ≤ p ∧ p ≤ 70 ^ i.toNat) ∧ (0 ≤ q ∧ q ≤ 70 ^ i.toNat)) ∧
  ∀ p' q', p' = p * allM (a.1.drop i.toNat) (x.1.drop i.toNat) → q' = q * prodM (a.1.drop i.toNat) (x.1.drop i.toNat) (x.2.drop i.toNat) → Q (.exit 0) (stS 2 sh4e (n, a, x, w, al, p', q', ()))⟩
abbrev fc4 : FC := ⟨[.v TA, .v TLo, .v I], [.b], fun x K => (bigs x.1 ∧ (x.2.1.1.length ≤ big ∧ x.2.1.2.length ≤ big) ∧ inR .i64 x.2.2.1 = true) ∧ K (true, ())⟩
theorem v4F (a : Au) (sa lo : List Int) (n : Int) (K : dens [.b] → Prop) : (xfn1 Try.prog { nm := true, f := [(19, fcWorks), (20, fc20), (23, fc23), (24, fc24w), (25, fc25)], f2 := [(26, fc26)], l2 := [(4, 0, lc4)] } 5 4 fc4 (a, (sa, lo), n, ()) K) =
  ((bigs a ∧ sa.length ≤ 9223372036854775807 ∧ lo.length ≤ 9223372036854775807) ∧ ∀ (n_1 m e : Int), (n_1, m, e) = missF a sa lo → fork (e != (0 : Int)) (fork (n_1 == (0 : Int)) (fork (m == (0 : Int)) (K (true, ())) (K
 (false, ()))) (K (false, ()))) ((okSt (a.1) ∧ eachB (a.1) sa = true ∧ eachB (a.1) lo = true ∧ ((0 : SV.den (SV.slot 12 (SV.v I))) ≤ (0 : Int) ∧ (0 : Int) ≤ (↑(List.length (a.1)) : SV.den (SV.slot 12 (SV.v I)))) ∧ ((0 :
 SV.den (SV.slot 10 (SV.v I))) ≤ (1 : Int) ∧ (1 : Int) ≤ (70 : SV.den (SV.slot 10 (SV.v I))) ^ 0) ∧ (0 : SV.den (SV.slot 11 (SV.v I))) ≤ (1 : Int) ∧ (1 : Int) ≤ (70 : SV.den (SV.slot 11 (SV.v I))) ^ 0) ∧ ∀ (p' : SV.den
 (SV.slot ((10, SV.v I).1) ((10, SV.v I).2))) (q' : SV.den (SV.slot ((11, SV.v I).1) ((11, SV.v I).2))), p' = (1 : Int) * allM (List.drop 0 (a.1)) (List.drop 0 sa) → q' = (1 : Int) * prodM (List.drop 0 (a.1)) (List.drop 0
 sa) (List.drop 0 lo) → fork (n_1 != q') (K (false, ())) (fork (m != p') (K (false, ())) (fork ((↑(List.length (a.1)) : Int) == (0 : Int)) (K (false, ())) ((bigs a ∧ sa.length ≤ 9223372036854775807) ∧ ∀ (l : List Int) (n_2
 m_1 e : Int), (l, n_2, m_1, e) = worstV a sa → fork (e != (0 : Int)) (K (false, ())) (fork (m_1 != m) (K (false, ())) (l.length ≤ 9223372036854775807 ∧ ∀ (n_3 : Ty.den I), (l.length ≤ 6 → List.all l inW = true → n_3 =
 List.sum l) → AV.int IntKind.i64 (a.2.2.1) = AV.int IntKind.i64 (a.2.2.1) ∧ fork (n_3 != a.2.2.1) (K (false, ())) (lo.length ≤ 9223372036854775807 ∧ ∀ (n_4 : Ty.den I), (lo.length ≤ 6 → List.all lo inW = true → n_4 =
 List.sum lo) → AV.int IntKind.i64 (a.2.2.1) = AV.int IntKind.i64 (a.2.2.1) ∧ fork (n_4 == a.2.2.1) (fork (decide (n_1 > n_2)) (K (false, ())) ((bigs a ∧ sa.length ≤ 9223372036854775807 ∧ l.length ≤ 9223372036854775807) ∧
 ∀ (n_5 m_2 e : Int), (n_5, m_2, e) = missF a sa l → fork (e != (0 : Int)) (K (false, ())) (fork (n_5 != n_2) (K (false, ())) ((inR IntKind.i64 n = true ∧ (1 : AT.den (AT.v I)) ≤ (↑(List.length (a.1)) : Int) ∧
 (↑(List.length (a.1)) : Int) ≤ (1000000 : AT.den (AT.v I))) ∧ ∀ (r : AT.den (AT.v I)), r = n % (↑(List.length (a.1)) : Int) → sa.length ≤ 1000 ∧ ∀ (r_1 : List Int), r_1 = sa → AV.rl I lo = AV.rl I lo ∧ lo.length ≤ 1000 ∧
 ∀ (r_2 : List Int), r_2 = lo → req (decide ((0 : Int) ≤ r ∧ r < (↑(r_1.length) : Int))) (req (decide (Int.toNat r + 0 < r_1.length)) (req (inR IntKind.i64 (List.getD r_1 (Int.toNat r + 0) (0 : Int) + 1)) (req (decide ((0
 : Int) ≤ r ∧ r < (↑(r_2.length) : Int))) (req (decide (Int.toNat r + 0 < r_2.length)) (req (inR IntKind.i64 (List.getD r_2 (Int.toNat r + 0) (0 : Int) + 1)) (req (decide ((0 : Int) ≤ r ∧ r < (↑(r_1.length) : Int))) (req
 (decide (Int.toNat r + 0 < r_1.length)) (∀ (ys : List (Ty.den I)), ys = List.set r_1 (Int.toNat r + 0) (List.getD r_1 (Int.toNat r + 0) (0 : Int) + 1) → req (decide ((0 : Int) ≤ r ∧ r < (↑(r_2.length) : Int))) (req
 (decide (Int.toNat r + 0 < r_2.length)) (∀ (ys_1 : List (Ty.den I)), ys_1 = List.set r_2 (Int.toNat r + 0) (List.getD r_2 (Int.toNat r + 0) (0 : Int) + 1) → req (decide (0 + r_1.length ≤ ys.length)) ((bigs a ∧ List.length
 (seg 0 (r_1.length) ys) ≤ 9223372036854775807 ∧ lo.length ≤ 9223372036854775807) ∧ ∀ (n m_3 e : Int), (n, m_3, e) = missF a (seg 0 (r_1.length) ys) lo → fork (e == (0 : Int)) (req (inR IntKind.i64 (n * m)) (req (inR
 IntKind.i64 (n_1 * m_3)) (fork (decide (n * m > n_1 * m_3)) (K (false, ())) (req (decide (0 + r_2.length ≤ ys_1.length)) ((bigs a ∧ sa.length ≤ 9223372036854775807 ∧ List.length (seg 0 (r_2.length) ys_1) ≤
 9223372036854775807) ∧ ∀ (n m_4 e : Int), (n, m_4, e) = missF a sa (seg 0 (r_2.length) ys_1) → fork (e == (0 : Int)) (fork (m_4 != m) (K (false, ())) (fork (decide (n > n_1)) (K (false, ())) (K (true, ())))) (K (true,
 ()))))))) (req (decide (0 + r_2.length ≤ ys_1.length)) ((bigs a ∧ sa.length ≤ 9223372036854775807 ∧ List.length (seg 0 (r_2.length) ys_1) ≤ 9223372036854775807) ∧ ∀ (n m_4 e : Int), (n, m_4, e) = missF a sa (seg 0
 (r_2.length) ys_1) → fork (e == (0 : Int)) (fork (m_4 != m) (K (false, ())) (fork (decide (n > n_1)) (K (false, ())) (K (true, ())))) (K (true, ()))))))))))))))))))) ((bigs a ∧ sa.length ≤ 9223372036854775807 ∧ l.length ≤
 9223372036854775807) ∧ ∀ (n_5 m_2 e : Int), (n_5, m_2, e) = missF a sa l → fork (e != (0 : Int)) (K (false, ())) (fork (n_5 != n_2) (K (false, ())) ((inR IntKind.i64 n = true ∧ (1 : AT.den (AT.v I)) ≤ (↑(List.length
 (a.1)) : Int) ∧ (↑(List.length (a.1)) : Int) ≤ (1000000 : AT.den (AT.v I))) ∧ ∀ (r : AT.den (AT.v I)), r = n % (↑(List.length (a.1)) : Int) → sa.length ≤ 1000 ∧ ∀ (r_1 : List Int), r_1 = sa → AV.rl I lo = AV.rl I lo ∧
 lo.length ≤ 1000 ∧ ∀ (r_2 : List Int), r_2 = lo → req (decide ((0 : Int) ≤ r ∧ r < (↑(r_1.length) : Int))) (req (decide (Int.toNat r + 0 < r_1.length)) (req (inR IntKind.i64 (List.getD r_1 (Int.toNat r + 0) (0 : Int) +
 1)) (req (decide ((0 : Int) ≤ r ∧ r < (↑(r_2.length) : Int))) (req (decide (Int.toNat r + 0 < r_2.length)) (req (inR IntKind.i64 (List.getD r_2 (Int.toNat r + 0) (0 : Int) + 1)) (req (decide ((0 : Int) ≤ r ∧ r <
 (↑(r_1.length) : Int))) (req (decide (Int.toNat r + 0 < r_1.length)) (∀ (ys : List (Ty.den I)), ys = List.set r_1 (Int.toNat r + 0) (List.getD r_1 (Int.toNat r + 0) (0 : Int) + 1) → req (decide ((0 : Int) ≤ r ∧ r <
 (↑(r_2.length) : Int))) (req (decide (Int.toNat r + 0 < r_2.length)) (∀ (ys_1 : List (Ty.den I)), ys_1 = List.set r_2 (Int.toNat r + 0) (List.getD r_2 (Int.toNat r + 0) (0 : Int) + 1) → req (decide (0 + r_1.length ≤
 ys.length)) ((bigs a ∧ List.length (seg 0 (r_1.length) ys) ≤ 9223372036854775807 ∧ lo.length ≤ 9223372036854775807) ∧ ∀ (n m_3 e : Int), (n, m_3, e) = missF a (seg 0 (r_1.length) ys) lo → fork (e == (0 : Int)) (req (inR
 IntKind.i64 (n * m)) (req (inR IntKind.i64 (n_1 * m_3)) (fork (decide (n * m > n_1 * m_3)) (K (false, ())) (req (decide (0 + r_2.length ≤ ys_1.length)) ((bigs a ∧ sa.length ≤ 9223372036854775807 ∧ List.length (seg 0
 (r_2.length) ys_1) ≤ 9223372036854775807) ∧ ∀ (n m_4 e : Int), (n, m_4, e) = missF a sa (seg 0 (r_2.length) ys_1) → fork (e == (0 : Int)) (fork (m_4 != m) (K (false, ())) (fork (decide (n > n_1)) (K (false, ())) (K (true,
 ())))) (K (true, ()))))))) (req (decide (0 + r_2.length ≤ ys_1.length)) ((bigs a ∧ sa.length ≤ 9223372036854775807 ∧ List.length (seg 0 (r_2.length) ys_1) ≤ 9223372036854775807) ∧ ∀ (n m_4 e : Int), (n, m_4, e) = missF a
 sa (seg 0 (r_2.length) ys_1) → fork (e == (0 : Int)) (fork (m_4 != m) (K (false, ())) (fork (decide (n > n_1)) (K (false, ())) (K (true, ())))) (K (true, ())))))))))))))))))))))))))) := by kernel_rfl
end Go.P10
