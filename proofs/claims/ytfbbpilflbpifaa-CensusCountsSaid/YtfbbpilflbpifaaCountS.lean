/- CensusCounts: states and what is to be shown, reduced. No conditions. -/
import Derived.Test.YtfbbpilflbpifaaCheapP
set_option linter.unusedSimpArgs false
set_option linter.unusedVariables false
set_option linter.constructorNameAsVariable false
set_option maxRecDepth 100000
set_option maxHeartbeats 2000000
namespace Go.P10
open Go.Lom Go.Proofs Go

/-! all choices, one by one -/
def bitB (s k : Int) : Bool := Int.tmod (Int.fdiv s (2 ^ k.toNat)) 2 == 1
abbrev fc66 : FC := ⟨[.v I, .v I], [.b], fun x K => (0 ≤ x.1 ∧ 0 ≤ x.2.1 ∧ x.2.1 ≤ 62) ∧ ∀ b : Bool, b = bitB x.1 x.2.1 → K (b, ())⟩
theorem v66F (s k : Int) (K : dens [.b] → Prop) : (xfn1 Try.prog {} 5 66 fc66 (s, k, ()) K) =
  (req (decide ((0 : Int) ≤ k)) (K (Int.tmod (Int.fdiv s ((2 : Int) ^ Min.min (Int.toNat k) 64)) (2 : Int) == (1 : Int), ()))) := by kernel_rfl
/-- How many of the first things are chosen, and is one of them hit? -/
def cntB (s f : Int) : Nat → Int × Bool
  | 0 => (0, false)
  | k + 1 => match cntB s f k with
    | (c, h) => if bitB s k = true then (c + 1, h || decide ((k : Int) < f)) else (c, h)
def allN (n m f : Int) (k : Nat) : Int := (((List.range k).countP fun j : Nat => (cntB j f n.toNat).1 == m : Nat) : Int)
def nonN (n m f : Int) (k : Nat) : Int := (((List.range k).countP fun j : Nat => (cntB j f n.toNat).1 == m && !(cntB j f n.toNat).2 : Nat) : Int)
abbrev sh22b : SV := S [(0, .v I), (1, .v I), (2, .v I), (8, .v I), (9, .v I), (10, .v I), (11, .v I), (12, .v .b), (13, .v I)]
abbrev sh22be : SV := S [(0, .v I), (1, .v I), (2, .v I), (8, .v I), (9, .v I), (10, .v I), (11, .v I), (12, .v .b)]
abbrev lc22b : LC2 := ⟨0, sh22b, 0, fun (n, m, f, x, y, s, z, h, k, _) Q => ((0 ≤ n ∧ n ≤ 8) ∧ 0 ≤ s ∧ (0 ≤ k ∧ k ≤ n) ∧ (z, h) = cntB s f k.toNat) ∧ ∀ z' h', (z', h') = cntB s f n.toNat → Q (.exit 2) (stS 0 sh22be (n, m, f, x, y, s, z', h', ()))⟩
theorem v22B (n m f x y s z : Int) (h : Bool) (k : Int) (Q : AX → St → Prop) : (xloop2 Try.prog { nm := true, f := [(66, fc66)] } 5 22 1 lc22b (fun _ => some (sh22be, 0)) (fun (n, _, _, _, _, _, _, _, k, _) => (n - k).toNat) (n, m, f, x, y, s, z, h, k, ()) Q) =
  (fork (decide (k < n)) (((0 : AT.den (AT.v I)) ≤ s ∧ (0 : AT.den (AT.v I)) ≤ k ∧ k ≤ (62 : AT.den (AT.v I))) ∧ ∀ (b : Bool), b = bitB s k → fork b (req (inR IntKind.i64 (z + 1)) (fork h (req (inR IntKind.i64 (k + 1))
 (Int.toNat (n - (k + 1)) < Int.toNat (n - k) ∧ LC2.spec lc22b (n, m, f, x, y, s, z + 1, true, k + 1, ()) Q)) (req (inR IntKind.i64 (k + 1)) (Int.toNat (n - (k + 1)) < Int.toNat (n - k) ∧ LC2.spec lc22b (n, m, f, x, y, s,
 z + 1, decide (k < f), k + 1, ()) Q)))) (req (inR IntKind.i64 (k + 1)) (Int.toNat (n - (k + 1)) < Int.toNat (n - k) ∧ LC2.spec lc22b (n, m, f, x, y, s, z, h, k + 1, ()) Q))) (Q (AX.exit 2) (stS 0 sh22be (n, m, f, x, y, s,
 z, h, ())))) := by kernel_rfl
abbrev sh22a : SV := S [(0, .v I), (1, .v I), (2, .v I), (8, .v I), (9, .v I), (10, .v I)]
abbrev sh22ae : SV := S [(8, .v I), (9, .v I)]
abbrev lc22a : LC2 := ⟨0, sh22a, 0, fun (n, m, f, x, y, s, _) Q => ((0 ≤ n ∧ n ≤ 8) ∧ (0 ≤ s ∧ s ≤ 2 ^ n.toNat) ∧ x = allN n m f s.toNat ∧ y = nonN n m f s.toNat) ∧ ∀ x' y', x' = allN n m f (2 ^ n.toNat) → y' = nonN n m f (2 ^ n.toNat) → Q (.exit 0) (stS 0 sh22ae (x', y', ()))⟩
theorem v22A (n m f x y s : Int) (Q : AX → St → Prop) : (xloop2 Try.prog { nm := true, l2 := [(22, 1, lc22b)] } 5 22 0 lc22a (fun _ => some (sh22ae, 0)) (fun (n, _, _, _, _, s, _) => (2 ^ n.toNat - s).toNat) (n, m, f, x, y, s, ()) Q) =
  (req (decide ((0 : Int) ≤ n)) (req (inR IntKind.i64 ((1 : Int) * (2 : Int) ^ Min.min (Int.toNat n) 64)) (fork (decide (s < (1 : Int) * (2 : Int) ^ Min.min (Int.toNat n) 64)) ((((0 : SV.den (SV.slot 0 (SV.v I))) ≤ n ∧ n ≤
 (8 : SV.den (SV.slot 0 (SV.v I)))) ∧ (0 : SV.den (SV.slot 10 (SV.v I))) ≤ s ∧ ((0 : SV.den (SV.slot 13 (SV.v I))) ≤ (0 : Int) ∧ (0 : Int) ≤ n) ∧ ((0 : Int), false) = cntB s f 0) ∧ ∀ (z' : Int) (h' : Bool), (z', h') = cntB
 s f (Int.toNat n) → fork (z' == m) (req (inR IntKind.i64 (x + 1)) (fork (!h') (req (inR IntKind.i64 (y + 1)) (req (inR IntKind.i64 (s + 1)) (Int.toNat ((2 : SV.den (SV.slot 10 (SV.v I))) ^ Int.toNat n - (s + 1)) <
 Int.toNat ((2 : SV.den (SV.slot 10 (SV.v I))) ^ Int.toNat n - s) ∧ LC2.spec lc22a (n, m, f, x + 1, y + 1, s + 1, ()) Q))) (req (inR IntKind.i64 (s + 1)) (Int.toNat ((2 : SV.den (SV.slot 10 (SV.v I))) ^ Int.toNat n - (s +
 1)) < Int.toNat ((2 : SV.den (SV.slot 10 (SV.v I))) ^ Int.toNat n - s) ∧ LC2.spec lc22a (n, m, f, x + 1, y, s + 1, ()) Q)))) (req (inR IntKind.i64 (s + 1)) (Int.toNat ((2 : SV.den (SV.slot 10 (SV.v I))) ^ Int.toNat n - (s
 + 1)) < Int.toNat ((2 : SV.den (SV.slot 10 (SV.v I))) ^ Int.toNat n - s) ∧ LC2.spec lc22a (n, m, f, x, y, s + 1, ()) Q))) (Q (AX.exit 0) (stS 0 sh22ae (x, y, ())))))) := by kernel_rfl
abbrev fc22 : FC := ⟨[.v I, .v I, .v I], [I, I], fun x K => ((0 ≤ x.1 ∧ x.1 ≤ 8) ∧ (0 ≤ x.2.1 ∧ x.2.1 ≤ x.1) ∧ (0 ≤ x.2.2.1 ∧ x.2.2.1 ≤ x.1)) ∧ ∀ p q, p = chs x.1 x.2.1 → q = chs (x.1 - x.2.2.1) x.2.1 → K (p, q, ())⟩
theorem v22F (n m f : Int) (K : dens [I, I] → Prop) : (xfn1 Try.prog { nm := true, l2 := [(22, 0, lc22a)] } 5 22 fc22 (n, m, f, ()) K) =
  ((((0 : SV.den (SV.slot 0 (SV.v I))) ≤ n ∧ n ≤ (8 : SV.den (SV.slot 0 (SV.v I)))) ∧ ((0 : SV.den (SV.slot 10 (SV.v I))) ≤ (0 : Int) ∧ (0 : Int) ≤ (2 : SV.den (SV.slot 10 (SV.v I))) ^ Int.toNat n) ∧ (0 : Int) = allN n m f
 0 ∧ (0 : Int) = nonN n m f 0) ∧ ∀ (x' y' : Int), x' = allN n m f (2 ^ Int.toNat n) → y' = nonN n m f (2 ^ Int.toNat n) → K (x', y', ())) := by kernel_rfl
/-! the statement -/
abbrev sh4 : SV := S [(2, .v I), (3, .box 0 (.v TA)), (4, .box 1 (.v TLo)), (7, .v I), (8, .v I), (10, .v I), (11, .v I), (12, .v I)]
abbrev sh4e : SV := S [(2, .v I), (3, .box 0 (.v TA)), (4, .box 1 (.v TLo)), (7, .v I), (8, .v I), (10, .v I), (11, .v I)]
def ex4 : Ex2
  | .ret => some (.nil, 0)
  | _ => some (sh4e, 2)
abbrev lc4 : LC2 := ⟨0, sh4, 2, fun (n, a, x, w, al, p, q, i, _) Q => (okSt a.1 ∧ eachB a.1 x.1 = true ∧ eachB a.1 x.2 = true ∧ (0 ≤ i ∧ i ≤ a.1.length) ∧ (0 ≤ p ∧ p ≤ 70 ^ i.toNat) ∧ (0 ≤ q ∧ q ≤ 70 ^ i.toNat)) ∧
  ∀ p' q', p' = p * allM (a.1.drop i.toNat) (x.1.drop i.toNat) → q' = q * prodM (a.1.drop i.toNat) (x.1.drop i.toNat) (x.2.drop i.toNat) → Q (.exit 0) (stS 2 sh4e (n, a, x, w, al, p', q', ()))⟩
theorem v4L (n : Int) (a : Au) (sa lo : List Int) (w al p q i : Int) (Q : AX → St → Prop) : (xloop2 Try.prog { nm := true, f := [(22, fc22)] } 5 4 0 lc4 ex4 (fun (_, a, _, _, _, _, _, i, _) => mL a.1 i) (n, a, (sa, lo), w, al, p, q, i, ()) Q) =
  (fork (decide (i < (↑(List.length (a.1)) : Int))) (fork (decide (i ≥ (↑(sa.length) : Int))) (Q AX.ret (stS 0 SV.nil ())) (fork (decide (i ≥ (↑(lo.length) : Int))) (Q AX.ret (stS 0 SV.nil ())) (req (decide ((0 : Int) ≤ i ∧
 i < (↑(List.length (a.1)) : Int))) (fork (decide ((0 : Int) ≤ List.getD (a.1) (Int.toNat i) (0 : Int))) (fork (!decide (List.getD (a.1) (Int.toNat i) (0 : Int) ≤ (8 : Int))) (Q AX.ret (stS 0 SV.nil ())) (req (decide ((0 :
 Int) ≤ i ∧ i < (↑(List.length (a.1)) : Int))) (req (decide ((0 : Int) ≤ i ∧ i < (↑(sa.length) : Int))) (req (decide ((0 : Int) ≤ i ∧ i < (↑(lo.length) : Int))) ((((0 : AT.den (AT.v I)) ≤ List.getD (a.1) (Int.toNat i) (0 :
 Int) ∧ List.getD (a.1) (Int.toNat i) (0 : Int) ≤ (8 : AT.den (AT.v I))) ∧ ((0 : AT.den (AT.v I)) ≤ List.getD sa (Int.toNat i) (0 : Int) ∧ List.getD sa (Int.toNat i) (0 : Int) ≤ List.getD (a.1) (Int.toNat i) (0 : Int)) ∧
 (0 : AT.den (AT.v I)) ≤ List.getD lo (Int.toNat i) (0 : Int) ∧ List.getD lo (Int.toNat i) (0 : Int) ≤ List.getD (a.1) (Int.toNat i) (0 : Int)) ∧ ∀ (p_1 q_1 : Int), p_1 = chs (List.getD (a.1) (Int.toNat i) (0 : Int))
 (List.getD sa (Int.toNat i) (0 : Int)) → q_1 = chs (List.getD (a.1) (Int.toNat i) (0 : Int) - List.getD lo (Int.toNat i) (0 : Int)) (List.getD sa (Int.toNat i) (0 : Int)) → req (inR IntKind.i64 (p * p_1)) (req (inR
 IntKind.i64 (q * q_1)) (req (inR IntKind.i64 (i + 1)) (mL (a.1) (i + 1) < mL (a.1) i ∧ LC2.spec lc4 (n, a, (sa, lo), w, al, p * p_1, q * q_1, i + 1, ()) Q)))))))) (Q AX.ret (stS 0 SV.nil ())))))) (Q (AX.exit 0) (stS 2
 sh4e (n, a, (sa, lo), w, al, p, q, ())))) := by kernel_rfl
abbrev fc4 : FC := ⟨[.v TA, .v TLo, .v I], [.b], fun x K => (bigs x.1 ∧ (x.2.1.1.length ≤ big ∧ x.2.1.2.length ≤ big) ∧ inR .i64 x.2.2.1 = true) ∧ K (true, ())⟩
theorem v4F (a : Au) (sa lo : List Int) (n : Int) (K : dens [.b] → Prop) : (xfn1 Try.prog { nm := true, f := [(19, fcWorks), (20, fc20), (23, fc23), (24, fc24w), (25, fc25)], f2 := [(26, fc26)], l2 := [(4, 0, lc4)] } 5 4 fc4 (a, (sa, lo), n, ()) K) =
  ((bigs a ∧ sa.length ≤ 9223372036854775807 ∧ lo.length ≤ 9223372036854775807) ∧ ∀ (n_1 m e : Int), (n_1, m, e) = missF a sa lo → fork (e != (0 : Int)) (fork (n_1 == (0 : Int)) (fork (m == (0 : Int)) (K (true, ())) (K
 (false, ()))) (K (false, ()))) ((okSt (a.1) ∧ eachB (a.1) sa = true ∧ eachB (a.1) lo = true ∧ ((0 : SV.den (SV.slot 12 (SV.v I))) ≤ (0 : Int) ∧ (0 : Int) ≤ (↑(List.length (a.1)) : SV.den (SV.slot 12 (SV.v I)))) ∧ ((0 :
 SV.den (SV.slot 10 (SV.v I))) ≤ (1 : Int) ∧ (1 : Int) ≤ (70 : SV.den (SV.slot 10 (SV.v I))) ^ 0) ∧ (0 : SV.den (SV.slot 11 (SV.v I))) ≤ (1 : Int) ∧ (1 : Int) ≤ (70 : SV.den (SV.slot 11 (SV.v I))) ^ 0) ∧ ∀ (p' : SV.den
 (SV.slot ((10, SV.v I).1) ((10, SV.v I).2))) (q' : SV.den (SV.slot ((11, SV.v I).1) ((11, SV.v I).2))), p' = (1 : Int) * allM (List.drop 0 (a.1)) (List.drop 0 sa) → q' = (1 : Int) * prodM (List.drop 0 (a.1)) (List.drop 0
 sa) (List.drop 0 lo) → fork (n_1 != q') (K (false, ())) (fork (m != p') (K (false, ())) (fork ((↑(List.length (a.1)) : Int) == (0 : Int)) (K (false, ())) ((bigs a ∧ sa.length ≤ 9223372036854775807) ∧ ∀ (l : List Int) (n_2
 m_1 e : Int), (l, n_2, m_1, e) = worstV a sa → fork (e != (0 : Int)) (K (false, ())) (fork (m_1 != m) (K (false, ())) (l.length ≤ 9223372036854775807 ∧ ∀ (n_3 : Ty.den I), (l.length ≤ 6 → List.all l inW = true → n_3 =
 List.sum l) → AV.int IntKind.i64 (a.2.2.1) = AV.int IntKind.i64 (a.2.2.1) ∧ fork (n_3 != a.2.2.1) (K (false, ())) (lo.length ≤ 9223372036854775807 ∧ ∀ (n_4 : Ty.den I), (lo.length ≤ 6 → List.all lo inW = true → n_4 =
 List.sum lo) → AV.int IntKind.i64 (a.2.2.1) = AV.int IntKind.i64 (a.2.2.1) ∧ fork (n_4 == a.2.2.1) (fork (decide (n_1 > n_2)) (K (false, ())) ((bigs a ∧ sa.length ≤ 9223372036854775807 ∧ l.length ≤ 9223372036854775807) ∧
 ∀ (n_5 m_2 e : Int), (n_5, m_2, e) = missF a sa l → fork (e != (0 : Int)) (K (false, ())) (fork (n_5 != n_2) (K (false, ())) ((inR IntKind.i64 n = true ∧ (1 : AT.den (AT.v I)) ≤ (↑(List.length (a.1)) : Int) ∧
 (↑(List.length (a.1)) : Int) ≤ (1000000 : AT.den (AT.v I))) ∧ ∀ (r : AT.den (AT.v I)), r = n % (↑(List.length (a.1)) : Int) → sa.length ≤ 1000 ∧ ∀ (r_1 : List Int), r_1 = sa → AV.rl I lo = AV.rl I lo ∧ lo.length ≤ 1000 ∧
 ∀ (r_2 : List Int), r_2 = lo → req (decide ((0 : Int) ≤ r ∧ r < (↑(r_1.length) : Int))) (req (decide (Int.toNat r + 0 < r_1.length)) (req (inR IntKind.i64 (List.getD r_1 (Int.toNat r + 0) (0 : Int) + 1)) (req (decide ((0
 : Int) ≤ r ∧ r < (↑(r_2.length) : Int))) (req (decide (Int.toNat r + 0 < r_2.length)) (req (inR IntKind.i64 (List.getD r_2 (Int.toNat r + 0) (0 : Int) + 1)) (req (decide ((0 : Int) ≤ r ∧ r < (↑(r_1.length) : Int))) (req
 (decide (Int.toNat r + 0 < r_1.length)) (∀ (ys : List (Ty.den I)), ys = List.set r_1 (Int.toNat r + 0) (List.getD r_1 (Int.toNat r + 0) (0 : Int) + 1) → req (decide ((0 : Int) ≤ r ∧ r < (↑(r_2.length) : Int))) (req
 (decide (Int.toNat r + 0 < r_2.length)) (∀ (ys_1 : List (Ty.den I)), ys_1 = List.set r_2 (Int.toNat r + 0) (List.getD r_2 (Int.toNat r + 0) (0 : Int) + 1) → req (decide (0 + r_1.length ≤ ys.length)) ((bigs a ∧ List.length
 (seg 0 (r_1.length) ys) ≤ 9223372036854775807 ∧ lo.length ≤ 9223372036854775807) ∧ ∀ (n m_3 e : Int), (n, m_3, e) = missF a (seg 0 (r_1.length) ys) lo → fork (e == (0 : Int)) (req (inR IntKind.i64 (n * m)) (req (inR
 IntKind.i64 (n_1 * m_3)) (fork (decide (n * m > n_1 * m_3)) (K (false, ())) (req (decide (0 + r_2.length ≤ ys_1.length)) ((bigs a ∧ sa.length ≤ 9223372036854775807 ∧ List.length (seg 0 (r_2.length) ys_1) ≤
 9223372036854775807) ∧ ∀ (n m_4 e : Int), (n, m_4, e) = missF a sa (seg 0 (r_2.length) ys_1) → fork (e == (0 : Int)) (fork (m_4 != m) (K (false, ())) (fork (decide (n > n_1)) (K (false, ())) (K (true, ())))) (K (true,
 ()))))))) (req (decide (0 + r_2.length ≤ ys_1.length)) ((bigs a ∧ sa.length ≤ 9223372036854775807 ∧ List.length (seg 0 (r_2.length) ys_1) ≤ 9223372036854775807) ∧ ∀ (n m_4 e : Int), (n, m_4, e) = missF a sa (seg 0
 (r_2.length) ys_1) → fork (e == (0 : Int)) (fork (m_4 != m) (K (false, ())) (fork (decide (n > n_1)) (K (false, ())) (K (true, ())))) (K (true, ()))))))))))))))))))) ((bigs a ∧ sa.length ≤ 9223372036854775807 ∧ l.length ≤
 9223372036854775807) ∧ ∀ (n_5 m_2 e : Int), (n_5, m_2, e) = missF a sa l → fork (e != (0 : Int)) (K (false, ())) (fork (n_5 != n_2) (K (false, ())) ((inR IntKind.i64 n = true ∧ (1 : AT.den (AT.v I)) ≤ (↑(List.length
 (a.1)) : Int) ∧ (↑(List.length (a.1)) : Int) ≤ (1000000 : AT.den (AT.v I))) ∧ ∀ (r : AT.den (AT.v I)), r = n % (↑(List.length (a.1)) : Int) → sa.length ≤ 1000 ∧ ∀ (r_1 : List Int), r_1 = sa → AV.rl I lo = AV.rl I lo ∧
 lo.length ≤ 1000 ∧ ∀ (r_2 : List Int), r_2 = lo → req (decide ((0 : Int) ≤ r ∧ r < (↑(r_1.length) : Int))) (req (decide (Int.toNat r + 0 < r_1.length)) (req (inR IntKind.i64 (List.getD r_1 (Int.toNat r + 0) (0 : Int) +
 1)) (req (decide ((0 : Int) ≤ r ∧ r < (↑(r_2.length) : Int))) (req (decide (Int.toNat r + 0 < r_2.length)) (req (inR IntKind.i64 (List.getD r_2 (Int.toNat r + 0) (0 : Int) + 1)) (req (decide ((0 : Int) ≤ r ∧ r <
 (↑(r_1.length) : Int))) (req (decide (Int.toNat r + 0 < r_1.length)) (∀ (ys : List (Ty.den I)), ys = List.set r_1 (Int.toNat r + 0) (List.getD r_1 (Int.toNat r + 0) (0 : Int) + 1) → req (decide ((0 : Int) ≤ r ∧ r <
 (↑(r_2.length) : Int))) (req (decide (Int.toNat r + 0 < r_2.length)) (∀ (ys_1 : List (Ty.den I)), ys_1 = List.set r_2 (Int.toNat r + 0) (List.getD r_2 (Int.toNat r + 0) (0 : Int) + 1) → req (decide (0 + r_1.length ≤
 ys.length)) ((bigs a ∧ List.length (seg 0 (r_1.length) ys) ≤ 9223372036854775807 ∧ lo.length ≤ 9223372036854775807) ∧ ∀ (n m_3 e : Int), (n, m_3, e) = missF a (seg 0 (r_1.length) ys) lo → fork (e == (0 : Int)) (req (inR
 IntKind.i64 (n * m)) (req (inR IntKind.i64 (n_1 * m_3)) (fork (decide (n * m > n_1 * m_3)) (K (false, ())) (req (decide (0 + r_2.length ≤ ys_1.length)) ((bigs a ∧ sa.length ≤ 9223372036854775807 ∧ List.length (seg 0
 (r_2.length) ys_1) ≤ 9223372036854775807) ∧ ∀ (n m_4 e : Int), (n, m_4, e) = missF a sa (seg 0 (r_2.length) ys_1) → fork (e == (0 : Int)) (fork (m_4 != m) (K (false, ())) (fork (decide (n > n_1)) (K (false, ())) (K (true,
 ())))) (K (true, ()))))))) (req (decide (0 + r_2.length ≤ ys_1.length)) ((bigs a ∧ sa.length ≤ 9223372036854775807 ∧ List.length (seg 0 (r_2.length) ys_1) ≤ 9223372036854775807) ∧ ∀ (n m_4 e : Int), (n, m_4, e) = missF a
 sa (seg 0 (r_2.length) ys_1) → fork (e == (0 : Int)) (fork (m_4 != m) (K (false, ())) (fork (decide (n > n_1)) (K (false, ())) (K (true, ())))) (K (true, ())))))))))))))))))))))))))) := by kernel_rfl
end Go.P10
