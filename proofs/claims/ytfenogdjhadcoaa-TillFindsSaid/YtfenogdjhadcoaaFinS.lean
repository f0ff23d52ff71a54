/- TillFinds: states and what is to be shown, reduced. No conditions. -/
import Derived.Test.YtfenogdjhadcoaaFindS
import Derived.Test.YtfenogdjhadcoaaRefS8
set_option linter.all false
set_option maxRecDepth 100000
set_option maxHeartbeats 2000000
namespace Go.P8
open Go.Lom Go.Proofs Go
abbrev fcRingF : FC := ⟨[.v I, .v I], [I], fun x K => (0 < x.2.1 /\ x.2.1 <= 4611686018427387904) /\ ∀ r : Int, r = x.1 % x.2.1 -> K (r, ())⟩
theorem v33Ff (n m : Int) (K : dens [I] -> Prop) : (xfn1 Try.prog {} 5 33 fcRingF (n, m, ()) K) =
 (fork (decide (m <= (0 : Int))) (K ((0 : Int), ())) (req (decide (m ≠ (0 : Int))) (req (inR IntKind.i64 (Int.tmod n m + m)) (req (decide (m ≠ (0 : Int))) (K (Int.tmod (Int.tmod n m + m) m, ())))))) := by kernel_rfl
abbrev LLL : Ty := .sl LL
def readK (p : List (List Int)) (c s : Int) : List Int := p.map fun row => s * row.getD (max 0 c).toNat 0
def telling (n : Int) (p : List (List Int)) : Prop := planOk n p /\ (casesT n p).isSome = true
abbrev sh10c : SV := S [(0, .v I), (2, .v I), (10, .v LLL), (11, .v I), (12, .v I), (13, .v I), (14, .own 0 I), (15, .v I)]
abbrev sh10ce : SV := S [(0, .v I), (2, .v I), (10, .v LLL), (11, .v I), (12, .v I), (13, .v I), (14, .own 0 I)]
def ex10c : Ex2
 | .ret => some (S [(6, .v .b)], 0)
 | _ => some (sh10ce, 1)
abbrev lc10c : LC2 := ⟨0, sh10c, 1, fun (n, k, ps, i, c, s, l, w, _) Q => ((0 <= i /\ i < ps.length) /\ (planOk n (ps.getD i.toNat []) /\ 3 <= n /\ n <= 12) /\ (-1 <= c /\ c < n) /\ (-1 <= s /\ s <= 1) /\ (0 <= w /\ w <= (ps.getD i.toNat []).length) /\ l.length <= w.toNat) /\ ∀ l' : List Int, l' = l ++ readK ((ps.getD i.toNat []).drop w.toNat) c s -> Q (.exit 2) (stS 1 sh10ce (n, k, ps, i, c, s, l', ()))⟩
theorem v10C (n k : Int) (ps : List (List (List Int))) (i c s : Int) (l : List Int) (w : Int) (Q : AX -> St -> Prop) : (xloop2 Try.prog { nm := true, fz := true } 5 10 1 lc10c ex10c (fun (_, _, ps, i, _, _, _, w, _) => mL (ps.getD i.toNat []) w) (n, k, ps, i, c, s, l, w, ()) Q) =
 (req (decide ((0 : Int) <= i /\ i < (↑(ps.length) : Int))) (fork (decide (w < (↑(List.length (List.getD ps (Int.toNat i) [])) : Int))) (req (decide ((0 : Int) <= i /\ i < (↑(ps.length) : Int))) (req (decide ((0 : Int) <= w /\ w
 < (↑(List.length (List.getD ps (Int.toNat i) [])) : Int))) (fork ((↑(List.length (List.getD (List.getD ps (Int.toNat i) []) (Int.toNat w) [])) : Int) != n) (Q AX.ret (stS 0 (S [(6, SV.v Ty.b)]) (false, ()))) (req (decide
 ((0 : Int) <= i /\ i < (↑(ps.length) : Int))) (req (decide ((0 : Int) <= w /\ w < (↑(List.length (List.getD ps (Int.toNat i) [])) : Int))) (req (decide (((0 : Int) <= if c > (0 : Int) then c else (0 : Int)) /\ (if c > (0 : Int)
 then c else (0 : Int)) < (↑(List.length (List.getD (List.getD ps (Int.toNat i) []) (Int.toNat w) [])) : Int))) (req (inR IntKind.i64 (s * List.getD (List.getD (List.getD ps (Int.toNat i) []) (Int.toNat w) []) (Int.toNat
 (if c > (0 : Int) then c else (0 : Int))) (0 : Int))) (req (decide (0 + l.length <= l.length)) (req (fitsN (l.length + 1) 8) (∀ (ys : List (Ty.den (Ty.i IntKind.i64))), ys = seg 0 (l.length) l ++ [s * List.getD (List.getD
 (List.getD ps (Int.toNat i) []) (Int.toNat w) []) (Int.toNat (if c > (0 : Int) then c else (0 : Int))) (0 : Int)] -> req (inR IntKind.i64 (w + 1)) (req (decide (0 + (l.length + 1) <= ys.length)) (mL (List.getD ps (Int.toNat
 i) []) (w + 1) < mL (List.getD ps (Int.toNat i) []) w /\ LC2.spec lc10c (n, k, ps, i, c, s, seg 0 (l.length + 1) ys, w + 1, ()) Q)))))))))))) (req (decide (0 + l.length <= l.length)) (Q (AX.exit 2) (stS 1 sh10ce (n, k, ps,
 i, c, s, seg 0 (l.length) l, ())))))) := by kernel_rfl
abbrev sh10 : SV := S [(0, .v I), (2, .v I), (10, .v LLL), (11, .v I)]
def ex10 : Ex2
 | .ret => some (S [(6, .v .b)], 0)
 | _ => some (.nil, 0)
abbrev lc10 : LC2 := ⟨0, sh10, 0, fun (n, k, ps, i, _) Q => ((3 <= n /\ n <= 12) /\ (0 <= i /\ i <= ps.length /\ ps.length <= 2) /\ ∀ p ∈ ps, telling n p) /\ Q (.exit 0) (stS 0 .nil ())⟩
theorem v10L (n k : Int) (ps : List (List (List Int))) (i : Int) (Q : AX -> St -> Prop) : (xloop2 Try.prog { nm := true, fz := true, f := [(39, fc39), (33, fcRingF)], l2 := [(10, 1, lc10c)] } 5 10 0 lc10 ex10 (fun (_, _, ps, i, _) => mL ps i) (n, k, ps, i, ()) Q) =
 (fork (decide (i < (↑(ps.length) : Int))) (req (inR IntKind.i64 ((2 : Int) * n)) (req (inR IntKind.i64 ((2 : Int) * n + 1)) (((0 : AT.den (AT.v I)) < (2 : Int) * n + 1 /\ (2 : Int) * n + 1 <= (4611686018427387904 : AT.den
 (AT.v I))) /\ ∀ (r : Int), r = k % ((2 : Int) * n + 1) -> req (inR IntKind.i64 (Int.tdiv r (2 : Int))) (req (inR IntKind.i64 ((2 : Int) * n)) (req (inR IntKind.i64 ((2 : Int) * n + 1)) (((0 : AT.den (AT.v I)) < (2 : Int) *
 n + 1 /\ (2 : Int) * n + 1 <= (4611686018427387904 : AT.den (AT.v I))) /\ ∀ (r_1 : Int), r_1 = k % ((2 : Int) * n + 1) -> req (inR IntKind.i64 ((2 : Int) * Int.tmod r_1 (2 : Int))) (req (inR IntKind.i64 ((2 : Int) * Int.tmod
 r_1 (2 : Int) - 1)) (req (inR IntKind.i64 ((2 : Int) * n)) (req (inR IntKind.i64 ((2 : Int) * n + 1)) (((0 : AT.den (AT.v I)) < (2 : Int) * n + 1 /\ (2 : Int) * n + 1 <= (4611686018427387904 : AT.den (AT.v I))) /\ ∀ (r_2 :
 Int), r_2 = k % ((2 : Int) * n + 1) -> req (inR IntKind.i64 ((2 : Int) * n)) (fork (r_2 == (2 : Int) * n) ((((0 : SV.den (SV.slot 11 (SV.v I))) <= i /\ i < (↑(ps.length) : SV.den (SV.slot 11 (SV.v I)))) /\ (planOk n
 (List.getD ps (Int.toNat i) []) /\ (3 : SV.den (SV.slot 0 (SV.v I))) <= n /\ n <= (12 : SV.den (SV.slot 0 (SV.v I)))) /\ ((-1 : SV.den (SV.slot 12 (SV.v I))) <= (-1 : Int) /\ (-1 : Int) < n) /\ ((-1 : SV.den (SV.slot 13 (SV.v
 I))) <= (0 : Int) /\ (0 : Int) <= (1 : SV.den (SV.slot 13 (SV.v I)))) /\ ((0 : SV.den (SV.slot 15 (SV.v I))) <= (0 : Int) /\ (0 : Int) <= (↑(List.length (List.getD ps (Int.toNat i) [])) : SV.den (SV.slot 15 (SV.v I)))) /\ 0 <= 0)
 /\ ∀ (l' : List Int), l' = [] ++ readK (List.drop 0 (List.getD ps (Int.toNat i) [])) (-1 : Int) (0 : Int) -> req (decide ((0 : Int) <= i /\ i < (↑(ps.length) : Int))) (req (decide (0 + l'.length <= l'.length)) (req (decide (0
 + l'.length <= l'.length)) ((1 <= List.length (seg 0 (l'.length) l') /\ List.length (seg 0 (l'.length) l') <= 4) /\ ∀ (a b e : Int), (a, b, e) = judgeV n (List.getD ps (Int.toNat i) []) (seg 0 (l'.length) l') -> fork (a != (-1
 : Int)) (Q AX.ret (stS 0 (S [(6, SV.v Ty.b)]) (false, ()))) (fork (b != (0 : Int)) (Q AX.ret (stS 0 (S [(6, SV.v Ty.b)]) (false, ()))) (fork (e != (0 : Int)) (Q AX.ret (stS 0 (S [(6, SV.v Ty.b)]) (false, ()))) (req (inR
 IntKind.i64 (i + 1)) (mL ps (i + 1) < mL ps i /\ LC2.spec lc10 (n, k, ps, i + 1, ()) Q)))))))) ((((0 : SV.den (SV.slot 11 (SV.v I))) <= i /\ i < (↑(ps.length) : SV.den (SV.slot 11 (SV.v I)))) /\ (planOk n (List.getD ps
 (Int.toNat i) []) /\ (3 : SV.den (SV.slot 0 (SV.v I))) <= n /\ n <= (12 : SV.den (SV.slot 0 (SV.v I)))) /\ ((-1 : SV.den (SV.slot 12 (SV.v I))) <= Int.tdiv r (2 : Int) /\ Int.tdiv r (2 : Int) < n) /\ ((-1 : SV.den (SV.slot 13
 (SV.v I))) <= (2 : Int) * Int.tmod r_1 (2 : Int) - 1 /\ (2 : Int) * Int.tmod r_1 (2 : Int) - 1 <= (1 : SV.den (SV.slot 13 (SV.v I)))) /\ ((0 : SV.den (SV.slot 15 (SV.v I))) <= (0 : Int) /\ (0 : Int) <= (↑(List.length (List.getD
 ps (Int.toNat i) [])) : SV.den (SV.slot 15 (SV.v I)))) /\ 0 <= 0) /\ ∀ (l' : List Int), l' = [] ++ readK (List.drop 0 (List.getD ps (Int.toNat i) [])) (Int.tdiv r (2 : Int)) ((2 : Int) * Int.tmod r_1 (2 : Int) - 1) -> req
 (decide ((0 : Int) <= i /\ i < (↑(ps.length) : Int))) (req (decide (0 + l'.length <= l'.length)) (req (decide (0 + l'.length <= l'.length)) ((1 <= List.length (seg 0 (l'.length) l') /\ List.length (seg 0 (l'.length) l') <= 4) /\
 ∀ (a b e : Int), (a, b, e) = judgeV n (List.getD ps (Int.toNat i) []) (seg 0 (l'.length) l') -> fork (a != Int.tdiv r (2 : Int)) (Q AX.ret (stS 0 (S [(6, SV.v Ty.b)]) (false, ()))) (fork (b != (2 : Int) * Int.tmod r_1 (2 :
 Int) - 1) (Q AX.ret (stS 0 (S [(6, SV.v Ty.b)]) (false, ()))) (fork (e != (0 : Int)) (Q AX.ret (stS 0 (S [(6, SV.v Ty.b)]) (false, ()))) (req (inR IntKind.i64 (i + 1)) (mL ps (i + 1) < mL ps i /\ LC2.spec lc10 (n, k, ps, i
 + 1, ()) Q))))))))))))))))))) (Q (AX.exit 0) (stS 0 SV.nil ()))) := by kernel_rfl
abbrev fc10 : FC := ⟨[.v I, .v LL, .v I], [.b], fun x K => True /\ K (true, ())⟩
theorem v10F (n : Int) (p : List (List Int)) (k : Int) (K : dens [.b] -> Prop) : (xfn1 Try.prog { nm := true, fz := true, f := [(37, fc37), (38, fc38), (26, fcFrom'), (19, fcWorks)], l2 := [(10, 0, lc10)] } 5 10 fc10 (n, p, k, ()) K) =
 (True /\ ∀ (r : List (List Int)) (e : Int), ((r, e) = if (3 : AT.den (AT.v I)) <= n /\ n <= (12 : AT.den (AT.v I)) then (weighT n, (0 : Int)) else ([], (7 : Int))) -> fork (e != (0 : Int)) (fork (e == (7 : Int)) (∀ (b : Bool),
 b = decide ((3 : Int) <= n /\ n <= (12 : Int)) -> fork (!b) (fork ((↑(r.length) : Int) == (0 : Int)) (K (true, ())) (K (false, ()))) (K (false, ()))) (K (false, ()))) (∀ (b : Bool), b = decide ((3 : Int) <= n /\ n <= (12 : Int))
 -> fork (!b) (K (false, ())) (True /\ ∀ (b : Bool) (e : Int), (b, e) = tellsV n p -> fork (e != (0 : Int)) (fork (e == (82 : Int)) (fork (!b) (K (true, ())) (K (false, ()))) (K (false, ()))) (fork b (fork (decide
 ((↑(p.length) : Int) < (↑(r.length) : Int))) (K (false, ())) (fork b (∀ (ys : List (Ty.den (Ty.sl (Ty.sl (Ty.i IntKind.i64))))), ys = [r] ++ [p] -> req (decide (2 <= ys.length)) ((((3 : SV.den (SV.slot 0 (SV.v I))) <= n /\ n
 <= (12 : SV.den (SV.slot 0 (SV.v I)))) /\ ((0 : SV.den (SV.slot 11 (SV.v I))) <= (0 : Int) /\ (0 : Int) <= (↑(List.length (seg 0 2 ys)) : SV.den (SV.slot 11 (SV.v I))) /\ List.length (seg 0 2 ys) <= 2) /\ ∀ (p : Ty.den LL), p ∈
 seg 0 2 ys -> telling n p) /\ K (true, ()))) ((((3 : SV.den (SV.slot 0 (SV.v I))) <= n /\ n <= (12 : SV.den (SV.slot 0 (SV.v I)))) /\ ((0 : SV.den (SV.slot 11 (SV.v I))) <= (0 : Int) /\ (0 : Int) <= (↑1 : SV.den (SV.slot 11 (SV.v
 I))) /\ 1 <= 2) /\ ∀ (p : Ty.den LL), p ∈ [r] -> telling n p) /\ K (true, ())))) (fork b (∀ (ys : List (Ty.den (Ty.sl (Ty.sl (Ty.i IntKind.i64))))), ys = [r] ++ [p] -> req (decide (2 <= ys.length)) ((((3 : SV.den (SV.slot 0
 (SV.v I))) <= n /\ n <= (12 : SV.den (SV.slot 0 (SV.v I)))) /\ ((0 : SV.den (SV.slot 11 (SV.v I))) <= (0 : Int) /\ (0 : Int) <= (↑(List.length (seg 0 2 ys)) : SV.den (SV.slot 11 (SV.v I))) /\ List.length (seg 0 2 ys) <= 2) /\ ∀ (p
 : Ty.den LL), p ∈ seg 0 2 ys -> telling n p) /\ K (true, ()))) ((((3 : SV.den (SV.slot 0 (SV.v I))) <= n /\ n <= (12 : SV.den (SV.slot 0 (SV.v I)))) /\ ((0 : SV.den (SV.slot 11 (SV.v I))) <= (0 : Int) /\ (0 : Int) <= (↑1 : SV.den
 (SV.slot 11 (SV.v I))) /\ 1 <= 2) /\ ∀ (p : Ty.den LL), p ∈ [r] -> telling n p) /\ K (true, ()))))))) := by kernel_rfl
end Go.P8
