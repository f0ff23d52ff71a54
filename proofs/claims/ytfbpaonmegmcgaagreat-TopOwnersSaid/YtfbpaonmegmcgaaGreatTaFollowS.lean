/- Funds: what follows from a course: states and what is to be shown, reduced. No conditions. -/
import Derived.Test.YtfbpaonmegmcgaaGreatTaPlanS
set_option linter.all false
set_option maxRecDepth 100000
set_option maxHeartbeats 2000000
namespace Go.P9
open Go.Lom Go.Proofs Go
abbrev TC : Ty := .pr L (.pr TR (.pr L L))
abbrev Cs : Type := List Int × Rn × List Int × List Int
def goodC (f : Fd) (c : Cs) : Prop := okF f = true /\ planB f c.1 = true /\ allowB f c.2.1 = true /\ flowB c.2.2.1 (fIn f) = true /\ flowB c.2.2.2 (fPrices f) = true
def takeI (out : List (List Int)) (d k : Int) : Int := ((out.drop k.toNat).map fun row => row.getD d.toNat 0).sum
def flowI (f : Fd) (c : Cs) (d m : Int) : Int := m + (c.2.2.1.getD d.toNat 0 + c.1.getD d.toNat 0 * c.2.2.2.getD d.toNat 0 - (fBonds f).getD d.toNat 0)
def folK (f : Fd) (c : Cs) : Nat -> Int -> Int -> List Int
 | 0, _, _ => []
 | k + 1, d, m => (flowI f c d m - takeI c.2.1.2 d 0) :: folK f c k (d + 1) (flowI f c d m - takeI c.2.1.2 d 0)
def folL (f : Fd) (c : Cs) : List Int := folK f c (fIn f).length 0 (fCash f)
def okC (f : Fd) (c : Cs) (out : List Int) (m d : Int) : Prop := goodC f c /\ 0 <= d /\ d <= (fIn f).length /\ out.length <= d /\ -10737418240 * d <= m /\ m <= 1099511627776 + 10737418240 * d
abbrev bRn : SV := .box 1 (.v TR)
abbrev shO : SV := S [(14, .own 0 I)]
abbrev sh14b : SV := S [(1, .v L), (3, .v L), (4, .v L), (5, bF), (7, bRn), (14, .own 2 I), (15, .v I), (16, .v I), (49, .v I), (50, .v I), (76, .v LL), (77, .v I), (78, .v I)]
abbrev sh14x : SV := S [(1, .v L), (3, .v L), (4, .v L), (5, bF), (7, bRn), (14, .own 2 I), (15, .v I), (16, .v I), (49, .v I), (50, .v I)]
def s14b (l i p : List Int) (f : Fd) (r : Rn) (out : List Int) (m d n d' : Int) (rows : List (List Int)) (k' k : Int) (Q : LQ) : Prop :=
 ((goodC f (l, r, i, p) /\ 0 <= d /\ d < (fIn f).length /\ rows = r.2 /\ k' = rows.length /\ 0 <= k /\ k <= rows.length /\ -200000000000 - 1073741824 * k <= m /\ m <= 2000000000000)) /\
 Q (.exit 2) (stS 3 sh14x (l, i, p, f, r, out, m - takeI rows d k, d, n, d', ()))
abbrev lc14b : LC2 := ⟨0, sh14b, 3, fun (l, i, p, f, r, out, m, d, n, d', rows, k', k, _) Q => s14b l i p f r out m d n d' rows k' k Q⟩
theorem v14b (l i p : List Int) (f : Fd) (r : Rn) (out : List Int) (m d n d' : Int) (rows : List (List Int)) (k' k : Int) (Q : AX -> St -> Prop) : (xloop2 Tryz.prog {} 5 8 1 lc14b (fun _ => some (sh14x, 3)) (fun (_, _, _, _, _, _, _, _, _, _, rows, _, k, _) => mL rows k) (l, i, p, f, r, out, m, d, n, d', rows, k', k, ()) Q) =
 (fork (decide (k < k')) (req (decide ((0 : Int) <= k /\ k < (↑(rows.length) : Int))) (req (decide ((0 : Int) <= d /\ d < (↑(List.length (List.getD rows (Int.toNat k) [])) : Int))) (req (inR IntKind.i64 (m - List.getD
 (List.getD rows (Int.toNat k) []) (Int.toNat d) (0 : Int))) (req (inR IntKind.i64 (k + 1)) (req (decide (0 + out.length <= out.length)) (mL rows (k + 1) < mL rows k /\ LC2.spec lc14b (l, i, p, f, r, seg 0 (out.length) out,
 m - List.getD (List.getD rows (Int.toNat k) []) (Int.toNat d) (0 : Int), d, n, d', rows, k', k + 1, ()) Q)))))) (req (decide (0 + out.length <= out.length)) (Q (AX.exit 2) (stS 3 sh14x (l, i, p, f, r, seg 0 (out.length)
 out, m, d, n, d', ()))))) := by kernel_rfl
abbrev sh14 : SV := S [(1, .v L), (3, .v L), (4, .v L), (5, bF), (7, bRn), (14, .own 2 I), (15, .v I), (49, .v I), (50, .v I)]
def s14a (l i p : List Int) (f : Fd) (r : Rn) (out : List Int) (m n d : Int) (Q : LQ) : Prop := (okC f (l, r, i, p) out m d /\ n = (fIn f).length) /\
 Q (.exit 0) (stS 1 shO (out ++ folK f (l, r, i, p) ((fIn f).length - d.toNat) d m, ()))
abbrev lc14a : LC2 := ⟨0, sh14, 3, fun (l, i, p, f, r, out, m, n, d, _) Q => s14a l i p f r out m n d Q⟩
theorem v14a (l i p : List Int) (f : Fd) (r : Rn) (out : List Int) (m n d : Int) (Q : AX -> St -> Prop) : (xloop2 Tryz.prog { l2 := [(8, 1, lc14b)] } 5 8 0 lc14a (fun _ => some (shO, 1)) (fun (_, _, _, f, _, _, _, _, d, _) => mL (fIn f) d) (l, i, p, f, r, out, m, n, d, ()) Q) =
 (fork (decide (d < n)) (req (decide ((0 : Int) <= d /\ d < (↑(i.length) : Int))) (req (decide ((0 : Int) <= d /\ d < (↑(l.length) : Int))) (req (decide ((0 : Int) <= d /\ d < (↑(p.length) : Int))) (req (inR IntKind.i64
 (List.getD l (Int.toNat d) (0 : Int) * List.getD p (Int.toNat d) (0 : Int))) (req (inR IntKind.i64 (List.getD i (Int.toNat d) (0 : Int) + List.getD l (Int.toNat d) (0 : Int) * List.getD p (Int.toNat d) (0 : Int))) (req
 (decide ((0 : Int) <= d /\ d < (↑(List.length (f.2.2.1)) : Int))) (req (inR IntKind.i64 (List.getD i (Int.toNat d) (0 : Int) + List.getD l (Int.toNat d) (0 : Int) * List.getD p (Int.toNat d) (0 : Int) - List.getD (f.2.2.1)
 (Int.toNat d) (0 : Int))) (req (inR IntKind.i64 (m + (List.getD i (Int.toNat d) (0 : Int) + List.getD l (Int.toNat d) (0 : Int) * List.getD p (Int.toNat d) (0 : Int) - List.getD (f.2.2.1) (Int.toNat d) (0 : Int)))) (req
 (decide (0 + out.length <= out.length)) ((goodC f (l, r, i, p) /\ (0 : Int) <= d /\ d < (↑(List.length (fIn f)) : Int) /\ r.2 = r.2 /\ (↑(List.length (r.2)) : Int) = (↑(List.length (r.2)) : Int) /\ (0 : Int) <= (0 : Int) /\ (0 :
 Int) <= (↑(List.length (r.2)) : Int) /\ (-200000000000 : Int) <= m + (List.getD i (Int.toNat d) (0 : Int) + List.getD l (Int.toNat d) (0 : Int) * List.getD p (Int.toNat d) (0 : Int) - List.getD (f.2.2.1) (Int.toNat d) (0 :
 Int)) /\ m + (List.getD i (Int.toNat d) (0 : Int) + List.getD l (Int.toNat d) (0 : Int) * List.getD p (Int.toNat d) (0 : Int) - List.getD (f.2.2.1) (Int.toNat d) (0 : Int)) <= (2000000000000 : Int)) /\ req (decide (0 +
 List.length (seg 0 (out.length) out) <= List.length (seg 0 (out.length) out))) (req (fitsN (List.length (seg 0 (out.length) out) + List.length (seg 0 1 [m + (List.getD i (Int.toNat d) (0 : Int) + List.getD l (Int.toNat d)
 (0 : Int) * List.getD p (Int.toNat d) (0 : Int) - List.getD (f.2.2.1) (Int.toNat d) (0 : Int)) - takeI (r.2) d (0 : Int)])) 8) (req (inR IntKind.i64 (d + 1)) (req (decide (0 + (List.length (seg 0 (out.length) out) +
 List.length (seg 0 1 [m + (List.getD i (Int.toNat d) (0 : Int) + List.getD l (Int.toNat d) (0 : Int) * List.getD p (Int.toNat d) (0 : Int) - List.getD (f.2.2.1) (Int.toNat d) (0 : Int)) - takeI (r.2) d (0 : Int)])) <=
 List.length (seg 0 (List.length (seg 0 (out.length) out)) (seg 0 (out.length) out) ++ seg 0 1 [m + (List.getD i (Int.toNat d) (0 : Int) + List.getD l (Int.toNat d) (0 : Int) * List.getD p (Int.toNat d) (0 : Int) -
 List.getD (f.2.2.1) (Int.toNat d) (0 : Int)) - takeI (r.2) d (0 : Int)]))) (mL (fIn f) (d + 1) < mL (fIn f) d /\ LC2.spec lc14a (l, i, p, f, r, seg 0 (List.length (seg 0 (out.length) out) + List.length (seg 0 1 [m +
 (List.getD i (Int.toNat d) (0 : Int) + List.getD l (Int.toNat d) (0 : Int) * List.getD p (Int.toNat d) (0 : Int) - List.getD (f.2.2.1) (Int.toNat d) (0 : Int)) - takeI (r.2) d (0 : Int)])) (seg 0 (List.length (seg 0
 (out.length) out)) (seg 0 (out.length) out) ++ seg 0 1 [m + (List.getD i (Int.toNat d) (0 : Int) + List.getD l (Int.toNat d) (0 : Int) * List.getD p (Int.toNat d) (0 : Int) - List.getD (f.2.2.1) (Int.toNat d) (0 : Int)) -
 takeI (r.2) d (0 : Int)]), m + (List.getD i (Int.toNat d) (0 : Int) + List.getD l (Int.toNat d) (0 : Int) * List.getD p (Int.toNat d) (0 : Int) - List.getD (f.2.2.1) (Int.toNat d) (0 : Int)) - takeI (r.2) d (0 : Int), n,
 d + 1, ()) Q)))))))))))))) (req (decide (0 + out.length <= out.length)) (Q (AX.exit 0) (stS 1 shO (seg 0 (out.length) out, ()))))) := by kernel_rfl
def folE (f : Fd) (c : Cs) : Int := if okF f = true then (if planB f c.1 = true then (if allowB f c.2.1 = true then (if flowB c.2.2.1 (fIn f) = true /\ flowB c.2.2.2 (fPrices f) = true then 0 else 94) else 92) else 93) else 90
def folR (f : Fd) (c : Cs) : List Int := if folE f c = 0 then folL f c else []
def bigC (c : Cs) : Prop := c.1.length <= 9223372036854775807 /\ bigR c.2.1 /\ c.2.2.1.length <= 9223372036854775807 /\ c.2.2.2.length <= 9223372036854775807
abbrev fcFollow : FC := ⟨[.v TF, .v L, .v TR, .v L, .v L], [L, E], fun (f, l, r, i, p, _) K => (bigF f /\ bigC (l, r, i, p)) /\ K (folR f (l, r, i, p), folE f (l, r, i, p), ())⟩
theorem v14F (f : Fd) (l : List Int) (r : Rn) (i p : List Int) (K : dens [L, E] -> Prop) : (xfn1 Tryz.prog { f := [(10, fcCheck), (17, fcPlan), (18, fc48), (19, fcFlow)], l2 := [(8, 0, lc14a)] } 5 8 fcFollow (f, l, r, i, p, ()) K) =
 (bigF f /\ fork (chkE f != (0 : Int)) (K ([], chkE f, ())) ((okF f = true /\ l.length <= 9223372036854775807) /\ fork (!planB f l) (K ([], (93 : Int), ())) ((okF f = true /\ bigR r) /\ fork (!allowB f r) (K ([], (92 : Int),
 ())) ((i.length <= 9223372036854775807 /\ List.length (f.2.1) <= 9223372036854775807) /\ fork (!flowB i (f.2.1)) (K ([], (94 : Int), ())) ((p.length <= 9223372036854775807 /\ List.length (f.2.2.2.2.1) <= 9223372036854775807) /\
 fork (!flowB p (f.2.2.2.2.1)) (K ([], (94 : Int), ())) ((okC f (l, r, i, p) [] (f.1) (0 : Int) /\ (↑(List.length (f.2.1)) : Int) = (↑(List.length (fIn f)) : Int)) /\ req (decide (0 + List.length ([] ++ folK f (l, r, i, p)
 (List.length (fIn f) - 0) (0 : Int) (f.1)) <= List.length ([] ++ folK f (l, r, i, p) (List.length (fIn f) - 0) (0 : Int) (f.1)))) (K (seg 0 (List.length ([] ++ folK f (l, r, i, p) (List.length (fIn f) - 0) (0 : Int)
 (f.1))) ([] ++ folK f (l, r, i, p) (List.length (fIn f) - 0) (0 : Int) (f.1)), (0 : Int), ())))))))) := by kernel_rfl
abbrev fc3 : FC := ⟨[.v TF, .v TC], [.b], fun x K => (bigF x.1 /\ bigC x.2.1) /\ K (true, ())⟩
end Go.P9
