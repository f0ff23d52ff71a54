/- Funds: runs that are allowed, the law of runs: states and what is to be shown, reduced. No conditions. -/
import Derived.Test.YtfbpaonmegmcgaaGreatTaStartsS
set_option linter.all false
set_option maxRecDepth 100000
set_option maxHeartbeats 2000000
namespace Go.P9
open Go.Lom Go.Proofs Go
abbrev LL : Ty := .sl L
abbrev Grp := Int × Int × Int
def mayI (g : Grp) (st d : Int) : Int := if st < 0 \/ d < st + g.2.2 then 0 else g.2.1
def cellOk (g : Grp) (st d n : Int) : Bool := decide (0 <= n /\ n <= mayI g st d)
def cellsOk (g : Grp) (st : Int) (row : List Int) (j : Int) : Bool := ((List.range row.length).drop j.toNat).all fun k => cellOk g st k (row.getD k 0)
def rowOk (f : Fd) (s : List Int) (i : Nat) (row : List Int) : Bool :=
 decide (row.length = (fIn f).length) && (cellsOk ((fGroups f).getD i (0, 0, 0)) (s.getD i 0) row 0 && decide (row.sum <= ((fGroups f).getD i (0, 0, 0)).1))
def rowsOk (f : Fd) (s : List Int) (out : List (List Int)) (i : Int) : Bool := ((List.range out.length).drop i.toNat).all fun k => rowOk f s k (out.getD k [])
def allowB (f : Fd) (r : Rn) : Bool :=
 listsB (fGroups f).length r.1 0 && (decide ((r.1.length : Int) <= fBegin f) && (decide (r.2.length = (fGroups f).length) && rowsOk f (startsL f r.1) r.2 0))
def bigR (r : Rn) : Prop := r.1.length <= 9223372036854775807 /\ r.2.length <= 9223372036854775807
def sOk (s : List Int) (i : Int) : Prop := -1 <= s.getD i.toNat 0 /\ s.getD i.toNat 0 <= 96
abbrev sh48 : SV := S [(2, bF), (5, .arr 1 I), (40, .v LL), (41, .v I), (42, .v I)]
abbrev sh48x : SV := S [(2, bF), (5, .arr 1 I), (6, .v I), (7, .v L), (8, .box 2 (.v G3)), (40, .v LL), (41, .v I), (42, .v I)]
abbrev sh48b : SV := S [(2, bF), (5, .arr 1 I), (6, .v I), (7, .v L), (8, .box 2 (.v G3)), (40, .v LL), (41, .v I), (42, .v I), (58, .v L), (59, .v I), (60, .v I)]
def ex48b : Ex2
 | .ret => some (shR4, 0)
 | _ => some (sh48x, 3)
def s48b (f : Fd) (s : List Int) (i : Int) (row0 : List Int) (g : Grp) (out : List (List Int)) (m k : Int) (row : List Int) (n j : Int) (Q : LQ) : Prop :=
 (0 <= j /\ j <= row.length /\ n = row.length /\ row.length <= 12 /\ s.length = 8 /\ 0 <= i /\ i < 8 /\ sOk s i /\ grpOk g = true) /\
 (cellsOk g (s.getD i.toNat 0) row j = true -> Q (.exit 2) (stS 3 sh48x (f, s, i, row0, g, out, m, k, ()))) /\ (cellsOk g (s.getD i.toNat 0) row j = false -> Q .ret (stS 0 shR4 (false, ())))
abbrev lc48b : LC2 := ⟨0, sh48b, 3, fun (f, s, i, row0, g, out, m, k, row, n, j, _) Q => s48b f s i row0 g out m k row n j Q⟩
theorem v48b (f : Fd) (s : List Int) (i : Int) (row0 : List Int) (g : Grp) (out : List (List Int)) (m k : Int) (row : List Int) (n j : Int) (Q : AX -> St -> Prop) : (xloop2 Tryz.prog { f := [(31, fcWith)] } 5 18 1 lc48b ex48b (fun (_, _, _, _, _, _, _, _, row, _, j, _) => mL row j) (f, s, i, row0, g, out, m, k, row, n, j, ()) Q) =
 (fork (decide (j < n)) (req (decide ((0 : Int) <= j /\ j < (↑(row.length) : Int))) (fork (!decide ((0 : Int) <= List.getD row (Int.toNat j) (0 : Int) /\ List.getD row (Int.toNat j) (0 : Int) <= g.2.1)) (Q AX.ret (stS 0 shR4
 (false, ()))) (fork (decide (List.getD row (Int.toNat j) (0 : Int) > (0 : Int))) (req (decide ((0 : Int) <= i /\ i < (8 : Int))) (req (decide (0 + Int.toNat i < s.length)) (fork (decide (List.getD s (0 + Int.toNat i) (0 :
 Int) < (0 : Int))) (Q AX.ret (stS 0 shR4 (false, ()))) (req (decide ((0 : Int) <= i /\ i < (8 : Int))) (req (decide (0 + Int.toNat i < s.length)) (req (inR IntKind.i64 (List.getD s (0 + Int.toNat i) (0 : Int) + g.2.2))
 (fork (decide (j < List.getD s (0 + Int.toNat i) (0 : Int) + g.2.2)) (Q AX.ret (stS 0 shR4 (false, ()))) (req (inR IntKind.i64 (j + 1)) (mL row (j + 1) < mL row j /\ LC2.spec lc48b (f, s, i, row0, g, out, m, k, row, n, j +
 1, ()) Q))))))))) (req (inR IntKind.i64 (j + 1)) (mL row (j + 1) < mL row j /\ LC2.spec lc48b (f, s, i, row0, g, out, m, k, row, n, j + 1, ()) Q))))) (Q (AX.exit 2) (stS 3 sh48x (f, s, i, row0, g, out, m, k, ())))) := by kernel_rfl
def ex48 : Ex2
 | .ret => some (shR4, 0)
 | _ => some (.nil, 0)
def s48 (f : Fd) (s : List Int) (out : List (List Int)) (m i : Int) (Q : LQ) : Prop :=
 (okF f = true /\ 0 <= i /\ i <= out.length /\ m = out.length /\ out.length = (fGroups f).length /\ s.length = 8 /\ ∀ k : Int, 0 <= k -> k < out.length -> sOk s k) /\
 (rowsOk f s out i = true -> Q (.exit 0) (stS 0 .nil ())) /\ (rowsOk f s out i = false -> Q .ret (stS 0 shR4 (false, ())))
abbrev lc48 : LC2 := ⟨0, sh48, 2, fun (f, s, out, m, i, _) Q => s48 f s out m i Q⟩
theorem v48a (f : Fd) (s : List Int) (out : List (List Int)) (m i : Int) (Q : AX -> St -> Prop) : (xloop2 Tryz.prog { f := [(31, fcWith), (32, fcSum)], l2 := [(18, 1, lc48b)] } 5 18 0 lc48 ex48 (fun (_, _, out, _, i, _) => mL out i) (f, s, out, m, i, ()) Q) =
 (fork (decide (i < m)) (req (decide ((0 : Int) <= i /\ i < (↑(out.length) : Int))) (fork ((↑(List.length (List.getD out (Int.toNat i) [])) : Int) != (↑(List.length (f.2.1)) : Int)) (Q AX.ret (stS 0 shR4 (false, ()))) (req
 (decide ((0 : Int) <= i /\ i < (↑(List.length (f.2.2.2.2.2.1)) : Int))) (((0 : Int) <= (0 : Int) /\ (0 : Int) <= (↑(List.length (List.getD out (Int.toNat i) [])) : Int) /\ (↑(List.length (List.getD out (Int.toNat i) [])) : Int)
 = (↑(List.length (List.getD out (Int.toNat i) [])) : Int) /\ List.length (List.getD out (Int.toNat i) []) <= 12 /\ s.length = 8 /\ (0 : Int) <= i /\ i < (8 : Int) /\ sOk s i /\ grpOk (List.getD (f.2.2.2.2.2.1) (Int.toNat i) ((0 :
 Int), (0 : Int), (0 : Int))) = true) /\ (cellsOk (List.getD (f.2.2.2.2.2.1) (Int.toNat i) ((0 : Int), (0 : Int), (0 : Int))) (List.getD s (Int.toNat i) (0 : Int)) (List.getD out (Int.toNat i) []) (0 : Int) = true ->
 (List.length (List.getD out (Int.toNat i) []) <= 9223372036854775807 /\ fitS (0 : Int) (List.getD out (Int.toNat i) [])) /\ AV.int IntKind.i64 ((List.getD (f.2.2.2.2.2.1) (Int.toNat i) ((0 : Int), (0 : Int), (0 : Int))).1) =
 AV.int IntKind.i64 ((List.getD (f.2.2.2.2.2.1) (Int.toNat i) ((0 : Int), (0 : Int), (0 : Int))).1) /\ fork (decide (List.sum (List.getD out (Int.toNat i) []) > (List.getD (f.2.2.2.2.2.1) (Int.toNat i) ((0 : Int), (0 :
 Int), (0 : Int))).1)) (Q AX.ret (stS 0 shR4 (false, ()))) (req (inR IntKind.i64 (i + 1)) (mL out (i + 1) < mL out i /\ LC2.spec lc48 (f, s, out, m, i + 1, ()) Q))) /\ (cellsOk (List.getD (f.2.2.2.2.2.1) (Int.toNat i) ((0 :
 Int), (0 : Int), (0 : Int))) (List.getD s (Int.toNat i) (0 : Int)) (List.getD out (Int.toNat i) []) (0 : Int) = false -> Q AX.ret (stS 0 shR4 (false, ()))))))) (Q (AX.exit 0) (stS 0 SV.nil ()))) := by kernel_rfl
abbrev fc48 : FC := ⟨[.v TF, .v TR], [.b], fun x K => (okF x.1 = true /\ bigR x.2.1) /\ K (allowB x.1 x.2.1, ())⟩
theorem v48F (f : Fd) (r : Rn) (K : dens [.b] -> Prop) : (xfn1 Tryz.prog { f := [(33, fcLists), (34, fc66)], l2 := [(18, 0, lc48)] } 5 18 fc48 (f, r, ()) K) =
 ((List.length (r.1) <= 9223372036854775807 /\ bigF f) /\ fork (!listsB (List.length (fGroups f)) (r.1) (0 : Int)) (K (false, ())) (fork (decide ((↑(List.length (r.1)) : Int) > f.2.2.2.2.2.2.2.1)) (K (false, ())) (fork
 ((↑(List.length (r.2)) : Int) != (↑(List.length (f.2.2.2.2.2.1)) : Int)) (K (false, ())) ((okF f = true /\ List.length (r.1) <= 9223372036854775807 /\ inGrp f (r.1)) /\ ∀ (r_1 : List Int), r_1.length = 8 -> List.take
 (List.length (fGroups f)) r_1 = startsL f (r.1) -> req (decide (r_1.length = 8)) (req (decide (r_1.length = 8)) ((okF f = true /\ (0 : Int) <= (0 : Int) /\ (0 : Int) <= (↑(List.length (r.2)) : Int) /\ (↑(List.length (r.2)) :
 Int) = (↑(List.length (r.2)) : Int) /\ List.length (r.2) = List.length (fGroups f) /\ r_1.length = 8 /\ ∀ (k : Int), (0 : Int) <= k -> k < (↑(List.length (r.2)) : Int) -> sOk r_1 k) /\ (rowsOk f r_1 (r.2) (0 : Int) = true -> K
 (true, ())) /\ (rowsOk f r_1 (r.2) (0 : Int) = false -> K (false, ())))))))) := by kernel_rfl
end Go.P9
