/- Funds: when groups begin to run: states and what is to be shown, reduced. No conditions. -/
import Derived.Test.YtfbpaonmegmcgaaGreatTaCheckS
set_option linter.all false
set_option maxRecDepth 100000
set_option maxHeartbeats 2000000
namespace Go.P9
open Go.Lom Go.Proofs Go
def ltB (n : Nat) (l : List Int) (k : Nat) : Bool := decide (0 <= l.getD k 0 /\ l.getD k 0 <= (n : Int) - 1) && !(decide (0 < k) && decide (l.getD k 0 <= l.getD (k - 1) 0))
def listsB (n : Nat) (l : List Int) (i : Int) : Bool := ((List.range l.length).drop i.toNat).all (ltB n l)
abbrev shR4 : SV := S [(4, .v .b)]
abbrev sh65 : SV := S [(1, .v L), (2, bF), (7, .v L), (8, .v I), (9, .v I)]
def ex65 : Ex2
 | .ret => some (shR4, 0)
 | _ => some (.nil, 0)
def s65 (l : List Int) (f : Fd) (l' : List Int) (m i : Int) (Q : LQ) : Prop := (0 <= i /\ l' = l /\ i <= l.length /\ m = l.length /\ l.length <= 9223372036854775807 /\ bigF f) /\ (listsB (fGroups f).length l i = true -> Q (.exit 0) (stS 0 .nil ())) /\ (listsB (fGroups f).length l i = false -> Q .ret (stS 0 shR4 (false, ())))
abbrev lc65 : LC2 := ⟨0, sh65, 1, fun x Q => s65 x.1 x.2.1 x.2.2.1 x.2.2.2.1 x.2.2.2.2.1 Q⟩
theorem v65L (l : List Int) (f : Fd) (l' : List Int) (m i : Int) (Q : AX -> St -> Prop) : (xloop2 Tryz.prog { f := [(31, fcWith)] } 5 33 0 lc65 ex65 (fun x => mL x.1 x.2.2.2.2.1) (l, f, l', m, i, ()) Q) =
 (fork (decide (i < m)) (req (decide ((0 : Int) <= i /\ i < (↑(l'.length) : Int))) (req (inR IntKind.i64 ((↑(List.length (f.2.2.2.2.2.1)) : Int) - 1)) (fork (!decide ((0 : Int) <= List.getD l' (Int.toNat i) (0 : Int) /\
 List.getD l' (Int.toNat i) (0 : Int) <= (↑(List.length (f.2.2.2.2.2.1)) : Int) - 1)) (Q AX.ret (stS 0 shR4 (false, ()))) (fork (decide (i > (0 : Int))) (req (inR IntKind.i64 (i - 1)) (req (decide ((0 : Int) <= i - 1 /\ i - 1
 < (↑(l.length) : Int))) (fork (decide (List.getD l (Int.toNat (i - 1)) (0 : Int) >= List.getD l' (Int.toNat i) (0 : Int))) (Q AX.ret (stS 0 shR4 (false, ()))) (req (inR IntKind.i64 (i + 1)) (mL l (i + 1) < mL l i /\
 LC2.spec lc65 (l, f, l', m, i + 1, ()) Q))))) (req (inR IntKind.i64 (i + 1)) (mL l (i + 1) < mL l i /\ LC2.spec lc65 (l, f, l', m, i + 1, ()) Q)))))) (Q (AX.exit 0) (stS 0 SV.nil ()))) := by kernel_rfl
abbrev fcLists : FC := ⟨[.v TF, .v L], [.b], fun x K => (x.2.1.length <= 9223372036854775807 /\ bigF x.1) /\ K (listsB (fGroups x.1).length x.2.1 0, ())⟩
theorem v65F (f : Fd) (l : List Int) (K : dens [.b] -> Prop) : (xfn1 Tryz.prog { l2 := [(33, 0, lc65)] } 5 33 fcLists (f, l, ()) K) =
 (((0 : Int) <= (0 : Int) /\ l = l /\ (0 : Int) <= (↑(l.length) : Int) /\ (↑(l.length) : Int) = (↑(l.length) : Int) /\ l.length <= 9223372036854775807 /\ bigF f) /\ (listsB (List.length (fGroups f)) l (0 : Int) = true -> K (true,
 ())) /\ (listsB (List.length (fGroups f)) l (0 : Int) = false -> K (false, ()))) := by kernel_rfl
def relax (d : List Int) (w : Int × Int × Int) : List Int :=
 if 0 <= d.getD w.1.toNat 0 /\ (d.getD w.2.1.toNat 0 < 0 \/ d.getD w.1.toNat 0 + w.2.2 < d.getD w.2.1.toNat 0) then d.set w.2.1.toNat (d.getD w.1.toNat 0 + w.2.2) else d
def passD (ws : List (Int × Int × Int)) (d : List Int) : List Int := ws.foldl relax d
def passN (ws : List (Int × Int × Int)) : Nat -> List Int -> List Int
 | 0, d => d
 | k + 1, d => passN ws k (passD ws d)
def cntD (d : List Int) : Int := (d.countP (fun x => decide (0 <= x)) : Nat)
def InvD (d : List Int) : Prop := d.length <= 8 /\ ∀ x ∈ d, -1 <= x /\ x <= 12 * cntD d
def wOk (n : Nat) (w : Int × Int × Int) : Prop := 0 <= w.1 /\ w.1 < n /\ 0 <= w.2.1 /\ w.2.1 < n /\ w.1 ≠ w.2.1 /\ 0 <= w.2.2 /\ w.2.2 <= 12
def wsOk (n : Nat) (ws : List (Int × Int × Int)) : Prop := ∀ w ∈ ws, wOk n w
def keyD (x : Int) : Int := if x < 0 then 1000 else x
def muD (d : List Int) : Nat := (d.map keyD).sum.toNat
def initD (n : Nat) (l : List Int) : List Int := (List.range n).map fun i : Nat => if (i : Int) ∈ l then 0 else -1
def startsL (f : Fd) (l : List Int) : List Int := passN (fWays f) (fGroups f).length (initD (fGroups f).length l)
def inGrp (f : Fd) (l : List Int) : Prop := ∀ x ∈ l, 0 <= x /\ x < (fGroups f).length
abbrev AR : Ty := .ar 8 I
abbrev sh66 : SV := S [(2, bF), (4, .arr 1 I), (5, .arr 2 I)]
abbrev sh66e : SV := S [(1, .v L), (2, bF), (4, .arr 1 I), (5, .arr 2 I)]
abbrev sh66a : SV := S [(1, .v L), (2, bF), (4, .arr 1 I), (5, .arr 2 I), (13, .v I)]
def s66a (l : List Int) (f : Fd) (z s : List Int) (i : Int) (Q : LQ) : Prop := (0 <= i /\ i <= 8 /\ s.length = 8) /\ Q (.exit 0) (stS 3 sh66e (l, f, z, s.take i.toNat ++ List.replicate (8 - i.toNat) (-1), ()))
abbrev lc66a : LC2 := ⟨0, sh66a, 3, fun x Q => s66a x.1 x.2.1 x.2.2.1 x.2.2.2.1 x.2.2.2.2.1 Q⟩
theorem v66a (l : List Int) (f : Fd) (z s : List Int) (i : Int) (Q : AX -> St -> Prop) : (xloop2 Tryz.prog {} 5 34 0 lc66a (fun _ => some (sh66e, 3)) (fun x => (8 - x.2.2.2.2.1).toNat) (l, f, z, s, i, ()) Q) =
 (fork (decide (i < (8 : Int))) (req (decide ((0 : Int) <= i /\ i < (8 : Int))) (req (decide (0 + Int.toNat i < s.length)) (req (inR IntKind.i64 (i + 1)) (Int.toNat ((8 : SV.den (SV.slot 13 (SV.v I))) - (i + 1)) < Int.toNat
 ((8 : SV.den (SV.slot 13 (SV.v I))) - i) /\ LC2.spec lc66a (l, f, z, List.set s (0 + Int.toNat i) (-1 : Int), i + 1, ()) Q)))) (Q (AX.exit 0) (stS 3 sh66e (l, f, z, s, ())))) := by kernel_rfl
abbrev sh66b : SV := S [(2, bF), (4, .arr 1 I), (5, .arr 2 I), (19, .v L), (20, .v I), (21, .v I)]
def zeroD (s : List Int) (l : List Int) : List Int := l.foldl (fun s x => s.set x.toNat 0) s
def s66b (f : Fd) (z s l : List Int) (m i : Int) (Q : LQ) : Prop := (0 <= i /\ i <= l.length /\ m = l.length /\ l.length <= 9223372036854775807 /\ s.length = 8 /\ ∀ x ∈ l, 0 <= x /\ x < 8) /\ Q (.exit 2) (stS 3 sh66 (f, z, zeroD s (l.drop i.toNat), ()))
abbrev lc66b : LC2 := ⟨0, sh66b, 3, fun x Q => s66b x.1 x.2.1 x.2.2.1 x.2.2.2.1 x.2.2.2.2.1 x.2.2.2.2.2.1 Q⟩
theorem v66b (f : Fd) (z s l : List Int) (m i : Int) (Q : AX -> St -> Prop) : (xloop2 Tryz.prog {} 5 34 1 lc66b (fun _ => some (sh66, 3)) (fun x => mL x.2.2.2.1 x.2.2.2.2.2.1) (f, z, s, l, m, i, ()) Q) =
 (fork (decide (i < m)) (req (decide ((0 : Int) <= i /\ i < (↑(l.length) : Int))) (req (decide ((0 : Int) <= List.getD l (Int.toNat i) (0 : Int) /\ List.getD l (Int.toNat i) (0 : Int) < (8 : Int))) (req (decide (0 + Int.toNat
 (List.getD l (Int.toNat i) (0 : Int)) < s.length)) (req (inR IntKind.i64 (i + 1)) (mL l (i + 1) < mL l i /\ LC2.spec lc66b (f, z, List.set s (0 + Int.toNat (List.getD l (Int.toNat i) (0 : Int))) (0 : Int), l, m, i + 1, ())
 Q))))) (Q (AX.exit 2) (stS 3 sh66 (f, z, s, ())))) := by kernel_rfl
abbrev sh66d : SV := S [(2, bF), (4, .arr 1 I), (5, .arr 2 I), (9, .arr 3 I), (31, .v LG), (32, .v I), (33, .v I)]
abbrev sh66x : SV := S [(2, bF), (4, .arr 1 I), (5, .arr 2 I), (9, .arr 3 I)]
def s66d (f : Fd) (z s d : List Int) (ws : List (Int × Int × Int)) (m i : Int) (Q : LQ) : Prop := (0 <= i /\ i <= ws.length /\ m = ws.length /\ ws.length <= 9223372036854775807 /\ d.length = 8 /\ InvD d /\ wsOk 8 ws) /\ Q (.exit 6) (stS 4 sh66x (f, z, s, passD (ws.drop i.toNat) d, ()))
abbrev lc66d : LC2 := ⟨0, sh66d, 4, fun x Q => s66d x.1 x.2.1 x.2.2.1 x.2.2.2.1 x.2.2.2.2.1 x.2.2.2.2.2.1 x.2.2.2.2.2.2.1 Q⟩
theorem v66d (f : Fd) (z s d : List Int) (ws : List (Int × Int × Int)) (m i : Int) (Q : AX -> St -> Prop) : (xloop2 Tryz.prog {} 5 34 3 lc66d (fun _ => some (sh66x, 4)) (fun x => mL x.2.2.2.2.1 x.2.2.2.2.2.2.1) (f, z, s, d, ws, m, i, ()) Q) =
 (fork (decide (i < m)) (req (decide ((0 : Int) <= i /\ i < (↑(ws.length) : Int))) (req (decide ((0 : Int) <= (List.getD ws (Int.toNat i) ((0 : Int), (0 : Int), (0 : Int))).1 /\ (List.getD ws (Int.toNat i) ((0 : Int), (0 :
 Int), (0 : Int))).1 < (8 : Int))) (req (decide (0 + Int.toNat ((List.getD ws (Int.toNat i) ((0 : Int), (0 : Int), (0 : Int))).1) < d.length)) (fork (decide (List.getD d (0 + Int.toNat ((List.getD ws (Int.toNat i) ((0 :
 Int), (0 : Int), (0 : Int))).1)) (0 : Int) >= (0 : Int))) (req (decide ((0 : Int) <= (List.getD ws (Int.toNat i) ((0 : Int), (0 : Int), (0 : Int))).2.1 /\ (List.getD ws (Int.toNat i) ((0 : Int), (0 : Int), (0 : Int))).2.1 <
 (8 : Int))) (req (decide (0 + Int.toNat ((List.getD ws (Int.toNat i) ((0 : Int), (0 : Int), (0 : Int))).2.1) < d.length)) (fork (decide (List.getD d (0 + Int.toNat ((List.getD ws (Int.toNat i) ((0 : Int), (0 : Int), (0 :
 Int))).2.1)) (0 : Int) < (0 : Int))) (req (inR IntKind.i64 (List.getD d (0 + Int.toNat ((List.getD ws (Int.toNat i) ((0 : Int), (0 : Int), (0 : Int))).1)) (0 : Int) + (List.getD ws (Int.toNat i) ((0 : Int), (0 : Int), (0
 : Int))).2.2)) (req (decide ((0 : Int) <= (List.getD ws (Int.toNat i) ((0 : Int), (0 : Int), (0 : Int))).2.1 /\ (List.getD ws (Int.toNat i) ((0 : Int), (0 : Int), (0 : Int))).2.1 < (8 : Int))) (req (decide (0 + Int.toNat
 ((List.getD ws (Int.toNat i) ((0 : Int), (0 : Int), (0 : Int))).2.1) < d.length)) (req (inR IntKind.i64 (i + 1)) (mL ws (i + 1) < mL ws i /\ LC2.spec lc66d (f, z, s, List.set d (0 + Int.toNat ((List.getD ws (Int.toNat i)
 ((0 : Int), (0 : Int), (0 : Int))).2.1)) (List.getD d (0 + Int.toNat ((List.getD ws (Int.toNat i) ((0 : Int), (0 : Int), (0 : Int))).1)) (0 : Int) + (List.getD ws (Int.toNat i) ((0 : Int), (0 : Int), (0 : Int))).2.2), ws,
 m, i + 1, ()) Q))))) (req (inR IntKind.i64 (List.getD d (0 + Int.toNat ((List.getD ws (Int.toNat i) ((0 : Int), (0 : Int), (0 : Int))).1)) (0 : Int) + (List.getD ws (Int.toNat i) ((0 : Int), (0 : Int), (0 : Int))).2.2))
 (req (decide ((0 : Int) <= (List.getD ws (Int.toNat i) ((0 : Int), (0 : Int), (0 : Int))).2.1 /\ (List.getD ws (Int.toNat i) ((0 : Int), (0 : Int), (0 : Int))).2.1 < (8 : Int))) (req (decide (0 + Int.toNat ((List.getD ws
 (Int.toNat i) ((0 : Int), (0 : Int), (0 : Int))).2.1) < d.length)) (fork (decide (List.getD d (0 + Int.toNat ((List.getD ws (Int.toNat i) ((0 : Int), (0 : Int), (0 : Int))).1)) (0 : Int) + (List.getD ws (Int.toNat i) ((0
 : Int), (0 : Int), (0 : Int))).2.2 < List.getD d (0 + Int.toNat ((List.getD ws (Int.toNat i) ((0 : Int), (0 : Int), (0 : Int))).2.1)) (0 : Int))) (req (inR IntKind.i64 (List.getD d (0 + Int.toNat ((List.getD ws (Int.toNat
 i) ((0 : Int), (0 : Int), (0 : Int))).1)) (0 : Int) + (List.getD ws (Int.toNat i) ((0 : Int), (0 : Int), (0 : Int))).2.2)) (req (decide ((0 : Int) <= (List.getD ws (Int.toNat i) ((0 : Int), (0 : Int), (0 : Int))).2.1 /\
 (List.getD ws (Int.toNat i) ((0 : Int), (0 : Int), (0 : Int))).2.1 < (8 : Int))) (req (decide (0 + Int.toNat ((List.getD ws (Int.toNat i) ((0 : Int), (0 : Int), (0 : Int))).2.1) < d.length)) (req (inR IntKind.i64 (i + 1))
 (mL ws (i + 1) < mL ws i /\ LC2.spec lc66d (f, z, s, List.set d (0 + Int.toNat ((List.getD ws (Int.toNat i) ((0 : Int), (0 : Int), (0 : Int))).2.1)) (List.getD d (0 + Int.toNat ((List.getD ws (Int.toNat i) ((0 : Int), (0 :
 Int), (0 : Int))).1)) (0 : Int) + (List.getD ws (Int.toNat i) ((0 : Int), (0 : Int), (0 : Int))).2.2), ws, m, i + 1, ()) Q))))) (req (inR IntKind.i64 (i + 1)) (mL ws (i + 1) < mL ws i /\ LC2.spec lc66d (f, z, s, d, ws, m,
 i + 1, ()) Q))))))))) (req (inR IntKind.i64 (i + 1)) (mL ws (i + 1) < mL ws i /\ LC2.spec lc66d (f, z, s, d, ws, m, i + 1, ()) Q)))))) (Q (AX.exit 6) (stS 4 sh66x (f, z, s, d, ())))) := by kernel_rfl
def s66c (f : Fd) (z s : List Int) (Q : LQ) : Prop := (wsOk 8 (fWays f) /\ bigF f /\ s.length = 8 /\ InvD s) /\ ∀ r k, r = passN (fWays f) k s -> passD (fWays f) r = r -> Q (.exit 4) (stS 3 sh66 (f, z, r, ()))
abbrev lc66c : LC2 := ⟨0, sh66, 3, fun x Q => s66c x.1 x.2.1 x.2.2.1 Q⟩
theorem v66c (f : Fd) (z s : List Int) (Q : AX -> St -> Prop) : (xloop2 Tryz.prog { l2 := [(34, 3, lc66d)] } 5 34 2 lc66c (fun _ => some (sh66, 3)) (fun x => muD x.2.2.1) (f, z, s, ()) Q) =
 (req (decide (s.length = 8)) (req (decide (s.length = 8)) (req (decide (s.length = 8)) (((0 : Int) <= (0 : Int) /\ (0 : Int) <= (↑(List.length (f.2.2.2.2.2.2.1)) : Int) /\ (↑(List.length (f.2.2.2.2.2.2.1)) : Int) =
 (↑(List.length (f.2.2.2.2.2.2.1)) : Int) /\ List.length (f.2.2.2.2.2.2.1) <= 9223372036854775807 /\ s.length = 8 /\ InvD s /\ wsOk 8 (f.2.2.2.2.2.2.1)) /\ req (decide (List.length (passD (List.drop 0 (f.2.2.2.2.2.2.1)) s) = 8))
 (req (decide (s.length = 8)) (req (decide (List.length (passD (List.drop 0 (f.2.2.2.2.2.2.1)) s) = 8)) (req (decide (s.length = 8)) (fork (decide (passD (List.drop 0 (f.2.2.2.2.2.2.1)) s = s)) (Q (AX.exit 4) (stS 3 sh66
 (f, z, s, ()))) (req (decide (List.length (passD (List.drop 0 (f.2.2.2.2.2.2.1)) s) = 8)) (req (decide (List.length (passD (List.drop 0 (f.2.2.2.2.2.2.1)) s) = 8)) (req (decide (List.length (passD (List.drop 0
 (f.2.2.2.2.2.2.1)) s) = s.length)) (muD (passD (List.drop 0 (f.2.2.2.2.2.2.1)) s) < muD s /\ LC2.spec lc66c (f, z, passD (List.drop 0 (f.2.2.2.2.2.2.1)) s, ()) Q)))))))))))) := by kernel_rfl
abbrev fc66 : FC := ⟨[.v TF, .v L], [AR], fun x K => (okF x.1 = true /\ x.2.1.length <= 9223372036854775807 /\ inGrp x.1 x.2.1) /\ ∀ r : List Int, r.length = 8 -> r.take (fGroups x.1).length = startsL x.1 x.2.1 -> K (r, ())⟩
theorem v66F (f : Fd) (l : List Int) (K : dens [AR] -> Prop) : (xfn1 Tryz.prog { l2 := [(34, 0, lc66a), (34, 1, lc66b), (34, 2, lc66c)] } 5 34 fc66 (f, l, ()) K) =
 (((0 : Int) <= (0 : Int) /\ (0 : Int) <= (8 : Int) /\ 8 = 8) /\ ((0 : Int) <= (0 : Int) /\ (0 : Int) <= (↑(l.length) : Int) /\ (↑(l.length) : Int) = (↑(l.length) : Int) /\ l.length <= 9223372036854775807 /\ 8 = 8 /\ ∀ (x : Int), x ∈ l
 -> (0 : Int) <= x /\ x < (8 : Int)) /\ (wsOk 8 (fWays f) /\ bigF f /\ List.length (zeroD (List.take 0 [(0 : Int), (0 : Int), (0 : Int), (0 : Int), (0 : Int), (0 : Int), (0 : Int), (0 : Int)] ++ List.replicate 8 (-1 : Int))
 (List.drop 0 l)) = 8 /\ InvD (zeroD (List.take 0 [(0 : Int), (0 : Int), (0 : Int), (0 : Int), (0 : Int), (0 : Int), (0 : Int), (0 : Int)] ++ List.replicate 8 (-1 : Int)) (List.drop 0 l))) /\ ∀ (r : List Int) (k : Nat), r =
 passN (fWays f) k (zeroD (List.take 0 [(0 : Int), (0 : Int), (0 : Int), (0 : Int), (0 : Int), (0 : Int), (0 : Int), (0 : Int)] ++ List.replicate 8 (-1 : Int)) (List.drop 0 l)) -> passD (fWays f) r = r -> req (decide
 (r.length = 8)) (req (decide (r.length = 8)) (req (decide (r.length = 8)) (req (decide (r.length = 8)) (req (decide (r.length = 8)) (K (r, ()))))))) := by kernel_rfl
end Go.P9
