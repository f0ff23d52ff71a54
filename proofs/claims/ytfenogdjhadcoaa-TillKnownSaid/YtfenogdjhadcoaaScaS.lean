/- Scales: the fewest weighings: states and what is to be shown, reduced. No conditions. -/
import Derived.Test.YtfenogdjhadcoaaWatS1
set_option linter.all false
set_option maxRecDepth 100000
set_option maxHeartbeats 2000000
namespace Go.P8
open Go.Lom Go.Proofs Go
abbrev TR4 : Ty := arT 3
abbrev LR4 : Ty := .sl TR4
abbrev LL : Ty := .sl L
abbrev R4 : Type := Int × Int × Int × Int
def mulR (r : R4) (s : Int) : R4 := (r.1 * s, r.2.1 * s, r.2.2.1 * s, r.2.2.2 * s)
def addR (r s : R4) : R4 := (r.1 + s.1, r.2.1 + s.2.1, r.2.2.1 + s.2.2.1, r.2.2.2 + s.2.2.2)
def eqR (r s : R4) : Bool := r.1 == s.1 && (r.2.1 == s.2.1 && (r.2.2.1 == s.2.2.1 && r.2.2.2 == s.2.2.2))
def zR : R4 := (0, 0, 0, 0)
def smR (n : Int) (r : R4) : Prop := (-n <= r.1 /\ r.1 <= n) /\ (-n <= r.2.1 /\ r.2.1 <= n) /\ (-n <= r.2.2.1 /\ r.2.2.1 <= n) /\ -n <= r.2.2.2 /\ r.2.2.2 <= n
abbrev fc100 : FC := ⟨[.v TR4, .v I], [TR4], fun x K => (smR 1 x.1 /\ -1 <= x.2.1 /\ x.2.1 <= 1) /\ ∀ r : R4, r = mulR x.1 x.2.1 -> K (r, ())⟩
theorem v100F (a b c d s : Int) (K : dens [TR4] -> Prop) : (xfn1 Try.prog { nm := true, ip := true, un := 6, ul := [0] } 5 100 fc100 ((a, b, c, d), s, ()) K) =
 (req (inR IntKind.i64 (a * s)) (req (inR IntKind.i64 (b * s)) (req (inR IntKind.i64 (c * s)) (req (inR IntKind.i64 (d * s)) (K ((a * s, b * s, c * s, d * s), ())))))) := by kernel_rfl
def hasR (r : R4) : List R4 -> Bool
 | [] => false
 | s :: l => if eqR r s then true else hasR r l
def digR (m : Nat) (x : Nat) : R4 := ((if 0 < m then (x : Int) % 3 - 1 else 0), (if 1 < m then (x : Int) / 3 % 3 - 1 else 0), (if 2 < m then (x : Int) / 9 % 3 - 1 else 0), 0)
def stepS (m : Nat) (out : List R4) (x : Nat) : List R4 := if (!eqR (digR m x) zR) && !hasR (mulR (digR m x) (-1)) out then out ++ [digR m x] else out
def sidesT (m : Nat) : List R4 := (List.range (3 ^ m)).foldl (stepS m) []
abbrev sh113 : SV := S [(0, .lst 0 TR4), (3, .box 1 (.v TR4)), (7, .v I), (8, .v I)]
def ex113 : Ex2
 | .ret => some (S [(0, .lst 0 TR4), (4, .v I)], 1)
 | _ => some (S [(0, .lst 0 TR4)], 1)
abbrev lc113 : LC2 := ⟨1, sh113, 2, fun (l, v, m, i, _) Q => (m = l.length /\ l.length <= 100 /\ 0 <= i /\ i <= l.length) /\ (hasR v (l.drop i.toNat) = false -> Q (.exit 0) (stS 1 (S [(0, .lst 0 TR4)]) (l, ()))) /\ (hasR v (l.drop i.toNat) = true -> ∀ r : Int, 0 <= r -> Q .ret (stS 1 (S [(0, .lst 0 TR4), (4, .v I)]) (l, r, ())))⟩
theorem v113L (l : List R4) (a b c d : Int) (m i : Int) (Q : AX -> St -> Prop) : (xloop2 Try.prog { nm := true } 5 113 0 lc113 ex113 (fun (l, _, _, i, _) => mL l i) (l, (a, b, c, d), m, i, ()) Q) =
 (fork (decide (i < m)) (req (decide ((0 : Int) <= i /\ i < (↑(l.length) : Int))) (req (decide (Int.toNat i < l.length)) (fork (a == (List.getD l (Int.toNat i) ((0 : Int), (0 : Int), (0 : Int), (0 : Int))).1 && (b ==
 (List.getD l (Int.toNat i) ((0 : Int), (0 : Int), (0 : Int), (0 : Int))).2.1 && (c == (List.getD l (Int.toNat i) ((0 : Int), (0 : Int), (0 : Int), (0 : Int))).2.2.1 && (d == (List.getD l (Int.toNat i) ((0 : Int), (0 :
 Int), (0 : Int), (0 : Int))).2.2.2 && true)))) (req (decide (l.length = l.length)) (Q AX.ret (stS 1 (S [(0, SV.lst 0 TR4), (4, SV.v I)]) (l, i, ())))) (req (inR IntKind.i64 (i + 1)) (req (decide (l.length = l.length)) (mL
 l (i + 1) < mL l i /\ LC2.spec lc113 (l, (a, b, c, d), m, i + 1, ()) Q)))))) (req (decide (l.length = l.length)) (Q (AX.exit 0) (stS 1 (S [(0, SV.lst 0 TR4)]) (l, ()))))) := by kernel_rfl
abbrev fc113 : FC2 := ⟨A [.lst 0 TR4, .v TR4], 1, A [.lst 0 TR4, .any, .v I], 1, fun (l, v, _) K => l.length <= 100 /\ ∀ r : Int, (0 <= r ↔ hasR v l = true) -> K (l, (), r, ())⟩
theorem v113F (l : List R4) (a b c d : Int) (K : fc113.post.den -> Prop) : (xfn2 Try.prog { nm := true, l2 := [(113, 0, lc113)] } 5 113 fc113 (l, (a, b, c, d), ()) K) =
 (req (decide (l.length = l.length)) (((↑(l.length) : Int) = (↑(l.length) : SV.den (SV.slot 7 (SV.v I))) /\ l.length <= 100 /\ (0 : SV.den (SV.slot 8 (SV.v I))) <= (0 : Int) /\ (0 : Int) <= (↑(l.length) : SV.den (SV.slot 8 (SV.v
 I)))) /\ (hasR (a, b, c, d) (List.drop 0 l) = false -> req (decide (l.length = l.length)) (K (l, (), (-1 : Int), ()))) /\ (hasR (a, b, c, d) (List.drop 0 l) = true -> ∀ (r : Int), (0 : Int) <= r -> req (decide (l.length =
 l.length)) (K (l, (), r, ()))))) := by kernel_rfl
abbrev fc101 : FC2 := ⟨A [.lst 0 TR4, .v TR4], 1, A [.lst 0 TR4, .any, .v .b], 1, fun (l, v, _) K => l.length <= 100 /\ ∀ b : Bool, b = hasR v l -> K (l, (), b, ())⟩
theorem v101F (l : List R4) (a b c d : Int) (K : fc101.post.den -> Prop) : (xfn2 Try.prog { nm := true, f2 := [(113, fc113)] } 5 101 fc101 (l, (a, b, c, d), ()) K) =
 (req (decide (l.length = l.length)) (l.length <= 100 /\ ∀ (r : Int), ((0 : Int) <= r ↔ hasR (a, b, c, d) l = true) -> req (decide (l.length = l.length)) (K (l, (), decide (r >= (0 : Int)), ())))) := by kernel_rfl
abbrev sh73 : SV := S [(0, .v I), (4, .own 0 TR4), (15, .v I), (16, .v I)]
abbrev lc73 : LC2 := ⟨0, sh73, 1, fun (m, out, all, x, _) Q => ((1 <= m /\ m <= 3) /\ all = 3 ^ m.toNat /\ (0 <= x /\ x <= all) /\ (out.length : Int) <= x) /\ Q (.exit 2) (stS 1 (S [(4, .own 0 TR4)]) ((List.range' x.toNat (all - x).toNat).foldl (stepS m.toNat) out, ()))⟩
theorem v73L1 (out : List R4) (all x : Int) (Q : AX -> St -> Prop) : (xloop2 Try.prog { nm := true, un := 6, ul := [2], f := [(100, fc100)], f2 := [(101, fc101)] } 5 73 1 lc73 (fun _ => some (S [(4, .own 0 TR4)], 1)) (fun (_, _, all, x, _) => (all - x).toNat) (1, out, all, x, ()) Q) =
 (fork (decide (x < all)) (req (inR IntKind.i64 (Int.tmod x (3 : Int) - 1)) (req (inR IntKind.i64 (Int.tdiv x (3 : Int))) (fork (!(Int.tmod x (3 : Int) - 1 == (0 : Int) && ((0 : Int) == (0 : Int) && ((0 : Int) == (0 : Int)
 && ((0 : Int) == (0 : Int) && true))))) ((smR (1 : Int) (Int.tmod x (3 : Int) - 1, (0 : Int), (0 : Int), (0 : Int)) /\ (-1 : AT.den (AT.v I)) <= (-1 : Int) /\ (-1 : Int) <= (1 : AT.den (AT.v I))) /\ ∀ (r : R4), r = mulR
 (Int.tmod x (3 : Int) - 1, (0 : Int), (0 : Int), (0 : Int)) (-1 : Int) -> req (decide (out.length = out.length)) (out.length <= 100 /\ ∀ (b : Bool), b = hasR r out -> fork (!b) (req (decide (0 + out.length <= out.length)) (req
 (fitsN (out.length + 1) 32) (∀ (ys : List (Ty.den (Ty.pr (Ty.i IntKind.i64) (Ty.pr (Ty.i IntKind.i64) (Ty.pr (Ty.i IntKind.i64) (Ty.i IntKind.i64)))))), ys = seg 0 (out.length) out ++ [(Int.tmod x (3 : Int) - 1, (0 :
 Int), (0 : Int), (0 : Int))] -> req (inR IntKind.i64 (x + 1)) (req (decide (0 + (out.length + 1) <= ys.length)) (Int.toNat (all - (x + 1)) < Int.toNat (all - x) /\ LC2.spec lc73 ((1 : SV.den (SV.slot 0 (SV.v I))), seg 0
 (out.length + 1) ys, all, x + 1, ()) Q))))) (req (inR IntKind.i64 (x + 1)) (req (decide (0 + out.length <= out.length)) (Int.toNat (all - (x + 1)) < Int.toNat (all - x) /\ LC2.spec lc73 ((1 : SV.den (SV.slot 0 (SV.v I))),
 seg 0 (out.length) out, all, x + 1, ()) Q))))) (req (inR IntKind.i64 (x + 1)) (req (decide (0 + out.length <= out.length)) (Int.toNat (all - (x + 1)) < Int.toNat (all - x) /\ LC2.spec lc73 ((1 : SV.den (SV.slot 0 (SV.v
 I))), seg 0 (out.length) out, all, x + 1, ()) Q)))))) (req (decide (0 + out.length <= out.length)) (Q (AX.exit 2) (stS 1 (S [(4, SV.own 0 TR4)]) (seg 0 (out.length) out, ()))))) := by kernel_rfl
theorem v73L2 (out : List R4) (all x : Int) (Q : AX -> St -> Prop) : (xloop2 Try.prog { nm := true, un := 6, ul := [2], f := [(100, fc100)], f2 := [(101, fc101)] } 5 73 1 lc73 (fun _ => some (S [(4, .own 0 TR4)], 1)) (fun (_, _, all, x, _) => (all - x).toNat) (2, out, all, x, ()) Q) =
 (fork (decide (x < all)) (req (inR IntKind.i64 (Int.tmod x (3 : Int) - 1)) (req (inR IntKind.i64 (Int.tdiv x (3 : Int))) (req (inR IntKind.i64 (Int.tmod (Int.tdiv x (3 : Int)) (3 : Int) - 1)) (req (inR IntKind.i64
 (Int.tdiv (Int.tdiv x (3 : Int)) (3 : Int))) (fork (!(Int.tmod x (3 : Int) - 1 == (0 : Int) && (Int.tmod (Int.tdiv x (3 : Int)) (3 : Int) - 1 == (0 : Int) && ((0 : Int) == (0 : Int) && ((0 : Int) == (0 : Int) && true)))))
 ((smR (1 : Int) (Int.tmod x (3 : Int) - 1, Int.tmod (Int.tdiv x (3 : Int)) (3 : Int) - 1, (0 : Int), (0 : Int)) /\ (-1 : AT.den (AT.v I)) <= (-1 : Int) /\ (-1 : Int) <= (1 : AT.den (AT.v I))) /\ ∀ (r : R4), r = mulR (Int.tmod
 x (3 : Int) - 1, Int.tmod (Int.tdiv x (3 : Int)) (3 : Int) - 1, (0 : Int), (0 : Int)) (-1 : Int) -> req (decide (out.length = out.length)) (out.length <= 100 /\ ∀ (b : Bool), b = hasR r out -> fork (!b) (req (decide (0 +
 out.length <= out.length)) (req (fitsN (out.length + 1) 32) (∀ (ys : List (Ty.den (Ty.pr (Ty.i IntKind.i64) (Ty.pr (Ty.i IntKind.i64) (Ty.pr (Ty.i IntKind.i64) (Ty.i IntKind.i64)))))), ys = seg 0 (out.length) out ++
 [(Int.tmod x (3 : Int) - 1, Int.tmod (Int.tdiv x (3 : Int)) (3 : Int) - 1, (0 : Int), (0 : Int))] -> req (inR IntKind.i64 (x + 1)) (req (decide (0 + (out.length + 1) <= ys.length)) (Int.toNat (all - (x + 1)) < Int.toNat
 (all - x) /\ LC2.spec lc73 ((2 : SV.den (SV.slot 0 (SV.v I))), seg 0 (out.length + 1) ys, all, x + 1, ()) Q))))) (req (inR IntKind.i64 (x + 1)) (req (decide (0 + out.length <= out.length)) (Int.toNat (all - (x + 1)) <
 Int.toNat (all - x) /\ LC2.spec lc73 ((2 : SV.den (SV.slot 0 (SV.v I))), seg 0 (out.length) out, all, x + 1, ()) Q))))) (req (inR IntKind.i64 (x + 1)) (req (decide (0 + out.length <= out.length)) (Int.toNat (all - (x + 1))
 < Int.toNat (all - x) /\ LC2.spec lc73 ((2 : SV.den (SV.slot 0 (SV.v I))), seg 0 (out.length) out, all, x + 1, ()) Q)))))))) (req (decide (0 + out.length <= out.length)) (Q (AX.exit 2) (stS 1 (S [(4, SV.own 0 TR4)]) (seg 0
 (out.length) out, ()))))) := by kernel_rfl
theorem v73L3 (out : List R4) (all x : Int) (Q : AX -> St -> Prop) : (xloop2 Try.prog { nm := true, un := 6, ul := [2], f := [(100, fc100)], f2 := [(101, fc101)] } 5 73 1 lc73 (fun _ => some (S [(4, .own 0 TR4)], 1)) (fun (_, _, all, x, _) => (all - x).toNat) (3, out, all, x, ()) Q) =
 (fork (decide (x < all)) (req (inR IntKind.i64 (Int.tmod x (3 : Int) - 1)) (req (inR IntKind.i64 (Int.tdiv x (3 : Int))) (req (inR IntKind.i64 (Int.tmod (Int.tdiv x (3 : Int)) (3 : Int) - 1)) (req (inR IntKind.i64
 (Int.tdiv (Int.tdiv x (3 : Int)) (3 : Int))) (req (inR IntKind.i64 (Int.tmod (Int.tdiv (Int.tdiv x (3 : Int)) (3 : Int)) (3 : Int) - 1)) (req (inR IntKind.i64 (Int.tdiv (Int.tdiv (Int.tdiv x (3 : Int)) (3 : Int)) (3 :
 Int))) (fork (!(Int.tmod x (3 : Int) - 1 == (0 : Int) && (Int.tmod (Int.tdiv x (3 : Int)) (3 : Int) - 1 == (0 : Int) && (Int.tmod (Int.tdiv (Int.tdiv x (3 : Int)) (3 : Int)) (3 : Int) - 1 == (0 : Int) && ((0 : Int) == (0
 : Int) && true))))) ((smR (1 : Int) (Int.tmod x (3 : Int) - 1, Int.tmod (Int.tdiv x (3 : Int)) (3 : Int) - 1, Int.tmod (Int.tdiv (Int.tdiv x (3 : Int)) (3 : Int)) (3 : Int) - 1, (0 : Int)) /\ (-1 : AT.den (AT.v I)) <= (-1 :
 Int) /\ (-1 : Int) <= (1 : AT.den (AT.v I))) /\ ∀ (r : R4), r = mulR (Int.tmod x (3 : Int) - 1, Int.tmod (Int.tdiv x (3 : Int)) (3 : Int) - 1, Int.tmod (Int.tdiv (Int.tdiv x (3 : Int)) (3 : Int)) (3 : Int) - 1, (0 : Int))
 (-1 : Int) -> req (decide (out.length = out.length)) (out.length <= 100 /\ ∀ (b : Bool), b = hasR r out -> fork (!b) (req (decide (0 + out.length <= out.length)) (req (fitsN (out.length + 1) 32) (∀ (ys : List (Ty.den (Ty.pr
 (Ty.i IntKind.i64) (Ty.pr (Ty.i IntKind.i64) (Ty.pr (Ty.i IntKind.i64) (Ty.i IntKind.i64)))))), ys = seg 0 (out.length) out ++ [(Int.tmod x (3 : Int) - 1, Int.tmod (Int.tdiv x (3 : Int)) (3 : Int) - 1, Int.tmod (Int.tdiv
 (Int.tdiv x (3 : Int)) (3 : Int)) (3 : Int) - 1, (0 : Int))] -> req (inR IntKind.i64 (x + 1)) (req (decide (0 + (out.length + 1) <= ys.length)) (Int.toNat (all - (x + 1)) < Int.toNat (all - x) /\ LC2.spec lc73 ((3 : SV.den
 (SV.slot 0 (SV.v I))), seg 0 (out.length + 1) ys, all, x + 1, ()) Q))))) (req (inR IntKind.i64 (x + 1)) (req (decide (0 + out.length <= out.length)) (Int.toNat (all - (x + 1)) < Int.toNat (all - x) /\ LC2.spec lc73 ((3 :
 SV.den (SV.slot 0 (SV.v I))), seg 0 (out.length) out, all, x + 1, ()) Q))))) (req (inR IntKind.i64 (x + 1)) (req (decide (0 + out.length <= out.length)) (Int.toNat (all - (x + 1)) < Int.toNat (all - x) /\ LC2.spec lc73 ((3
 : SV.den (SV.slot 0 (SV.v I))), seg 0 (out.length) out, all, x + 1, ()) Q)))))))))) (req (decide (0 + out.length <= out.length)) (Q (AX.exit 2) (stS 1 (S [(4, SV.own 0 TR4)]) (seg 0 (out.length) out, ()))))) := by kernel_rfl
abbrev fc73 : FC := ⟨[.v I], [LR4], fun x K => (1 <= x.1 /\ x.1 <= 3) /\ ∀ r : List R4, r = sidesT x.1.toNat -> K (r, ())⟩
theorem v73F1 (K : dens [LR4] -> Prop) : (xfn1 Try.prog { nm := true, un := 6, ul := [0], l2 := [(73, 1, lc73)] } 5 73 fc73 (1, ()) K) =
 ((((1 : SV.den (SV.slot 0 (SV.v I))) <= (1 : AT.den (AT.v I)) /\ (1 : AT.den (AT.v I)) <= (3 : SV.den (SV.slot 0 (SV.v I)))) /\ (3 : Int) = (3 : SV.den (SV.slot 15 (SV.v I))) ^ 1 /\ ((0 : SV.den (SV.slot 16 (SV.v I))) <= (0 :
 Int) /\ (0 : Int) <= (3 : Int)) /\ (0 : Int) <= (0 : Int)) /\ K ([digR 1 0], ())) := by kernel_rfl
theorem v73F2 (K : dens [LR4] -> Prop) : (xfn1 Try.prog { nm := true, un := 6, ul := [0], l2 := [(73, 1, lc73)] } 5 73 fc73 (2, ()) K) =
 ((((1 : SV.den (SV.slot 0 (SV.v I))) <= (2 : AT.den (AT.v I)) /\ (2 : AT.den (AT.v I)) <= (3 : SV.den (SV.slot 0 (SV.v I)))) /\ (9 : Int) = (3 : SV.den (SV.slot 15 (SV.v I))) ^ 2 /\ ((0 : SV.den (SV.slot 16 (SV.v I))) <= (0 :
 Int) /\ (0 : Int) <= (9 : Int)) /\ (0 : Int) <= (0 : Int)) /\ K ([digR 2 0, digR 2 1, digR 2 2, digR 2 3], ())) := by kernel_rfl
theorem v73F3 (K : dens [LR4] -> Prop) : (xfn1 Try.prog { nm := true, un := 6, ul := [0], l2 := [(73, 1, lc73)] } 5 73 fc73 (3, ()) K) =
 ((((1 : SV.den (SV.slot 0 (SV.v I))) <= (3 : AT.den (AT.v I)) /\ (3 : AT.den (AT.v I)) <= (3 : SV.den (SV.slot 0 (SV.v I)))) /\ (27 : Int) = (3 : SV.den (SV.slot 15 (SV.v I))) ^ 3 /\ ((0 : SV.den (SV.slot 16 (SV.v I))) <= (0 :
 Int) /\ (0 : Int) <= (27 : Int)) /\ (0 : Int) <= (0 : Int)) /\ K (seg 0 13 (List.foldl (stepS 3) [] (List.range' 0 27)), ())) := by kernel_rfl
def chs : Nat -> R4 -> List R4 -> Option (List R4)
 | 0, sum, _ => if eqR sum zR then some [] else none
 | _ + 1, _, [] => none
 | m + 1, sum, r :: l => if l.length < m then none else
  match (chs m (addR sum (mulR r 1)) l).map (mulR r 1 :: ·) with
  | some x => some x
  | none => match (chs m (addR sum (mulR r (-1))) l).map (mulR r (-1) :: ·) with
   | some x => some x
   | none => chs (m + 1) sum l
def chosenT (l : List R4) (n : Int) : List R4 := (chs n.toNat zR l).getD []
abbrev fc99 : FC2 := ⟨A [.v LR4], 0, A [.any, .own 0 TR4], 1, fun (l, _) K => l.length <= 1000 /\ ∀ r : List R4, r = l -> K ((), r, ())⟩
theorem v99F (l : List R4) (K : fc99.post.den -> Prop) : (xfn2 Try.prog {} 5 99 fc99 (l, ()) K) =
 (∀ (b : Bool), (b = true -> l.length = 0) -> fork b (K ((), [], ())) (req (fitsN (0 + l.length) 32) (req (decide (0 + (0 + l.length) <= List.length ([] ++ l))) (K ((), seg 0 (0 + l.length) ([] ++ l), ()))))) := by kernel_rfl
abbrev cl98 : SV := .fn 98 .nil (A [.ref 1, .ref 2, .ref 3, .ref 4])
abbrev sh98 : SV := S [(1, .pre 0 TR4), (3, .box 1 (.v I)), (4, .box 2 (.v LR4)), (5, .box 3 (.v LR4)), (6, .box 4 cl98), (9, .box 5 (.v TR4)), (11, .v I)]
abbrev sh98e : SV := S [(1, .pre 0 TR4), (3, .box 1 (.v I)), (4, .box 2 (.v LR4)), (5, .box 3 (.v LR4)), (6, .box 4 cl98)]
abbrev sh98r : SV := S [(1, .pre 0 TR4), (3, .box 1 (.v I)), (4, .box 2 (.v LR4)), (5, .box 3 (.v LR4)), (6, .box 4 cl98), (10, .v .b)]
def ex98 : Ex2
 | .ret => some (sh98r, 5)
 | _ => some (sh98e, 5)
structure okZ (z : List R4 × Nat) (nn : Int) (l : List R4) (sum : R4) : Prop where
 room : z.2 <= z.1.length /\ (z.2 : Int) <= nn /\ nn <= 12
 len : l.length <= 100
 sml : ∀ r ∈ l, smR 1 r
 sum : smR z.2 sum
abbrev lc98 (c : Nat) : LC2 := ⟨5, sh98, 6, fun (z, nn, fo, l, u, s, i, _) Q => (okZ z nn l s /\ (z.2 : Int) < nn /\ nn <= z.2 + c /\ (0 <= i /\ i <= l.length)) /\
 (chs (nn.toNat - z.2) s (l.drop i.toNat) = none -> ∀ z' fo' : List R4, z'.take z.2 = z.1.take z.2 -> z.2 <= z'.length -> Q (.exit 0) (stS 5 sh98e ((z', z.2), nn, fo', l, u, ()))) /\
 (∀ x, chs (nn.toNat - z.2) s (l.drop i.toNat) = some x -> ∀ z' : List R4, z'.take z.2 = z.1.take z.2 -> z.2 <= z'.length -> Q .ret (stS 5 sh98r ((z', z.2), nn, z.1.take z.2 ++ x, l, u, true, ())))⟩
abbrev pre98 : SV := A [.v I, .pre 0 TR4, .v TR4, .box 1 (.v I), .box 2 (.v LR4), .box 3 (.v LR4), .box 4 cl98]
abbrev post98 : SV := A [.any, .pre 0 TR4, .any, .box 1 (.v I), .box 2 (.v LR4), .box 3 (.v LR4), .box 4 cl98, .v .b]
abbrev fc98 (c : Nat) : FC2 := ⟨pre98, 5, post98, 5, fun (i, z, s, nn, fo, l, u, _) K => (okZ z nn l s /\ nn < z.2 + c /\ (0 <= i /\ i <= l.length)) /\
 ∀ (z' fo' : List R4) (b : Bool), z'.take z.2 = z.1.take z.2 -> z.2 <= z'.length -> b = (chs (nn.toNat - z.2) s (l.drop i.toNat)).isSome -> (∀ x, chs (nn.toNat - z.2) s (l.drop i.toNat) = some x -> fo' = z.1.take z.2 ++ x) -> K ((), (z', z.2), (), nn, fo', l, u, b, ())⟩
def v98T (c : Nat) (zz : List R4) (n : Nat) (nn : Int) (fo' l : List R4) (sa sb sc sd : Int) (i : Int) (Q : AX -> St -> Prop) : Prop := (Go.Lom.req (Decidable.decide ((0 : Int) <= i /\ i < (↑(List.length l) : Int))) ((Go.P8.smR (1 : Int)
 (List.getD l (Int.toNat i) ((0 : Int), (0 : Int), (0 : Int), (0 : Int))) /\ (-1 : Go.Lom.AT.den (Go.Lom.AT.v Go.P8.I)) <= (-1 : Int) /\ (-1 : Int) <= (1 : Go.Lom.AT.den (Go.Lom.AT.v Go.P8.I))) /\ ∀ (r : Go.P8.R4), r = Go.P8.mulR (List.getD l
 (Int.toNat i) ((0 : Int), (0 : Int), (0 : Int), (0 : Int))) (-1 : Int) -> Go.Lom.AV.agg [Go.Lom.AV.int Go.IntKind.i64 sa, Go.Lom.AV.int Go.IntKind.i64 sb, Go.Lom.AV.int Go.IntKind.i64 sc, Go.Lom.AV.int Go.IntKind.i64 sd] = Go.Lom.AV.agg
 [Go.Lom.AV.int Go.IntKind.i64 sa, Go.Lom.AV.int Go.IntKind.i64 sb, Go.Lom.AV.int Go.IntKind.i64 sc, Go.Lom.AV.int Go.IntKind.i64 sd] /\ Go.Lom.AV.agg [Go.Lom.AV.int Go.IntKind.i64 sa, Go.Lom.AV.int Go.IntKind.i64 sb, Go.Lom.AV.int
 Go.IntKind.i64 sc, Go.Lom.AV.int Go.IntKind.i64 sd] = Go.Lom.AV.agg [Go.Lom.AV.int Go.IntKind.i64 sa, Go.Lom.AV.int Go.IntKind.i64 sb, Go.Lom.AV.int Go.IntKind.i64 sc, Go.Lom.AV.int Go.IntKind.i64 sd] /\ Go.Lom.AV.agg [Go.Lom.AV.int
 Go.IntKind.i64 (Prod.fst (List.getD l (Int.toNat i) ((0 : Int), (0 : Int), (0 : Int), (0 : Int)))), Go.Lom.AV.int Go.IntKind.i64 (Prod.fst (Prod.snd (List.getD l (Int.toNat i) ((0 : Int), (0 : Int), (0 : Int), (0 : Int))))), Go.Lom.AV.int
 Go.IntKind.i64 (Prod.fst (Prod.snd (Prod.snd (List.getD l (Int.toNat i) ((0 : Int), (0 : Int), (0 : Int), (0 : Int)))))), Go.Lom.AV.int Go.IntKind.i64 (Prod.snd (Prod.snd (Prod.snd (List.getD l (Int.toNat i) ((0 : Int), (0 : Int), (0 :
 Int), (0 : Int))))))] = Go.Lom.AV.agg [Go.Lom.AV.int Go.IntKind.i64 (Prod.fst (List.getD l (Int.toNat i) ((0 : Int), (0 : Int), (0 : Int), (0 : Int)))), Go.Lom.AV.int Go.IntKind.i64 (Prod.fst (Prod.snd (List.getD l (Int.toNat i) ((0 :
 Int), (0 : Int), (0 : Int), (0 : Int))))), Go.Lom.AV.int Go.IntKind.i64 (Prod.fst (Prod.snd (Prod.snd (List.getD l (Int.toNat i) ((0 : Int), (0 : Int), (0 : Int), (0 : Int)))))), Go.Lom.AV.int Go.IntKind.i64 (Prod.snd (Prod.snd (Prod.snd
 (List.getD l (Int.toNat i) ((0 : Int), (0 : Int), (0 : Int), (0 : Int))))))] /\ Go.Lom.AV.rl Go.P8.TR4 l = Go.Lom.AV.rl Go.P8.TR4 l /\ Go.Lom.AV.agg [Go.Lom.AV.int Go.IntKind.i64 sa, Go.Lom.AV.int Go.IntKind.i64 sb, Go.Lom.AV.int
 Go.IntKind.i64 sc, Go.Lom.AV.int Go.IntKind.i64 sd] = Go.Lom.AV.agg [Go.Lom.AV.int Go.IntKind.i64 sa, Go.Lom.AV.int Go.IntKind.i64 sb, Go.Lom.AV.int Go.IntKind.i64 sc, Go.Lom.AV.int Go.IntKind.i64 sd] /\ Go.Lom.AV.agg [Go.Lom.AV.int
 Go.IntKind.i64 (Prod.fst (List.getD l (Int.toNat i) ((0 : Int), (0 : Int), (0 : Int), (0 : Int)))), Go.Lom.AV.int Go.IntKind.i64 (Prod.fst (Prod.snd (List.getD l (Int.toNat i) ((0 : Int), (0 : Int), (0 : Int), (0 : Int))))), Go.Lom.AV.int
 Go.IntKind.i64 (Prod.fst (Prod.snd (Prod.snd (List.getD l (Int.toNat i) ((0 : Int), (0 : Int), (0 : Int), (0 : Int)))))), Go.Lom.AV.int Go.IntKind.i64 (Prod.snd (Prod.snd (Prod.snd (List.getD l (Int.toNat i) ((0 : Int), (0 : Int), (0 :
 Int), (0 : Int))))))] = Go.Lom.AV.agg [Go.Lom.AV.int Go.IntKind.i64 (Prod.fst (List.getD l (Int.toNat i) ((0 : Int), (0 : Int), (0 : Int), (0 : Int)))), Go.Lom.AV.int Go.IntKind.i64 (Prod.fst (Prod.snd (List.getD l (Int.toNat i) ((0 :
 Int), (0 : Int), (0 : Int), (0 : Int))))), Go.Lom.AV.int Go.IntKind.i64 (Prod.fst (Prod.snd (Prod.snd (List.getD l (Int.toNat i) ((0 : Int), (0 : Int), (0 : Int), (0 : Int)))))), Go.Lom.AV.int Go.IntKind.i64 (Prod.snd (Prod.snd (Prod.snd
 (List.getD l (Int.toNat i) ((0 : Int), (0 : Int), (0 : Int), (0 : Int))))))] /\ Go.Lom.AV.rl Go.P8.TR4 l = Go.Lom.AV.rl Go.P8.TR4 l /\ Go.Lom.AV.agg [Go.Lom.AV.int Go.IntKind.i64 sa, Go.Lom.AV.int Go.IntKind.i64 sb, Go.Lom.AV.int
 Go.IntKind.i64 sc, Go.Lom.AV.int Go.IntKind.i64 sd] = Go.Lom.AV.agg [Go.Lom.AV.int Go.IntKind.i64 sa, Go.Lom.AV.int Go.IntKind.i64 sb, Go.Lom.AV.int Go.IntKind.i64 sc, Go.Lom.AV.int Go.IntKind.i64 sd] /\ Go.Lom.req (Go.Lom.inR
 Go.IntKind.i64 (sa + Prod.fst r)) (Go.Lom.req (Go.Lom.inR Go.IntKind.i64 (sb + Prod.fst (Prod.snd r))) (Go.Lom.req (Go.Lom.inR Go.IntKind.i64 (sc + Prod.fst (Prod.snd (Prod.snd r)))) (Go.Lom.req (Go.Lom.inR Go.IntKind.i64 (sd + Prod.snd
 (Prod.snd (Prod.snd r)))) (Go.Lom.req (Go.Lom.inR Go.IntKind.i64 (i + (1 : Int))) (Go.Lom.AV.agg [Go.Lom.AV.int Go.IntKind.i64 (sa + Prod.fst r), Go.Lom.AV.int Go.IntKind.i64 (sb + Prod.fst (Prod.snd r)), Go.Lom.AV.int Go.IntKind.i64 (sc +
 Prod.fst (Prod.snd (Prod.snd r))), Go.Lom.AV.int Go.IntKind.i64 (sd + Prod.snd (Prod.snd (Prod.snd r)))] = Go.Lom.AV.agg [Go.Lom.AV.int Go.IntKind.i64 (sa + Prod.fst r), Go.Lom.AV.int Go.IntKind.i64 (sb + Prod.fst (Prod.snd r)),
 Go.Lom.AV.int Go.IntKind.i64 (sc + Prod.fst (Prod.snd (Prod.snd r))), Go.Lom.AV.int Go.IntKind.i64 (sd + Prod.snd (Prod.snd (Prod.snd r)))] /\ Go.Lom.AV.fn (Go.Fn.func (98 : Nat)) [] [Go.Lom.AV.ptr (1 : Nat) (0 : Nat) (0 : Nat),
 Go.Lom.AV.ptr (2 : Nat) (0 : Nat) (0 : Nat), Go.Lom.AV.ptr (3 : Nat) (0 : Nat) (0 : Nat), Go.Lom.AV.ptr (4 : Nat) (0 : Nat) (0 : Nat)] = Go.Lom.AV.fn (Go.Fn.func (98 : Nat)) [] [Go.Lom.AV.ptr (1 : Nat) (0 : Nat) (0 : Nat), Go.Lom.AV.ptr (2
 : Nat) (0 : Nat) (0 : Nat), Go.Lom.AV.ptr (3 : Nat) (0 : Nat) (0 : Nat), Go.Lom.AV.ptr (4 : Nat) (0 : Nat) (0 : Nat)] /\ Go.Lom.req (Decidable.decide ((0 : Nat) + n <= List.length zz)) (Go.Lom.req (Go.Lom.fitsN (n + (1 : Nat)) (32 : Nat))
 ((∀ (ys : List (Go.Lom.Ty.den (Go.Lom.Ty.pr (Go.Lom.Ty.i Go.IntKind.i64) (Go.Lom.Ty.pr (Go.Lom.Ty.i Go.IntKind.i64) (Go.Lom.Ty.pr (Go.Lom.Ty.i Go.IntKind.i64) (Go.Lom.Ty.i Go.IntKind.i64)))))), ys = List.take ((0 : Nat) + n) zz ++ [r] ++
 List.drop ((0 : Nat) + n + (1 : Nat)) zz -> Go.Lom.AV.agg [Go.Lom.AV.int Go.IntKind.i64 (sa + Prod.fst r), Go.Lom.AV.int Go.IntKind.i64 (sb + Prod.fst (Prod.snd r)), Go.Lom.AV.int Go.IntKind.i64 (sc + Prod.fst (Prod.snd (Prod.snd r))),
 Go.Lom.AV.int Go.IntKind.i64 (sd + Prod.snd (Prod.snd (Prod.snd r)))] = Go.Lom.AV.agg [Go.Lom.AV.int Go.IntKind.i64 (sa + Prod.fst r), Go.Lom.AV.int Go.IntKind.i64 (sb + Prod.fst (Prod.snd r)), Go.Lom.AV.int Go.IntKind.i64 (sc + Prod.fst
 (Prod.snd (Prod.snd r))), Go.Lom.AV.int Go.IntKind.i64 (sd + Prod.snd (Prod.snd (Prod.snd r)))] /\ Go.Lom.AV.fn (Go.Fn.func (98 : Nat)) [] [Go.Lom.AV.ptr (1 : Nat) (0 : Nat) (0 : Nat), Go.Lom.AV.ptr (2 : Nat) (0 : Nat) (0 : Nat),
 Go.Lom.AV.ptr (3 : Nat) (0 : Nat) (0 : Nat), Go.Lom.AV.ptr (4 : Nat) (0 : Nat) (0 : Nat)] = Go.Lom.AV.fn (Go.Fn.func (98 : Nat)) [] [Go.Lom.AV.ptr (1 : Nat) (0 : Nat) (0 : Nat), Go.Lom.AV.ptr (2 : Nat) (0 : Nat) (0 : Nat), Go.Lom.AV.ptr (3
 : Nat) (0 : Nat) (0 : Nat), Go.Lom.AV.ptr (4 : Nat) (0 : Nat) (0 : Nat)] /\ Go.Lom.req (Nat.ble (n + (1 : Nat)) (List.length ys)) ((Go.P8.okZ (ys, n + (1 : Nat)) nn l (sa + Prod.fst r, sb + Prod.fst (Prod.snd r), sc + Prod.fst (Prod.snd
 (Prod.snd r)), sd + Prod.snd (Prod.snd (Prod.snd r))) /\ nn < (↑(n + (1 : Nat)) : Go.Lom.SV.den (Go.Lom.SV.box (1 : Nat) (Go.Lom.SV.v Go.P8.I))) + (↑c : Go.Lom.SV.den (Go.Lom.SV.box (1 : Nat) (Go.Lom.SV.v Go.P8.I))) /\ (0 : Go.Lom.SV.den
 (Go.Lom.SV.v Go.P8.I)) <= i + (1 : Int) /\ i + (1 : Int) <= (↑(List.length l) : Go.Lom.SV.den (Go.Lom.SV.v Go.P8.I))) /\ ∀ (z' fo' : List Go.P8.R4) (b : Bool), List.take (n + (1 : Nat)) z' = List.take (n + (1 : Nat)) ys -> n + (1 : Nat) <=
 List.length z' -> b = Option.isSome (Go.P8.chs (Int.toNat nn - (n + (1 : Nat))) (sa + Prod.fst r, sb + Prod.fst (Prod.snd r), sc + Prod.fst (Prod.snd (Prod.snd r)), sd + Prod.snd (Prod.snd (Prod.snd r))) (List.drop (Int.toNat (i + (1 :
 Int))) l)) -> (∀ (x : List Go.P8.R4), Go.P8.chs (Int.toNat nn - (n + (1 : Nat))) (sa + Prod.fst r, sb + Prod.fst (Prod.snd r), sc + Prod.fst (Prod.snd (Prod.snd r)), sd + Prod.snd (Prod.snd (Prod.snd r))) (List.drop (Int.toNat (i + (1 :
 Int))) l) = Option.some x -> fo' = List.take (n + (1 : Nat)) ys ++ x) -> Go.Lom.fork b (Go.Lom.req (Nat.ble n (List.length z')) (Q Go.Lom.AX.ret (Go.Lom.stS (5 : Nat) Go.P8.sh98r ((z', n), nn, fo', l, ((), (), (), (), (), ()), Bool.true,
 ())))) (Go.Lom.req (Go.Lom.inR Go.IntKind.i64 (i + (1 : Int))) (Go.Lom.req (Nat.ble n (List.length z')) (Go.P8.mL l (i + (1 : Int)) < Go.P8.mL l i /\ Go.Lom.LC2.spec (Go.P8.lc98 c) ((z', n), nn, fo', l, ((), (), (), (), (), ()), (sa, sb,
 sc, sd), i + (1 : Int), ()) Q))))) /\ ∀ (ys : List (Go.Lom.Ty.den (Go.Lom.Ty.pr (Go.Lom.Ty.i Go.IntKind.i64) (Go.Lom.Ty.pr (Go.Lom.Ty.i Go.IntKind.i64) (Go.Lom.Ty.pr (Go.Lom.Ty.i Go.IntKind.i64) (Go.Lom.Ty.i Go.IntKind.i64)))))), ys =
 Go.Lom.seg (0 : Nat) n zz ++ [r] -> Go.Lom.AV.agg [Go.Lom.AV.int Go.IntKind.i64 (sa + Prod.fst r), Go.Lom.AV.int Go.IntKind.i64 (sb + Prod.fst (Prod.snd r)), Go.Lom.AV.int Go.IntKind.i64 (sc + Prod.fst (Prod.snd (Prod.snd r))),
 Go.Lom.AV.int Go.IntKind.i64 (sd + Prod.snd (Prod.snd (Prod.snd r)))] = Go.Lom.AV.agg [Go.Lom.AV.int Go.IntKind.i64 (sa + Prod.fst r), Go.Lom.AV.int Go.IntKind.i64 (sb + Prod.fst (Prod.snd r)), Go.Lom.AV.int Go.IntKind.i64 (sc + Prod.fst
 (Prod.snd (Prod.snd r))), Go.Lom.AV.int Go.IntKind.i64 (sd + Prod.snd (Prod.snd (Prod.snd r)))] /\ Go.Lom.AV.fn (Go.Fn.func (98 : Nat)) [] [Go.Lom.AV.ptr (1 : Nat) (0 : Nat) (0 : Nat), Go.Lom.AV.ptr (2 : Nat) (0 : Nat) (0 : Nat),
 Go.Lom.AV.ptr (3 : Nat) (0 : Nat) (0 : Nat), Go.Lom.AV.ptr (4 : Nat) (0 : Nat) (0 : Nat)] = Go.Lom.AV.fn (Go.Fn.func (98 : Nat)) [] [Go.Lom.AV.ptr (1 : Nat) (0 : Nat) (0 : Nat), Go.Lom.AV.ptr (2 : Nat) (0 : Nat) (0 : Nat), Go.Lom.AV.ptr (3
 : Nat) (0 : Nat) (0 : Nat), Go.Lom.AV.ptr (4 : Nat) (0 : Nat) (0 : Nat)] /\ Go.Lom.req (Nat.ble (n + (1 : Nat)) (List.length ys)) ((Go.P8.okZ (ys, n + (1 : Nat)) nn l (sa + Prod.fst r, sb + Prod.fst (Prod.snd r), sc + Prod.fst (Prod.snd
 (Prod.snd r)), sd + Prod.snd (Prod.snd (Prod.snd r))) /\ nn < (↑(n + (1 : Nat)) : Go.Lom.SV.den (Go.Lom.SV.box (1 : Nat) (Go.Lom.SV.v Go.P8.I))) + (↑c : Go.Lom.SV.den (Go.Lom.SV.box (1 : Nat) (Go.Lom.SV.v Go.P8.I))) /\ (0 : Go.Lom.SV.den
 (Go.Lom.SV.v Go.P8.I)) <= i + (1 : Int) /\ i + (1 : Int) <= (↑(List.length l) : Go.Lom.SV.den (Go.Lom.SV.v Go.P8.I))) /\ ∀ (z' fo' : List Go.P8.R4) (b : Bool), List.take (n + (1 : Nat)) z' = List.take (n + (1 : Nat)) ys -> n + (1 : Nat) <=
 List.length z' -> b = Option.isSome (Go.P8.chs (Int.toNat nn - (n + (1 : Nat))) (sa + Prod.fst r, sb + Prod.fst (Prod.snd r), sc + Prod.fst (Prod.snd (Prod.snd r)), sd + Prod.snd (Prod.snd (Prod.snd r))) (List.drop (Int.toNat (i + (1 :
 Int))) l)) -> (∀ (x : List Go.P8.R4), Go.P8.chs (Int.toNat nn - (n + (1 : Nat))) (sa + Prod.fst r, sb + Prod.fst (Prod.snd r), sc + Prod.fst (Prod.snd (Prod.snd r)), sd + Prod.snd (Prod.snd (Prod.snd r))) (List.drop (Int.toNat (i + (1 :
 Int))) l) = Option.some x -> fo' = List.take (n + (1 : Nat)) ys ++ x) -> Go.Lom.fork b (Go.Lom.req (Nat.ble n (List.length zz)) (Q Go.Lom.AX.ret (Go.Lom.stS (5 : Nat) Go.P8.sh98r ((zz, n), nn, fo', l, ((), (), (), (), (), ()), Bool.true,
 ())))) (Go.Lom.req (Go.Lom.inR Go.IntKind.i64 (i + (1 : Int))) (Go.Lom.req (Nat.ble n (List.length zz)) (Go.P8.mL l (i + (1 : Int)) < Go.P8.mL l i /\ Go.Lom.LC2.spec (Go.P8.lc98 c) ((zz, n), nn, fo', l, ((), (), (), (), (), ()), (sa, sb,
 sc, sd), i + (1 : Int), ()) Q)))))))))))))
theorem v98L (c : Nat) (z : List R4) (n : Nat) (nn : Int) (fo l : List R4) (sa sb sc sd : Int) (i : Int) (Q : AX -> St -> Prop) : (xloop2 Try.prog { nm := true, ip := true, un := 6, ul := [1], f := [(100, fc100)], f2 := [(98, fc98 c)] } 5 98
 0 (lc98 c) ex98 (fun (_, _, _, l, _, _, i, _) => mL l i) ((z, n), nn, fo, l, ((), (), (), (), (), ()), (sa, sb, sc, sd), i, ()) Q) = (Go.Lom.req (Go.Lom.inR Go.IntKind.i64 (i + nn)) (Go.Lom.req (Go.Lom.inR Go.IntKind.i64 (i + nn - (↑n :
 Int))) (Go.Lom.fork (Decidable.decide (i + nn - (↑n : Int) <= (↑(List.length l) : Int))) (Go.Lom.req (Decidable.decide ((0 : Int) <= i /\ i < (↑(List.length l) : Int))) ((Go.P8.smR (1 : Int) (List.getD l (Int.toNat i) ((0 : Int), (0 : Int),
 (0 : Int), (0 : Int))) /\ (-1 : Go.Lom.AT.den (Go.Lom.AT.v Go.P8.I)) <= (1 : Int) /\ (1 : Int) <= (1 : Go.Lom.AT.den (Go.Lom.AT.v Go.P8.I))) /\ ∀ (r : Go.P8.R4), r = Go.P8.mulR (List.getD l (Int.toNat i) ((0 : Int), (0 : Int), (0 : Int), (0 :
 Int))) (1 : Int) -> Go.Lom.AV.agg [Go.Lom.AV.int Go.IntKind.i64 sa, Go.Lom.AV.int Go.IntKind.i64 sb, Go.Lom.AV.int Go.IntKind.i64 sc, Go.Lom.AV.int Go.IntKind.i64 sd] = Go.Lom.AV.agg [Go.Lom.AV.int Go.IntKind.i64 sa, Go.Lom.AV.int
 Go.IntKind.i64 sb, Go.Lom.AV.int Go.IntKind.i64 sc, Go.Lom.AV.int Go.IntKind.i64 sd] /\ Go.Lom.AV.agg [Go.Lom.AV.int Go.IntKind.i64 sa, Go.Lom.AV.int Go.IntKind.i64 sb, Go.Lom.AV.int Go.IntKind.i64 sc, Go.Lom.AV.int Go.IntKind.i64 sd] =
 Go.Lom.AV.agg [Go.Lom.AV.int Go.IntKind.i64 sa, Go.Lom.AV.int Go.IntKind.i64 sb, Go.Lom.AV.int Go.IntKind.i64 sc, Go.Lom.AV.int Go.IntKind.i64 sd] /\ Go.Lom.AV.agg [Go.Lom.AV.int Go.IntKind.i64 (Prod.fst (List.getD l (Int.toNat i) ((0 :
 Int), (0 : Int), (0 : Int), (0 : Int)))), Go.Lom.AV.int Go.IntKind.i64 (Prod.fst (Prod.snd (List.getD l (Int.toNat i) ((0 : Int), (0 : Int), (0 : Int), (0 : Int))))), Go.Lom.AV.int Go.IntKind.i64 (Prod.fst (Prod.snd (Prod.snd (List.getD l
 (Int.toNat i) ((0 : Int), (0 : Int), (0 : Int), (0 : Int)))))), Go.Lom.AV.int Go.IntKind.i64 (Prod.snd (Prod.snd (Prod.snd (List.getD l (Int.toNat i) ((0 : Int), (0 : Int), (0 : Int), (0 : Int))))))] = Go.Lom.AV.agg [Go.Lom.AV.int
 Go.IntKind.i64 (Prod.fst (List.getD l (Int.toNat i) ((0 : Int), (0 : Int), (0 : Int), (0 : Int)))), Go.Lom.AV.int Go.IntKind.i64 (Prod.fst (Prod.snd (List.getD l (Int.toNat i) ((0 : Int), (0 : Int), (0 : Int), (0 : Int))))), Go.Lom.AV.int
 Go.IntKind.i64 (Prod.fst (Prod.snd (Prod.snd (List.getD l (Int.toNat i) ((0 : Int), (0 : Int), (0 : Int), (0 : Int)))))), Go.Lom.AV.int Go.IntKind.i64 (Prod.snd (Prod.snd (Prod.snd (List.getD l (Int.toNat i) ((0 : Int), (0 : Int), (0 :
 Int), (0 : Int))))))] /\ Go.Lom.AV.rl Go.P8.TR4 l = Go.Lom.AV.rl Go.P8.TR4 l /\ Go.Lom.AV.agg [Go.Lom.AV.int Go.IntKind.i64 sa, Go.Lom.AV.int Go.IntKind.i64 sb, Go.Lom.AV.int Go.IntKind.i64 sc, Go.Lom.AV.int Go.IntKind.i64 sd] =
 Go.Lom.AV.agg [Go.Lom.AV.int Go.IntKind.i64 sa, Go.Lom.AV.int Go.IntKind.i64 sb, Go.Lom.AV.int Go.IntKind.i64 sc, Go.Lom.AV.int Go.IntKind.i64 sd] /\ Go.Lom.AV.agg [Go.Lom.AV.int Go.IntKind.i64 (Prod.fst (List.getD l (Int.toNat i) ((0 :
 Int), (0 : Int), (0 : Int), (0 : Int)))), Go.Lom.AV.int Go.IntKind.i64 (Prod.fst (Prod.snd (List.getD l (Int.toNat i) ((0 : Int), (0 : Int), (0 : Int), (0 : Int))))), Go.Lom.AV.int Go.IntKind.i64 (Prod.fst (Prod.snd (Prod.snd (List.getD l
 (Int.toNat i) ((0 : Int), (0 : Int), (0 : Int), (0 : Int)))))), Go.Lom.AV.int Go.IntKind.i64 (Prod.snd (Prod.snd (Prod.snd (List.getD l (Int.toNat i) ((0 : Int), (0 : Int), (0 : Int), (0 : Int))))))] = Go.Lom.AV.agg [Go.Lom.AV.int
 Go.IntKind.i64 (Prod.fst (List.getD l (Int.toNat i) ((0 : Int), (0 : Int), (0 : Int), (0 : Int)))), Go.Lom.AV.int Go.IntKind.i64 (Prod.fst (Prod.snd (List.getD l (Int.toNat i) ((0 : Int), (0 : Int), (0 : Int), (0 : Int))))), Go.Lom.AV.int
 Go.IntKind.i64 (Prod.fst (Prod.snd (Prod.snd (List.getD l (Int.toNat i) ((0 : Int), (0 : Int), (0 : Int), (0 : Int)))))), Go.Lom.AV.int Go.IntKind.i64 (Prod.snd (Prod.snd (Prod.snd (List.getD l (Int.toNat i) ((0 : Int), (0 : Int), (0 :
 Int), (0 : Int))))))] /\ Go.Lom.AV.rl Go.P8.TR4 l = Go.Lom.AV.rl Go.P8.TR4 l /\ Go.Lom.AV.agg [Go.Lom.AV.int Go.IntKind.i64 sa, Go.Lom.AV.int Go.IntKind.i64 sb, Go.Lom.AV.int Go.IntKind.i64 sc, Go.Lom.AV.int Go.IntKind.i64 sd] =
 Go.Lom.AV.agg [Go.Lom.AV.int Go.IntKind.i64 sa, Go.Lom.AV.int Go.IntKind.i64 sb, Go.Lom.AV.int Go.IntKind.i64 sc, Go.Lom.AV.int Go.IntKind.i64 sd] /\ Go.Lom.req (Go.Lom.inR Go.IntKind.i64 (sa + Prod.fst r)) (Go.Lom.req (Go.Lom.inR
 Go.IntKind.i64 (sb + Prod.fst (Prod.snd r))) (Go.Lom.req (Go.Lom.inR Go.IntKind.i64 (sc + Prod.fst (Prod.snd (Prod.snd r)))) (Go.Lom.req (Go.Lom.inR Go.IntKind.i64 (sd + Prod.snd (Prod.snd (Prod.snd r)))) (Go.Lom.req (Go.Lom.inR
 Go.IntKind.i64 (i + (1 : Int))) (Go.Lom.AV.agg [Go.Lom.AV.int Go.IntKind.i64 (sa + Prod.fst r), Go.Lom.AV.int Go.IntKind.i64 (sb + Prod.fst (Prod.snd r)), Go.Lom.AV.int Go.IntKind.i64 (sc + Prod.fst (Prod.snd (Prod.snd r))), Go.Lom.AV.int
 Go.IntKind.i64 (sd + Prod.snd (Prod.snd (Prod.snd r)))] = Go.Lom.AV.agg [Go.Lom.AV.int Go.IntKind.i64 (sa + Prod.fst r), Go.Lom.AV.int Go.IntKind.i64 (sb + Prod.fst (Prod.snd r)), Go.Lom.AV.int Go.IntKind.i64 (sc + Prod.fst (Prod.snd
 (Prod.snd r))), Go.Lom.AV.int Go.IntKind.i64 (sd + Prod.snd (Prod.snd (Prod.snd r)))] /\ Go.Lom.AV.fn (Go.Fn.func (98 : Nat)) [] [Go.Lom.AV.ptr (1 : Nat) (0 : Nat) (0 : Nat), Go.Lom.AV.ptr (2 : Nat) (0 : Nat) (0 : Nat), Go.Lom.AV.ptr (3 :
 Nat) (0 : Nat) (0 : Nat), Go.Lom.AV.ptr (4 : Nat) (0 : Nat) (0 : Nat)] = Go.Lom.AV.fn (Go.Fn.func (98 : Nat)) [] [Go.Lom.AV.ptr (1 : Nat) (0 : Nat) (0 : Nat), Go.Lom.AV.ptr (2 : Nat) (0 : Nat) (0 : Nat), Go.Lom.AV.ptr (3 : Nat) (0 : Nat)
 (0 : Nat), Go.Lom.AV.ptr (4 : Nat) (0 : Nat) (0 : Nat)] /\ Go.Lom.req (Decidable.decide ((0 : Nat) + n <= List.length z)) (Go.Lom.req (Go.Lom.fitsN (n + (1 : Nat)) (32 : Nat)) ((∀ (ys : List (Go.Lom.Ty.den (Go.Lom.Ty.pr (Go.Lom.Ty.i
 Go.IntKind.i64) (Go.Lom.Ty.pr (Go.Lom.Ty.i Go.IntKind.i64) (Go.Lom.Ty.pr (Go.Lom.Ty.i Go.IntKind.i64) (Go.Lom.Ty.i Go.IntKind.i64)))))), ys = List.take ((0 : Nat) + n) z ++ [r] ++ List.drop ((0 : Nat) + n + (1 : Nat)) z -> Go.Lom.AV.agg
 [Go.Lom.AV.int Go.IntKind.i64 (sa + Prod.fst r), Go.Lom.AV.int Go.IntKind.i64 (sb + Prod.fst (Prod.snd r)), Go.Lom.AV.int Go.IntKind.i64 (sc + Prod.fst (Prod.snd (Prod.snd r))), Go.Lom.AV.int Go.IntKind.i64 (sd + Prod.snd (Prod.snd
 (Prod.snd r)))] = Go.Lom.AV.agg [Go.Lom.AV.int Go.IntKind.i64 (sa + Prod.fst r), Go.Lom.AV.int Go.IntKind.i64 (sb + Prod.fst (Prod.snd r)), Go.Lom.AV.int Go.IntKind.i64 (sc + Prod.fst (Prod.snd (Prod.snd r))), Go.Lom.AV.int Go.IntKind.i64
 (sd + Prod.snd (Prod.snd (Prod.snd r)))] /\ Go.Lom.AV.fn (Go.Fn.func (98 : Nat)) [] [Go.Lom.AV.ptr (1 : Nat) (0 : Nat) (0 : Nat), Go.Lom.AV.ptr (2 : Nat) (0 : Nat) (0 : Nat), Go.Lom.AV.ptr (3 : Nat) (0 : Nat) (0 : Nat), Go.Lom.AV.ptr (4 :
 Nat) (0 : Nat) (0 : Nat)] = Go.Lom.AV.fn (Go.Fn.func (98 : Nat)) [] [Go.Lom.AV.ptr (1 : Nat) (0 : Nat) (0 : Nat), Go.Lom.AV.ptr (2 : Nat) (0 : Nat) (0 : Nat), Go.Lom.AV.ptr (3 : Nat) (0 : Nat) (0 : Nat), Go.Lom.AV.ptr (4 : Nat) (0 : Nat)
 (0 : Nat)] /\ Go.Lom.req (Nat.ble (n + (1 : Nat)) (List.length ys)) ((Go.P8.okZ (ys, n + (1 : Nat)) nn l (sa + Prod.fst r, sb + Prod.fst (Prod.snd r), sc + Prod.fst (Prod.snd (Prod.snd r)), sd + Prod.snd (Prod.snd (Prod.snd r))) /\ nn < (↑(n
 + (1 : Nat)) : Go.Lom.SV.den (Go.Lom.SV.box (1 : Nat) (Go.Lom.SV.v Go.P8.I))) + (↑c : Go.Lom.SV.den (Go.Lom.SV.box (1 : Nat) (Go.Lom.SV.v Go.P8.I))) /\ (0 : Go.Lom.SV.den (Go.Lom.SV.v Go.P8.I)) <= i + (1 : Int) /\ i + (1 : Int) <=
 (↑(List.length l) : Go.Lom.SV.den (Go.Lom.SV.v Go.P8.I))) /\ ∀ (z' fo' : List Go.P8.R4) (b : Bool), List.take (n + (1 : Nat)) z' = List.take (n + (1 : Nat)) ys -> n + (1 : Nat) <= List.length z' -> b = Option.isSome (Go.P8.chs (Int.toNat nn -
 (n + (1 : Nat))) (sa + Prod.fst r, sb + Prod.fst (Prod.snd r), sc + Prod.fst (Prod.snd (Prod.snd r)), sd + Prod.snd (Prod.snd (Prod.snd r))) (List.drop (Int.toNat (i + (1 : Int))) l)) -> (∀ (x : List Go.P8.R4), Go.P8.chs (Int.toNat nn - (n
 + (1 : Nat))) (sa + Prod.fst r, sb + Prod.fst (Prod.snd r), sc + Prod.fst (Prod.snd (Prod.snd r)), sd + Prod.snd (Prod.snd (Prod.snd r))) (List.drop (Int.toNat (i + (1 : Int))) l) = Option.some x -> fo' = List.take (n + (1 : Nat)) ys ++ x)
 -> Go.Lom.fork b (Go.Lom.req (Nat.ble n (List.length z')) (Q Go.Lom.AX.ret (Go.Lom.stS (5 : Nat) Go.P8.sh98r ((z', n), nn, fo', l, ((), (), (), (), (), ()), Bool.true, ())))) (v98T c z' n nn fo' l sa sb sc sd i Q))) /\ ∀ (ys : List
 (Go.Lom.Ty.den (Go.Lom.Ty.pr (Go.Lom.Ty.i Go.IntKind.i64) (Go.Lom.Ty.pr (Go.Lom.Ty.i Go.IntKind.i64) (Go.Lom.Ty.pr (Go.Lom.Ty.i Go.IntKind.i64) (Go.Lom.Ty.i Go.IntKind.i64)))))), ys = Go.Lom.seg (0 : Nat) n z ++ [r] -> Go.Lom.AV.agg
 [Go.Lom.AV.int Go.IntKind.i64 (sa + Prod.fst r), Go.Lom.AV.int Go.IntKind.i64 (sb + Prod.fst (Prod.snd r)), Go.Lom.AV.int Go.IntKind.i64 (sc + Prod.fst (Prod.snd (Prod.snd r))), Go.Lom.AV.int Go.IntKind.i64 (sd + Prod.snd (Prod.snd
 (Prod.snd r)))] = Go.Lom.AV.agg [Go.Lom.AV.int Go.IntKind.i64 (sa + Prod.fst r), Go.Lom.AV.int Go.IntKind.i64 (sb + Prod.fst (Prod.snd r)), Go.Lom.AV.int Go.IntKind.i64 (sc + Prod.fst (Prod.snd (Prod.snd r))), Go.Lom.AV.int Go.IntKind.i64
 (sd + Prod.snd (Prod.snd (Prod.snd r)))] /\ Go.Lom.AV.fn (Go.Fn.func (98 : Nat)) [] [Go.Lom.AV.ptr (1 : Nat) (0 : Nat) (0 : Nat), Go.Lom.AV.ptr (2 : Nat) (0 : Nat) (0 : Nat), Go.Lom.AV.ptr (3 : Nat) (0 : Nat) (0 : Nat), Go.Lom.AV.ptr (4 :
 Nat) (0 : Nat) (0 : Nat)] = Go.Lom.AV.fn (Go.Fn.func (98 : Nat)) [] [Go.Lom.AV.ptr (1 : Nat) (0 : Nat) (0 : Nat), Go.Lom.AV.ptr (2 : Nat) (0 : Nat) (0 : Nat), Go.Lom.AV.ptr (3 : Nat) (0 : Nat) (0 : Nat), Go.Lom.AV.ptr (4 : Nat) (0 : Nat)
 (0 : Nat)] /\ Go.Lom.req (Nat.ble (n + (1 : Nat)) (List.length ys)) ((Go.P8.okZ (ys, n + (1 : Nat)) nn l (sa + Prod.fst r, sb + Prod.fst (Prod.snd r), sc + Prod.fst (Prod.snd (Prod.snd r)), sd + Prod.snd (Prod.snd (Prod.snd r))) /\ nn < (↑(n
 + (1 : Nat)) : Go.Lom.SV.den (Go.Lom.SV.box (1 : Nat) (Go.Lom.SV.v Go.P8.I))) + (↑c : Go.Lom.SV.den (Go.Lom.SV.box (1 : Nat) (Go.Lom.SV.v Go.P8.I))) /\ (0 : Go.Lom.SV.den (Go.Lom.SV.v Go.P8.I)) <= i + (1 : Int) /\ i + (1 : Int) <=
 (↑(List.length l) : Go.Lom.SV.den (Go.Lom.SV.v Go.P8.I))) /\ ∀ (z' fo' : List Go.P8.R4) (b : Bool), List.take (n + (1 : Nat)) z' = List.take (n + (1 : Nat)) ys -> n + (1 : Nat) <= List.length z' -> b = Option.isSome (Go.P8.chs (Int.toNat nn -
 (n + (1 : Nat))) (sa + Prod.fst r, sb + Prod.fst (Prod.snd r), sc + Prod.fst (Prod.snd (Prod.snd r)), sd + Prod.snd (Prod.snd (Prod.snd r))) (List.drop (Int.toNat (i + (1 : Int))) l)) -> (∀ (x : List Go.P8.R4), Go.P8.chs (Int.toNat nn - (n
 + (1 : Nat))) (sa + Prod.fst r, sb + Prod.fst (Prod.snd r), sc + Prod.fst (Prod.snd (Prod.snd r)), sd + Prod.snd (Prod.snd (Prod.snd r))) (List.drop (Int.toNat (i + (1 : Int))) l) = Option.some x -> fo' = List.take (n + (1 : Nat)) ys ++ x)
 -> Go.Lom.fork b (Go.Lom.req (Nat.ble n (List.length z)) (Q Go.Lom.AX.ret (Go.Lom.stS (5 : Nat) Go.P8.sh98r ((z, n), nn, fo', l, ((), (), (), (), (), ()), Bool.true, ())))) (v98T c z n nn fo' l sa sb sc sd i Q))))))))))) (Go.Lom.req
 (Nat.ble n (List.length z)) (Q (Go.Lom.AX.exit (0 : Nat)) (Go.Lom.stS (5 : Nat) Go.P8.sh98e ((z, n), nn, fo, l, ((), (), (), (), (), ()), ()))))))) := by kernel_rfl
theorem v98F (c : Nat) (i : Int) (z : List R4) (n : Nat) (sa sb sc sd nn : Int) (fo l : List R4) (K : post98.den -> Prop) : (xfn2 Try.prog { nm := true, ip := true, f2 := [(99, fc99)], l2 := [(98, 0, lc98 c)] } 5 98 (fc98 (c + 1)) (i, (z,
 n), (sa, sb, sc, sd), nn, fo, l, ((), (), (), (), (), ()), ()) K) = (Go.Lom.fork ((↑n : Int) == nn) (Go.Lom.req (Decidable.decide ((0 : Nat) + n <= List.length z)) (List.length (Go.Lom.seg (0 : Nat) n z) <= (1000 : Nat) /\ ∀ (r : List
 Go.P8.R4), r = Go.Lom.seg (0 : Nat) n z -> Go.Lom.req (Nat.ble n (List.length z)) (Go.Lom.req (Decidable.decide ((0 : Nat) + List.length r <= List.length r)) (K ((), (z, n), (), nn, Go.Lom.seg (0 : Nat) (List.length r) r, l, ((), (), (), (),
 (), ()), sa == (0 : Int) && (sb == (0 : Int) && (sc == (0 : Int) && (sd == (0 : Int) && Bool.true))), ()))))) (Go.Lom.req (Nat.ble n (List.length z)) ((Go.P8.okZ (z, n) nn l (sa, sb, sc, sd) /\ (↑n : Int) < nn /\ nn <= (↑n : Go.Lom.SV.den
 (Go.Lom.SV.slot (3 : Nat) (Go.Lom.SV.box (1 : Nat) (Go.Lom.SV.v Go.P8.I)))) + (↑c : Go.Lom.SV.den (Go.Lom.SV.slot (3 : Nat) (Go.Lom.SV.box (1 : Nat) (Go.Lom.SV.v Go.P8.I)))) /\ (0 : Go.Lom.SV.den (Go.Lom.SV.slot (11 : Nat) (Go.Lom.SV.v
 Go.P8.I))) <= i /\ i <= (↑(List.length l) : Go.Lom.SV.den (Go.Lom.SV.slot (11 : Nat) (Go.Lom.SV.v Go.P8.I)))) /\ (Go.P8.chs (Int.toNat nn - n) (sa, sb, sc, sd) (List.drop (Int.toNat i) l) = Option.none -> ∀ (z' fo' : List Go.P8.R4), List.take n
 z' = List.take n z -> n <= List.length z' -> Go.Lom.req (Nat.ble n (List.length z')) (K ((), (z', n), (), nn, fo', l, ((), (), (), (), (), ()), Bool.false, ()))) /\ ∀ (x : List Go.P8.R4), Go.P8.chs (Int.toNat nn - n) (sa, sb, sc, sd)
 (List.drop (Int.toNat i) l) = Option.some x -> ∀ (z' : List Go.P8.R4), List.take n z' = List.take n z -> n <= List.length z' -> Go.Lom.req (Nat.ble n (List.length z')) (K ((), (z', n), (), nn, List.take n z ++ x, l, ((), (), (), (), (), ()),
 Bool.true, ()))))) := by kernel_rfl
abbrev fc72 : FC := ⟨[.v LR4, .v I], [LR4], fun x K => (x.1.length <= 100 /\ (∀ r ∈ x.1, smR 1 r) /\ 0 <= x.2.1 /\ x.2.1 <= 12) /\ ∀ r : List R4, r = chosenT x.1 x.2.1 -> K (r, ())⟩
theorem v72F (l : List R4) (n : Int) (K : dens [LR4] -> Prop) : (xfn1 Try.prog { nm := true, ip := true, f2 := [(98, fc98 13)] } 5 72 fc72 (l, n, ()) K) = ((Go.P8.okZ ([], (0 : Nat)) n l ((0 : Int), (0 : Int), (0 : Int), (0 : Int)) /\ n <
 (↑(0 : Nat) : Go.Lom.SV.den (Go.Lom.SV.box (1 : Nat) (Go.Lom.SV.v Go.P8.I))) + (↑(13 : Nat) : Go.Lom.SV.den (Go.Lom.SV.box (1 : Nat) (Go.Lom.SV.v Go.P8.I))) /\ (0 : Go.Lom.SV.den (Go.Lom.SV.v Go.P8.I)) <= (0 : Int) /\ (0 : Int) <=
 (↑(List.length l) : Go.Lom.SV.den (Go.Lom.SV.v Go.P8.I))) /\ ∀ (z' fo' : List Go.P8.R4) (b : Bool), List.take (0 : Nat) z' = List.take (0 : Nat) [] -> (0 : Nat) <= List.length z' -> b = Option.isSome (Go.P8.chs (Int.toNat n) ((0 : Int), (0 :
 Int), (0 : Int), (0 : Int)) (List.drop (0 : Nat) l)) -> (∀ (x : List Go.P8.R4), Go.P8.chs (Int.toNat n) ((0 : Int), (0 : Int), (0 : Int), (0 : Int)) (List.drop (0 : Nat) l) = Option.some x -> fo' = List.take (0 : Nat) [] ++ x) -> Go.Lom.fork
 (!b) (K ([], ())) (K (fo', ()))) := by kernel_rfl
def coinsT (n : Int) (m : Int) : List R4 := if m <= 0 then [] else chosenT (sidesT m.toNat) n
def manyT (n : Int) : Int := if n = 3 then 2 else 3
abbrev sh37 : SV := S [(0, .v I), (4, .v I), (5, .v LR4)]
abbrev sh37e : SV := S [(4, .v I), (5, .v LR4)]
abbrev lc37 : LC2 := ⟨0, sh37, 0, fun (n, m, cs, _) Q => ((3 <= n /\ n <= 12) /\ (0 <= m /\ m <= manyT n) /\ cs = coinsT n m) /\ Q (.exit 0) (stS 0 sh37e (manyT n, coinsT n (manyT n), ()))⟩
theorem v37L (n m : Int) (cs : List R4) (Q : AX -> St -> Prop) : (xloop2 Try.prog { nm := true, f := [(73, fc73), (72, fc72)] } 5 37 0 lc37 (fun _ => some (sh37e, 0)) (fun (n, m, _) => (4 - m).toNat) (n, m, cs, ()) Q) =
 (fork (decide ((↑(cs.length) : Int) < n)) (req (inR IntKind.i64 (m + 1)) (((1 : AT.den (AT.v I)) <= m + 1 /\ m + 1 <= (3 : AT.den (AT.v I))) /\ ∀ (r : List R4), r = sidesT (Int.toNat (m + 1)) -> (r.length <= 100 /\ (∀ (r_1 :
 Ty.den TR4), r_1 ∈ r -> smR (1 : Int) r_1) /\ (0 : AT.den (AT.v I)) <= n /\ n <= (12 : AT.den (AT.v I))) /\ ∀ (r_1 : List R4), r_1 = chosenT r n -> Int.toNat ((4 : SV.den (SV.slot 4 (SV.v I))) - (m + 1)) < Int.toNat ((4 : SV.den
 (SV.slot 4 (SV.v I))) - m) /\ LC2.spec lc37 (n, m + 1, r_1, ()) Q)) (Q (AX.exit 0) (stS 0 sh37e (m, cs, ())))) := by kernel_rfl
def cellR (r : R4) (i : Int) : Int := if i = 0 then r.1 else if i = 1 then r.2.1 else if i = 2 then r.2.2.1 else r.2.2.2
def colT (cs : List R4) (j : Int) : List Int := cs.map (cellR · j)
abbrev sh37ce : SV := S [(5, .v LR4), (6, .own 0 L), (7, .v I), (8, .own 1 I), (24, .v I), (25, .v I)]
abbrev lc37c : LC2 := ⟨0, S [(5, .v LR4), (6, .own 0 L), (7, .v I), (8, .own 1 I), (24, .v I), (25, .v I), (28, .v LR4), (29, .v I), (30, .v I)], 2, fun (cs0, pl, j, o, m, i, cs, k, a, _) Q => ((0 <= j /\ j <= 2) /\ k = cs.length /\ cs.length <= 12 /\ (0 <= a /\ a <= cs.length) /\ (o.length : Int) <= a) /\ Q (.exit 4) (stS 2 sh37ce (cs0, pl, j, o ++ colT (cs.drop a.toNat) j, m, i, ()))⟩
theorem v37C0 (cs0 cs : List R4) (pl : List (List Int)) (o : List Int) (m i k a : Int) (Q : AX -> St -> Prop) : (xloop2 Try.prog { nm := true, fz := true } 5 37 2 lc37c (fun _ => some (sh37ce, 2)) (fun (_, _, _, _, _, _, cs, _, a, _) => mL cs a) (cs0, pl, 0, o, m, i, cs, k, a, ()) Q) =
 (fork (decide (a < k)) (req (decide ((0 : Int) <= a /\ a < (↑(cs.length) : Int))) (req (decide (0 + o.length <= o.length)) (req (fitsN (o.length + 1) 8) (∀ (ys : List (Ty.den (Ty.i IntKind.i64))), ys = seg 0 (o.length) o ++
 [(List.getD cs (Int.toNat a) ((0 : Int), (0 : Int), (0 : Int), (0 : Int))).1] -> req (inR IntKind.i64 (a + 1)) (req (decide (0 + pl.length <= pl.length)) (req (decide (0 + (o.length + 1) <= ys.length)) (mL cs (a + 1) < mL cs
 a /\ LC2.spec lc37c (cs0, seg 0 (pl.length) pl, (0 : SV.den (SV.slot 7 (SV.v I))), seg 0 (o.length + 1) ys, m, i, cs, k, a + 1, ()) Q))))))) (req (decide (0 + pl.length <= pl.length)) (req (decide (0 + o.length <= o.length))
 (Q (AX.exit 4) (stS 2 sh37ce (cs0, seg 0 (pl.length) pl, (0 : SV.den (SV.slot 7 (SV.v I))), seg 0 (o.length) o, m, i, ())))))) := by kernel_rfl
theorem v37C1 (cs0 cs : List R4) (pl : List (List Int)) (o : List Int) (m i k a : Int) (Q : AX -> St -> Prop) : (xloop2 Try.prog { nm := true, fz := true } 5 37 2 lc37c (fun _ => some (sh37ce, 2)) (fun (_, _, _, _, _, _, cs, _, a, _) => mL cs a) (cs0, pl, 1, o, m, i, cs, k, a, ()) Q) =
 (fork (decide (a < k)) (req (decide ((0 : Int) <= a /\ a < (↑(cs.length) : Int))) (req (decide (0 + o.length <= o.length)) (req (fitsN (o.length + 1) 8) (∀ (ys : List (Ty.den (Ty.i IntKind.i64))), ys = seg 0 (o.length) o ++
 [(List.getD cs (Int.toNat a) ((0 : Int), (0 : Int), (0 : Int), (0 : Int))).2.1] -> req (inR IntKind.i64 (a + 1)) (req (decide (0 + pl.length <= pl.length)) (req (decide (0 + (o.length + 1) <= ys.length)) (mL cs (a + 1) < mL
 cs a /\ LC2.spec lc37c (cs0, seg 0 (pl.length) pl, (1 : SV.den (SV.slot 7 (SV.v I))), seg 0 (o.length + 1) ys, m, i, cs, k, a + 1, ()) Q))))))) (req (decide (0 + pl.length <= pl.length)) (req (decide (0 + o.length <=
 o.length)) (Q (AX.exit 4) (stS 2 sh37ce (cs0, seg 0 (pl.length) pl, (1 : SV.den (SV.slot 7 (SV.v I))), seg 0 (o.length) o, m, i, ())))))) := by kernel_rfl
theorem v37C2 (cs0 cs : List R4) (pl : List (List Int)) (o : List Int) (m i k a : Int) (Q : AX -> St -> Prop) : (xloop2 Try.prog { nm := true, fz := true } 5 37 2 lc37c (fun _ => some (sh37ce, 2)) (fun (_, _, _, _, _, _, cs, _, a, _) => mL cs a) (cs0, pl, 2, o, m, i, cs, k, a, ()) Q) =
 (fork (decide (a < k)) (req (decide ((0 : Int) <= a /\ a < (↑(cs.length) : Int))) (req (decide (0 + o.length <= o.length)) (req (fitsN (o.length + 1) 8) (∀ (ys : List (Ty.den (Ty.i IntKind.i64))), ys = seg 0 (o.length) o ++
 [(List.getD cs (Int.toNat a) ((0 : Int), (0 : Int), (0 : Int), (0 : Int))).2.2.1] -> req (inR IntKind.i64 (a + 1)) (req (decide (0 + pl.length <= pl.length)) (req (decide (0 + (o.length + 1) <= ys.length)) (mL cs (a + 1) <
 mL cs a /\ LC2.spec lc37c (cs0, seg 0 (pl.length) pl, (2 : SV.den (SV.slot 7 (SV.v I))), seg 0 (o.length + 1) ys, m, i, cs, k, a + 1, ()) Q))))))) (req (decide (0 + pl.length <= pl.length)) (req (decide (0 + o.length <=
 o.length)) (Q (AX.exit 4) (stS 2 sh37ce (cs0, seg 0 (pl.length) pl, (2 : SV.den (SV.slot 7 (SV.v I))), seg 0 (o.length) o, m, i, ())))))) := by kernel_rfl
def rowsT (cs : List R4) (i m : Int) : List (List Int) := (List.range' i.toNat (m - i).toNat).map fun j : Nat => cs.map (cellR · (j : Int))
abbrev sh37b : SV := S [(5, .v LR4), (6, .own 0 L), (24, .v I), (25, .v I)]
abbrev sh37be : SV := S [(6, .own 0 L)]
abbrev lc37b : LC2 := ⟨0, sh37b, 1, fun (cs, pl, m, i, _) Q => (cs.length <= 12 /\ (0 <= i /\ i <= m /\ m <= 3) /\ (pl.length : Int) <= i) /\ Q (.exit 2) (stS 1 sh37be (pl ++ rowsT cs i m, ()))⟩
theorem v37B (cs : List R4) (pl : List (List Int)) (m i : Int) (Q : AX -> St -> Prop) : (xloop2 Try.prog { nm := true, fz := true, l2 := [(37, 2, lc37c)] } 5 37 1 lc37b (fun _ => some (sh37be, 1)) (fun (_, _, m, i, _) => (m - i).toNat) (cs, pl, m, i, ()) Q) =
 (fork (decide (i < m)) (req (decide (0 + pl.length <= pl.length)) ((((0 : SV.den (SV.slot 7 (SV.v I))) <= i /\ i <= (2 : SV.den (SV.slot 7 (SV.v I)))) /\ (↑(cs.length) : Int) = (↑(cs.length) : SV.den (SV.slot 29 (SV.v I))) /\
 cs.length <= 12 /\ ((0 : SV.den (SV.slot 30 (SV.v I))) <= (0 : Int) /\ (0 : Int) <= (↑(cs.length) : SV.den (SV.slot 30 (SV.v I)))) /\ (0 : Int) <= (0 : Int)) /\ req (decide (0 + List.length ([] ++ colT (List.drop 0 cs) i) <=
 List.length ([] ++ colT (List.drop 0 cs) i))) (req (decide (0 + List.length ([] ++ colT (List.drop 0 cs) i) <= List.length ([] ++ colT (List.drop 0 cs) i))) (req (decide (0 + List.length (seg 0 (pl.length) pl) <=
 List.length (seg 0 (pl.length) pl))) (req (fitsN (List.length (seg 0 (pl.length) pl) + 1) 24) (∀ (ys : List (Ty.den (Ty.sl (Ty.i IntKind.i64)))), ys = seg 0 (List.length (seg 0 (pl.length) pl)) (seg 0 (pl.length) pl) ++
 [seg 0 (List.length ([] ++ colT (List.drop 0 cs) i)) ([] ++ colT (List.drop 0 cs) i)] -> req (inR IntKind.i64 (i + 1)) (req (decide (0 + (List.length (seg 0 (pl.length) pl) + 1) <= ys.length)) (Int.toNat (m - (i + 1)) <
 Int.toNat (m - i) /\ LC2.spec lc37b (cs, seg 0 (List.length (seg 0 (pl.length) pl) + 1) ys, m, i + 1, ()) Q)))))))) (req (decide (0 + pl.length <= pl.length)) (Q (AX.exit 2) (stS 1 sh37be (seg 0 (pl.length) pl, ()))))) := by kernel_rfl
def weighT (n : Int) : List (List Int) := rowsT (coinsT n (manyT n)) 0 (manyT n)
abbrev fc37 : FC := ⟨[.v I], [LL, E], fun x K => True /\ ∀ (r : List (List Int)) (e : Int), (r, e) = (if 3 <= x.1 /\ x.1 <= 12 then (weighT x.1, 0) else ([], 7)) -> K (r, e, ())⟩
theorem v37F (n : Int) (K : dens [LL, E] -> Prop) : (xfn1 Try.prog { nm := true, fz := true, l2 := [(37, 0, lc37), (37, 1, lc37b)] } 5 37 fc37 (n, ()) K) =
 (fork (decide (n >= (3 : Int))) (fork (!decide (n <= (12 : Int))) (K ([], (7 : Int), ())) ((((3 : SV.den (SV.slot 0 (SV.v I))) <= n /\ n <= (12 : SV.den (SV.slot 0 (SV.v I)))) /\ ((0 : SV.den (SV.slot 4 (SV.v I))) <= (0 : Int) /\
 (0 : Int) <= manyT n) /\ [] = coinsT n (0 : Int)) /\ (List.length (coinsT n (manyT n)) <= 12 /\ ((0 : SV.den (SV.slot 25 (SV.v I))) <= (0 : Int) /\ (0 : Int) <= manyT n /\ manyT n <= (3 : SV.den (SV.slot 24 (SV.v I)))) /\ (0 : Int)
 <= (0 : Int)) /\ req (decide (0 + List.length ([] ++ rowsT (coinsT n (manyT n)) (0 : Int) (manyT n)) <= List.length ([] ++ rowsT (coinsT n (manyT n)) (0 : Int) (manyT n)))) (K (seg 0 (List.length ([] ++ rowsT (coinsT n
 (manyT n)) (0 : Int) (manyT n))) ([] ++ rowsT (coinsT n (manyT n)) (0 : Int) (manyT n)), (0 : Int), ())))) (K ([], (7 : Int), ()))) := by kernel_rfl
end Go.P8
