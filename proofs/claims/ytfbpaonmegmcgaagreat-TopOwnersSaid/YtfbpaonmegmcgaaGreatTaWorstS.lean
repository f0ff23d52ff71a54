/- Funds: the worst run: states and what is to be shown, reduced. No conditions. -/
import Derived.Test.YtfbpaonmegmcgaaGreatTaRunS
set_option linter.all false
set_option maxRecDepth 100000
set_option maxHeartbeats 2000000
namespace Go.P9
open Go.Lom Go.Proofs Go
def posI (x : Int) : Int := if x > 0 then x else 0
def minI (a b : Int) : Int := if b < a then b else a
def tkI (g : Grp) (st day : Int) : Int := if 0 <= st then minI g.1 (g.2.1 * posI (day - st - g.2.2 + 1)) else 0
def tkSum (gs : List Grp) (s : List Int) (day : Int) (i : Int) : Int := (((List.range gs.length).drop i.toNat).map fun k : Nat => tkI (gs.getD k (0, 0, 0)) (s.getD k 0) day).sum
def takenL (f : Fd) (l : List Int) (day : Int) : Int := tkSum (fGroups f) (startsL f l) day 0
abbrev sh82 : SV := S [(2, .v I), (3, bF), (7, .arr 1 I), (8, .v I), (17, .v I), (18, .v I)]
abbrev sh82e : SV := S [(8, .v I)]
def s82 (day : Int) (f : Fd) (s : List Int) (n m i : Int) (Q : LQ) : Prop :=
 (okF f = true /\ 0 <= i /\ i <= (fGroups f).length /\ m = (fGroups f).length /\ s.length = 8 /\ (∀ k : Int, 0 <= k -> k < (fGroups f).length -> sOk s k) /\ 0 <= day /\ day <= 12 /\ 0 <= n /\ n <= 1073741824 * i) /\
 Q (.exit 0) (stS 0 sh82e (n + tkSum (fGroups f) s day i, ()))
abbrev lc82 : LC2 := ⟨0, sh82, 2, fun (day, f, s, n, m, i, _) Q => s82 day f s n m i Q⟩
theorem v82L (day : Int) (f : Fd) (s : List Int) (n m i : Int) (Q : AX -> St -> Prop) : (xloop2 Tryz.prog {} 5 54 0 lc82 (fun _ => some (sh82e, 0)) (fun (_, f, _, _, _, i, _) => mL (fGroups f) i) (day, f, s, n, m, i, ()) Q) =
 (fork (decide (i < m)) (req (decide ((0 : Int) <= i /\ i < (↑(List.length (f.2.2.2.2.2.1)) : Int))) (req (decide ((0 : Int) <= i /\ i < (8 : Int))) (req (decide (0 + Int.toNat i < s.length)) (fork (decide (List.getD s (0 +
 Int.toNat i) (0 : Int) >= (0 : Int))) (req (decide ((0 : Int) <= i /\ i < (8 : Int))) (req (decide (0 + Int.toNat i < s.length)) (req (inR IntKind.i64 (day - List.getD s (0 + Int.toNat i) (0 : Int))) (req (inR IntKind.i64
 (day - List.getD s (0 + Int.toNat i) (0 : Int) - (List.getD (f.2.2.2.2.2.1) (Int.toNat i) ((0 : Int), (0 : Int), (0 : Int))).2.2)) (req (inR IntKind.i64 (day - List.getD s (0 + Int.toNat i) (0 : Int) - (List.getD
 (f.2.2.2.2.2.1) (Int.toNat i) ((0 : Int), (0 : Int), (0 : Int))).2.2 + 1)) (req (inR IntKind.i64 ((List.getD (f.2.2.2.2.2.1) (Int.toNat i) ((0 : Int), (0 : Int), (0 : Int))).2.1 * if day - List.getD s (0 + Int.toNat i) (0
 : Int) - (List.getD (f.2.2.2.2.2.1) (Int.toNat i) ((0 : Int), (0 : Int), (0 : Int))).2.2 + 1 > (0 : Int) then day - List.getD s (0 + Int.toNat i) (0 : Int) - (List.getD (f.2.2.2.2.2.1) (Int.toNat i) ((0 : Int), (0 : Int),
 (0 : Int))).2.2 + 1 else (0 : Int))) (req (inR IntKind.i64 (n + if ((List.getD (f.2.2.2.2.2.1) (Int.toNat i) ((0 : Int), (0 : Int), (0 : Int))).2.1 * if day - List.getD s (0 + Int.toNat i) (0 : Int) - (List.getD
 (f.2.2.2.2.2.1) (Int.toNat i) ((0 : Int), (0 : Int), (0 : Int))).2.2 + 1 > (0 : Int) then day - List.getD s (0 + Int.toNat i) (0 : Int) - (List.getD (f.2.2.2.2.2.1) (Int.toNat i) ((0 : Int), (0 : Int), (0 : Int))).2.2 + 1
 else (0 : Int)) < (List.getD (f.2.2.2.2.2.1) (Int.toNat i) ((0 : Int), (0 : Int), (0 : Int))).1 then (List.getD (f.2.2.2.2.2.1) (Int.toNat i) ((0 : Int), (0 : Int), (0 : Int))).2.1 * if day - List.getD s (0 + Int.toNat i)
 (0 : Int) - (List.getD (f.2.2.2.2.2.1) (Int.toNat i) ((0 : Int), (0 : Int), (0 : Int))).2.2 + 1 > (0 : Int) then day - List.getD s (0 + Int.toNat i) (0 : Int) - (List.getD (f.2.2.2.2.2.1) (Int.toNat i) ((0 : Int), (0 :
 Int), (0 : Int))).2.2 + 1 else (0 : Int) else (List.getD (f.2.2.2.2.2.1) (Int.toNat i) ((0 : Int), (0 : Int), (0 : Int))).1)) (req (inR IntKind.i64 (i + 1)) (mL (fGroups f) (i + 1) < mL (fGroups f) i /\ LC2.spec lc82 (day,
 f, s, n + if ((List.getD (f.2.2.2.2.2.1) (Int.toNat i) ((0 : Int), (0 : Int), (0 : Int))).2.1 * if day - List.getD s (0 + Int.toNat i) (0 : Int) - (List.getD (f.2.2.2.2.2.1) (Int.toNat i) ((0 : Int), (0 : Int), (0 :
 Int))).2.2 + 1 > (0 : Int) then day - List.getD s (0 + Int.toNat i) (0 : Int) - (List.getD (f.2.2.2.2.2.1) (Int.toNat i) ((0 : Int), (0 : Int), (0 : Int))).2.2 + 1 else (0 : Int)) < (List.getD (f.2.2.2.2.2.1) (Int.toNat
 i) ((0 : Int), (0 : Int), (0 : Int))).1 then (List.getD (f.2.2.2.2.2.1) (Int.toNat i) ((0 : Int), (0 : Int), (0 : Int))).2.1 * if day - List.getD s (0 + Int.toNat i) (0 : Int) - (List.getD (f.2.2.2.2.2.1) (Int.toNat i)
 ((0 : Int), (0 : Int), (0 : Int))).2.2 + 1 > (0 : Int) then day - List.getD s (0 + Int.toNat i) (0 : Int) - (List.getD (f.2.2.2.2.2.1) (Int.toNat i) ((0 : Int), (0 : Int), (0 : Int))).2.2 + 1 else (0 : Int) else
 (List.getD (f.2.2.2.2.2.1) (Int.toNat i) ((0 : Int), (0 : Int), (0 : Int))).1, m, i + 1, ()) Q))))))))) (req (inR IntKind.i64 (i + 1)) (mL (fGroups f) (i + 1) < mL (fGroups f) i /\ LC2.spec lc82 (day, f, s, n, m, i + 1,
 ()) Q)))))) (Q (AX.exit 0) (stS 0 sh82e (n, ())))) := by kernel_rfl
abbrev fc82 : FC := ⟨[.v TF, .v L, .v I], [I], fun x K => (okF x.1 = true /\ listsB (fGroups x.1).length x.2.1 0 = true /\ x.2.1.length <= 9223372036854775807 /\ 0 <= x.2.2.1 /\ x.2.2.1 <= 12) /\ K (takenL x.1 x.2.1 x.2.2.1, ())⟩
theorem v82F (f : Fd) (l : List Int) (day : Int) (K : dens [I] -> Prop) : (xfn1 Tryz.prog { f := [(34, fc66)], l2 := [(54, 0, lc82)] } 5 54 fc82 (f, l, day, ()) K) =
 ((okF f = true /\ l.length <= 9223372036854775807 /\ inGrp f l) /\ ∀ (r : List Int), r.length = 8 -> List.take (List.length (fGroups f)) r = startsL f l -> req (decide (r.length = 8)) (req (decide (r.length = 8)) ((okF f = true
 /\ (0 : Int) <= (0 : Int) /\ (0 : Int) <= (↑(List.length (fGroups f)) : Int) /\ (↑(List.length (f.2.2.2.2.2.1)) : Int) = (↑(List.length (fGroups f)) : Int) /\ r.length = 8 /\ (∀ (k : Int), (0 : Int) <= k -> k < (↑(List.length
 (fGroups f)) : Int) -> sOk r k) /\ (0 : Int) <= day /\ day <= (12 : Int) /\ (0 : Int) <= (0 : Int) /\ (0 : Int) <= (0 : Int)) /\ K ((0 : Int) + tkSum (fGroups f) r day (0 : Int), ())))) := by kernel_rfl
def restV (n b : Nat) : Nat -> List Int -> List (List Int)
 | 0, _ => []
 | k + 1, l => if l.length < b then (l ++ [(n : Int) - k - 1]) :: (restV n b k (l ++ [(n : Int) - k - 1]) ++ restV n b k l) else []
def updW (f : Fd) (day : Int) (x : List Int × Int) (l : List Int) : List Int × Int := if takenL f l day > x.2 then (l, takenL f l day) else x
def runW (f : Fd) (day : Int) (x : List Int × Int) (ls : List (List Int)) : List Int × Int := ls.foldl (updW f day) x
@[reducible] def A : List SV -> SV
 | [] => .nil
 | p :: l => .cons p (A l)
abbrev FWs : SV := S [(2, .box 4 (.v TF)), (3, .box 5 (.v I)), (6, .box 6 (.v L)), (7, .box 7 (.v I))]
abbrev Wd := (Fd × Int × List Int × Int × Unit) × Rng
abbrev clV : SV := .fn 76 .nil (A [.ref 0, .ref 2, .ref 3])
abbrev Cl := Unit × Unit × Unit × Unit × Unit
abbrev mkW (rg : Rng) (f : Fd) (day : Int) (x : List Int × Int) : Wd := ((f, day, x.1, x.2, ()), rg)
def okV (f : Fd) (day : Int) (l : List Int) (i : Int) : Prop :=
 okF f = true /\ 0 <= day /\ day <= 12 /\ 0 <= i /\ i <= (fGroups f).length /\ listsB (fGroups f).length l 0 = true /\ (∀ x ∈ l, x < i) /\ (l.length : Int) <= fBegin f
def kV (f : Fd) (i : Int) : Nat := (fGroups f).length - i.toNat
abbrev sh87 : SV := S [(0, .v L), (2, .box 0 (.yf 1 FWs)), (3, .box 2 (.v TF)), (4, .box 3 clV), (8, .v I)]
abbrev sh87e : SV := S [(2, .box 0 (.yf 1 FWs)), (3, .box 2 (.v TF)), (4, .box 3 clV)]
abbrev dW (w : Wd) : Int := w.1.2.1
abbrev xW (w : Wd) : List Int × Int := (w.1.2.2.1, w.1.2.2.2.1)
def isW (f : Fd) (w : Wd) : Prop := w.1.1 = f /\ w.2 = rngOf Tryz.prog 38 0
def s87 (c : Nat) (l : List Int) (w : Wd) (f : Fd) (u : Cl) (i : Int) (Q : LQ) : Prop := (isW f w /\ okV f (dW w) l i /\ kV f i <= c) /\
 Q (.exit 0) (stS 8 sh87e (mkW (rngOf Tryz.prog 38 0) f (dW w) (runW f (dW w) (xW w) (restV (fGroups f).length (fBegin f).toNat (kV f i) l)), f, u, ()))
abbrev lc87 (c : Nat) : LC2 := ⟨8, sh87, 8, fun (l, w, f, u, i, _) Q => s87 c l w f u i Q⟩
abbrev pre87 : SV := A [.v L, .v I, .box 0 (.yf 1 FWs), .box 2 (.v TF), .box 3 clV]
abbrev post87 : SV := A [.any, .any, .box 0 (.yf 1 FWs), .box 2 (.v TF), .box 3 clV, .v .b]
def sV (c : Nat) (l : List Int) (i : Int) (w : Wd) (f : Fd) (u : Cl) (K : post87.den -> Prop) : Prop := (isW f w /\ okV f (dW w) l i /\ kV f i < c) /\
 K ((), (), mkW (rngOf Tryz.prog 38 0) f (dW w) (runW f (dW w) (xW w) (l :: restV (fGroups f).length (fBegin f).toNat (kV f i) l)), f, u, true, ())
abbrev fc87 (c : Nat) : FC2 := ⟨pre87, 8, post87, 8, fun (l, i, w, f, u, _) K => sV c l i w f u K⟩
abbrev fcClone2 : FC2 := ⟨A [.v L], 0, A [.any, .own 0 I], 1, fun (l, _) K => l.length <= 1000000 /\ K ((), l, ())⟩
theorem v67G (l : List Int) (K : SV.den (A [.any, .own 0 I]) -> Prop) : (xfn2 Tryz.prog {} 5 77 fcClone2 (l, ()) K) =
 (∀ (b : Bool), (b = true -> l.length = 0) -> fork b (K ((), [], ())) (req (fitsN (0 + l.length) 8) (req (decide (0 + (0 + l.length) <= List.length (seg 0 0 [] ++ l))) (K ((), seg 0 (0 + l.length) (seg 0 0 [] ++ l), ()))))) := by kernel_rfl
theorem v87L (c : Nat) (l : List Int) (f : Fd) (day : Int) (best : List Int) (most : Int) (i : Int) (Q : AX -> St -> Prop) : (xloop2 Tryz.prog { f2 := [(76, fc87 c), (77, fcClone2)] } 5 76 0 (lc87 c) (fun _ => some (sh87e, 8)) (fun (_, _, f, _, i, _) => mL (fGroups f) i) (l, ((f, day, best, most, ()), rngOf Tryz.prog 38 0), f, ((), (), (), (), ()), i, ()) Q) =
 (fork (decide (i < (↑(List.length (f.2.2.2.2.2.1)) : Int))) (fork (decide ((↑(l.length) : Int) < f.2.2.2.2.2.2.2.1)) (req (inR IntKind.i64 (i + 1)) (l.length <= 1000000 /\ AV.fn (Go.Fn.func 76) [] [AV.ptr 0 0 0, AV.ptr 2 0
 0, AV.ptr 3 0 0] = AV.fn (Go.Fn.func 76) [] [AV.ptr 0 0 0, AV.ptr 2 0 0, AV.ptr 3 0 0] /\ req (decide (0 + l.length <= l.length)) (req (fitsN (l.length + List.length [i]) 8) (AV.fn (Go.Fn.func 76) [] [AV.ptr 0 0 0, AV.ptr 2
 0 0, AV.ptr 3 0 0] = AV.fn (Go.Fn.func 76) [] [AV.ptr 0 0 0, AV.ptr 2 0 0, AV.ptr 3 0 0] /\ req (decide (0 + (l.length + List.length [i]) <= List.length (seg 0 (l.length) l ++ [i]))) ((isW f ((f, day, best, most, ()), rngOf
 Go.Proofs.Tryz.prog 38 0) /\ okV f day (seg 0 (l.length + List.length [i]) (seg 0 (l.length) l ++ [i])) (i + 1) /\ kV f (i + 1) < c) /\ req (inR IntKind.i64 (i + 1)) (mL (fGroups f) (i + 1) < mL (fGroups f) i /\ LC2.spec
 (lc87 c) (l, (((((f, day, (runW f day (best, most) (seg 0 (l.length + List.length [i]) (seg 0 (l.length) l ++ [i]) :: restV (List.length (fGroups f)) (Int.toNat (fBegin f)) (kV f (i + 1)) (seg 0 (l.length + List.length
 [i]) (seg 0 (l.length) l ++ [i])))).1, (runW f day (best, most) (seg 0 (l.length + List.length [i]) (seg 0 (l.length) l ++ [i]) :: restV (List.length (fGroups f)) (Int.toNat (fBegin f)) (kV f (i + 1)) (seg 0 (l.length +
 List.length [i]) (seg 0 (l.length) l ++ [i])))).2, ()), rngOf Go.Proofs.Tryz.prog 38 0).1).1, ((((f, day, (runW f day (best, most) (seg 0 (l.length + List.length [i]) (seg 0 (l.length) l ++ [i]) :: restV (List.length
 (fGroups f)) (Int.toNat (fBegin f)) (kV f (i + 1)) (seg 0 (l.length + List.length [i]) (seg 0 (l.length) l ++ [i])))).1, (runW f day (best, most) (seg 0 (l.length + List.length [i]) (seg 0 (l.length) l ++ [i]) :: restV
 (List.length (fGroups f)) (Int.toNat (fBegin f)) (kV f (i + 1)) (seg 0 (l.length + List.length [i]) (seg 0 (l.length) l ++ [i])))).2, ()), rngOf Go.Proofs.Tryz.prog 38 0).1).2).1, (((((f, day, (runW f day (best, most)
 (seg 0 (l.length + List.length [i]) (seg 0 (l.length) l ++ [i]) :: restV (List.length (fGroups f)) (Int.toNat (fBegin f)) (kV f (i + 1)) (seg 0 (l.length + List.length [i]) (seg 0 (l.length) l ++ [i])))).1, (runW f day
 (best, most) (seg 0 (l.length + List.length [i]) (seg 0 (l.length) l ++ [i]) :: restV (List.length (fGroups f)) (Int.toNat (fBegin f)) (kV f (i + 1)) (seg 0 (l.length + List.length [i]) (seg 0 (l.length) l ++ [i])))).2,
 ()), rngOf Go.Proofs.Tryz.prog 38 0).1).2).2).1, ((((((f, day, (runW f day (best, most) (seg 0 (l.length + List.length [i]) (seg 0 (l.length) l ++ [i]) :: restV (List.length (fGroups f)) (Int.toNat (fBegin f)) (kV f (i +
 1)) (seg 0 (l.length + List.length [i]) (seg 0 (l.length) l ++ [i])))).1, (runW f day (best, most) (seg 0 (l.length + List.length [i]) (seg 0 (l.length) l ++ [i]) :: restV (List.length (fGroups f)) (Int.toNat (fBegin f))
 (kV f (i + 1)) (seg 0 (l.length + List.length [i]) (seg 0 (l.length) l ++ [i])))).2, ()), rngOf Go.Proofs.Tryz.prog 38 0).1).2).2).2).1, ()), rngOf Go.Proofs.Tryz.prog 38 0), f, ((), (), (), (), ()), i + 1, ()) Q)))))) (Q
 (AX.exit 0) (stS 8 sh87e (((f, day, best, most, ()), rngOf Go.Proofs.Tryz.prog 38 0), f, ((), (), (), (), ()), ())))) (Q (AX.exit 0) (stS 8 sh87e (((f, day, best, most, ()), rngOf Go.Proofs.Tryz.prog 38 0), f, ((), (),
 (), (), ()), ())))) := by kernel_rfl
theorem v87F (c : Nat) (l : List Int) (f : Fd) (day : Int) (best : List Int) (most : Int) (i : Int) (K : post87.den -> Prop) : (xfn2 Tryz.prog { f := [(54, fc82)], l2 := [(76, 0, lc87 c)] } 5 76 (fc87 (c + 1)) (l, i, ((f, day, best, most, ()), rngOf Tryz.prog 38 0), f, ((), (), (), (), ()), ()) K) =
 ((okF f = true /\ listsB (List.length (fGroups f)) l (0 : Int) = true /\ l.length <= 9223372036854775807 /\ (0 : AT.den (AT.v I)) <= day /\ day <= (12 : AT.den (AT.v I))) /\ fork (decide (takenL f l day > most)) ((isW f ((f, day,
 l, takenL f l day, ()), rngOf Go.Proofs.Tryz.prog 38 0) /\ okV f day l i /\ kV f i <= c) /\ K ((), (), (((((f, day, (runW f day (l, takenL f l day) (restV (List.length (fGroups f)) (Int.toNat (fBegin f)) (kV f i) l)).1, (runW
 f day (l, takenL f l day) (restV (List.length (fGroups f)) (Int.toNat (fBegin f)) (kV f i) l)).2, ()), rngOf Go.Proofs.Tryz.prog 38 0).1).1, ((((f, day, (runW f day (l, takenL f l day) (restV (List.length (fGroups f))
 (Int.toNat (fBegin f)) (kV f i) l)).1, (runW f day (l, takenL f l day) (restV (List.length (fGroups f)) (Int.toNat (fBegin f)) (kV f i) l)).2, ()), rngOf Go.Proofs.Tryz.prog 38 0).1).2).1, (((((f, day, (runW f day (l,
 takenL f l day) (restV (List.length (fGroups f)) (Int.toNat (fBegin f)) (kV f i) l)).1, (runW f day (l, takenL f l day) (restV (List.length (fGroups f)) (Int.toNat (fBegin f)) (kV f i) l)).2, ()), rngOf
 Go.Proofs.Tryz.prog 38 0).1).2).2).1, ((((((f, day, (runW f day (l, takenL f l day) (restV (List.length (fGroups f)) (Int.toNat (fBegin f)) (kV f i) l)).1, (runW f day (l, takenL f l day) (restV (List.length (fGroups f))
 (Int.toNat (fBegin f)) (kV f i) l)).2, ()), rngOf Go.Proofs.Tryz.prog 38 0).1).2).2).2).1, ()), rngOf Go.Proofs.Tryz.prog 38 0), f, ((), (), (), (), ()), true, ())) ((isW f ((f, day, best, most, ()), rngOf
 Go.Proofs.Tryz.prog 38 0) /\ okV f day l i /\ kV f i <= c) /\ K ((), (), (((((f, day, (runW f day (best, most) (restV (List.length (fGroups f)) (Int.toNat (fBegin f)) (kV f i) l)).1, (runW f day (best, most) (restV
 (List.length (fGroups f)) (Int.toNat (fBegin f)) (kV f i) l)).2, ()), rngOf Go.Proofs.Tryz.prog 38 0).1).1, ((((f, day, (runW f day (best, most) (restV (List.length (fGroups f)) (Int.toNat (fBegin f)) (kV f i) l)).1,
 (runW f day (best, most) (restV (List.length (fGroups f)) (Int.toNat (fBegin f)) (kV f i) l)).2, ()), rngOf Go.Proofs.Tryz.prog 38 0).1).2).1, (((((f, day, (runW f day (best, most) (restV (List.length (fGroups f))
 (Int.toNat (fBegin f)) (kV f i) l)).1, (runW f day (best, most) (restV (List.length (fGroups f)) (Int.toNat (fBegin f)) (kV f i) l)).2, ()), rngOf Go.Proofs.Tryz.prog 38 0).1).2).2).1, ((((((f, day, (runW f day (best,
 most) (restV (List.length (fGroups f)) (Int.toNat (fBegin f)) (kV f i) l)).1, (runW f day (best, most) (restV (List.length (fGroups f)) (Int.toNat (fBegin f)) (kV f i) l)).2, ()), rngOf Go.Proofs.Tryz.prog 38
 0).1).2).2).2).1, ()), rngOf Go.Proofs.Tryz.prog 38 0), f, ((), (), (), (), ()), true, ()))) := by kernel_rfl
def allV (f : Fd) : List (List Int) := [] :: restV (fGroups f).length (fBegin f).toNat (fGroups f).length []
def worstW (f : Fd) (day : Int) : List Int × Int := runW f day ([], -1) (allV f)
abbrev fcWorst : FC := ⟨[.v TF, .v I], [L, I], fun x K => (okF x.1 = true /\ 0 <= x.2.1 /\ x.2.1 <= 12) /\ K ((worstW x.1 x.2.1).1, (worstW x.1 x.2.1).2, ())⟩
theorem v72F (f : Fd) (day : Int) (K : dens [L, I] -> Prop) : (xfn1 Tryz.prog { f2 := [(76, fc87 100)] } 5 38 fcWorst (f, day, ()) K) =
 ((isW f ((f, day, [], (-1 : Int), ()), rngOf Go.Proofs.Tryz.prog 38 0) /\ okV f day [] (0 : Int) /\ kV f (0 : Int) < 100) /\ K ((((((f, day, (runW f day ([], (-1 : Int)) ([] :: restV (List.length (fGroups f)) (Int.toNat
 (fBegin f)) (kV f (0 : Int)) [])).1, (runW f day ([], (-1 : Int)) ([] :: restV (List.length (fGroups f)) (Int.toNat (fBegin f)) (kV f (0 : Int)) [])).2, ()), rngOf Go.Proofs.Tryz.prog 38 0).1).2).2).1, ((((((f, day, (runW
 f day ([], (-1 : Int)) ([] :: restV (List.length (fGroups f)) (Int.toNat (fBegin f)) (kV f (0 : Int)) [])).1, (runW f day ([], (-1 : Int)) ([] :: restV (List.length (fGroups f)) (Int.toNat (fBegin f)) (kV f (0 : Int))
 [])).2, ()), rngOf Go.Proofs.Tryz.prog 38 0).1).2).2).2).1, ())) := by kernel_rfl
end Go.P9
