/- Funds: the worst run: states and what is to be shown, reduced. No conditions. -/
import Derived.Test.YtklleedcdjkpeaaRunS
set_option linter.unusedSimpArgs false
set_option linter.unusedVariables false
set_option linter.constructorNameAsVariable false
set_option maxRecDepth 100000
set_option maxHeartbeats 2000000
namespace Go.P9
open Go.Lom Go.Proofs Go

/-! what can be taken -/
def posI (x : Int) : Int := if x > 0 then x else 0
def minI (a b : Int) : Int := if b < a then b else a
def tkI (g : Grp) (st day : Int) : Int := if 0 ≤ st then minI g.1 (g.2.1 * posI (day - st - g.2.2 + 1)) else 0
/-- What groups i and on take together. -/
def tkSum (gs : List Grp) (s : List Int) (day : Int) (i : Int) : Int := (((List.range gs.length).drop i.toNat).map fun k : Nat => tkI (gs.getD k (0, 0, 0)) (s.getD k 0) day).sum
def takenL (f : Fd) (l : List Int) (day : Int) : Int := tkSum (fGroups f) (startsL f l) day 0
abbrev sh82 : SV := S [(2, .v I), (3, bF), (7, .arr 1 I), (8, .v I), (17, .v I), (18, .v I)]
abbrev sh82e : SV := S [(8, .v I)]
def s82 (day : Int) (f : Fd) (s : List Int) (n m i : Int) (Q : LQ) : Prop :=
  (okF f = true ∧ 0 ≤ i ∧ i ≤ (fGroups f).length ∧ m = (fGroups f).length ∧ s.length = 8 ∧ (∀ k : Int, 0 ≤ k → k < (fGroups f).length → sOk s k) ∧ 0 ≤ day ∧ day ≤ 12 ∧ 0 ≤ n ∧ n ≤ 1073741824 * i) ∧
  Q (.exit 0) (stS 0 sh82e (n + tkSum (fGroups f) s day i, ()))
abbrev lc82 : LC2 := ⟨0, sh82, 2, fun (day, f, s, n, m, i, _) Q => s82 day f s n m i Q⟩
theorem v82L (day : Int) (f : Fd) (s : List Int) (n m i : Int) (Q : AX → St → Prop) : (xloop2 Try.prog {} 5 82 0 lc82 (fun _ => some (sh82e, 0)) (fun (_, f, _, _, _, i, _) => mL (fGroups f) i) (day, f, s, n, m, i, ()) Q) =
(fork (decide (i < m)) (req (decide ((0 : Int) ≤ i ∧ i < (↑(List.length (Prod.fst (Prod.snd (Prod.snd (Prod.snd (Prod.snd (Prod.snd f))))))) : Int))) (req (decide ((0 : Int) ≤ i ∧ i < (8 : Int))) (req (decide ((0 : Nat)
 + Int.toNat i < List.length s)) (fork (decide (List.getD s ((0 : Nat) + Int.toNat i) (0 : Int) ≥ (0 : Int))) (req (decide ((0 : Int) ≤ i ∧ i < (8 : Int))) (req (decide ((0 : Nat) + Int.toNat i < List.length s)) (req (inR
 Go.IntKind.i64 (day - List.getD s ((0 : Nat) + Int.toNat i) (0 : Int))) (req (inR Go.IntKind.i64 (day - List.getD s ((0 : Nat) + Int.toNat i) (0 : Int) - Prod.snd (Prod.snd (List.getD (Prod.fst (Prod.snd (Prod.snd
 (Prod.snd (Prod.snd (Prod.snd f)))))) (Int.toNat i) ((0 : Int), (0 : Int), (0 : Int)))))) (req (inR Go.IntKind.i64 (day - List.getD s ((0 : Nat) + Int.toNat i) (0 : Int) - Prod.snd (Prod.snd (List.getD (Prod.fst
 (Prod.snd (Prod.snd (Prod.snd (Prod.snd (Prod.snd f)))))) (Int.toNat i) ((0 : Int), (0 : Int), (0 : Int)))) + (1 : Int))) (req (inR Go.IntKind.i64 (Prod.fst (Prod.snd (List.getD (Prod.fst (Prod.snd (Prod.snd (Prod.snd
 (Prod.snd (Prod.snd f)))))) (Int.toNat i) ((0 : Int), (0 : Int), (0 : Int)))) * if day - List.getD s ((0 : Nat) + Int.toNat i) (0 : Int) - Prod.snd (Prod.snd (List.getD (Prod.fst (Prod.snd (Prod.snd (Prod.snd (Prod.snd
 (Prod.snd f)))))) (Int.toNat i) ((0 : Int), (0 : Int), (0 : Int)))) + (1 : Int) > (0 : Int) then day - List.getD s ((0 : Nat) + Int.toNat i) (0 : Int) - Prod.snd (Prod.snd (List.getD (Prod.fst (Prod.snd (Prod.snd
 (Prod.snd (Prod.snd (Prod.snd f)))))) (Int.toNat i) ((0 : Int), (0 : Int), (0 : Int)))) + (1 : Int) else (0 : Int))) (req (inR Go.IntKind.i64 (n + if (Prod.fst (Prod.snd (List.getD (Prod.fst (Prod.snd (Prod.snd (Prod.snd
 (Prod.snd (Prod.snd f)))))) (Int.toNat i) ((0 : Int), (0 : Int), (0 : Int)))) * if day - List.getD s ((0 : Nat) + Int.toNat i) (0 : Int) - Prod.snd (Prod.snd (List.getD (Prod.fst (Prod.snd (Prod.snd (Prod.snd (Prod.snd
 (Prod.snd f)))))) (Int.toNat i) ((0 : Int), (0 : Int), (0 : Int)))) + (1 : Int) > (0 : Int) then day - List.getD s ((0 : Nat) + Int.toNat i) (0 : Int) - Prod.snd (Prod.snd (List.getD (Prod.fst (Prod.snd (Prod.snd
 (Prod.snd (Prod.snd (Prod.snd f)))))) (Int.toNat i) ((0 : Int), (0 : Int), (0 : Int)))) + (1 : Int) else (0 : Int)) < Prod.fst (List.getD (Prod.fst (Prod.snd (Prod.snd (Prod.snd (Prod.snd (Prod.snd f)))))) (Int.toNat i)
 ((0 : Int), (0 : Int), (0 : Int))) then Prod.fst (Prod.snd (List.getD (Prod.fst (Prod.snd (Prod.snd (Prod.snd (Prod.snd (Prod.snd f)))))) (Int.toNat i) ((0 : Int), (0 : Int), (0 : Int)))) * if day - List.getD s ((0 :
 Nat) + Int.toNat i) (0 : Int) - Prod.snd (Prod.snd (List.getD (Prod.fst (Prod.snd (Prod.snd (Prod.snd (Prod.snd (Prod.snd f)))))) (Int.toNat i) ((0 : Int), (0 : Int), (0 : Int)))) + (1 : Int) > (0 : Int) then day -
 List.getD s ((0 : Nat) + Int.toNat i) (0 : Int) - Prod.snd (Prod.snd (List.getD (Prod.fst (Prod.snd (Prod.snd (Prod.snd (Prod.snd (Prod.snd f)))))) (Int.toNat i) ((0 : Int), (0 : Int), (0 : Int)))) + (1 : Int) else (0 :
 Int) else Prod.fst (List.getD (Prod.fst (Prod.snd (Prod.snd (Prod.snd (Prod.snd (Prod.snd f)))))) (Int.toNat i) ((0 : Int), (0 : Int), (0 : Int))))) (req (inR Go.IntKind.i64 (i + (1 : Int))) (Go.P9.mL (Go.P9.fGroups f)
 (i + (1 : Int)) < Go.P9.mL (Go.P9.fGroups f) i ∧ LC2.spec Go.P9.lc82 (day, f, s, n + if (Prod.fst (Prod.snd (List.getD (Prod.fst (Prod.snd (Prod.snd (Prod.snd (Prod.snd (Prod.snd f)))))) (Int.toNat i) ((0 : Int), (0 :
 Int), (0 : Int)))) * if day - List.getD s ((0 : Nat) + Int.toNat i) (0 : Int) - Prod.snd (Prod.snd (List.getD (Prod.fst (Prod.snd (Prod.snd (Prod.snd (Prod.snd (Prod.snd f)))))) (Int.toNat i) ((0 : Int), (0 : Int), (0 :
 Int)))) + (1 : Int) > (0 : Int) then day - List.getD s ((0 : Nat) + Int.toNat i) (0 : Int) - Prod.snd (Prod.snd (List.getD (Prod.fst (Prod.snd (Prod.snd (Prod.snd (Prod.snd (Prod.snd f)))))) (Int.toNat i) ((0 : Int), (0
 : Int), (0 : Int)))) + (1 : Int) else (0 : Int)) < Prod.fst (List.getD (Prod.fst (Prod.snd (Prod.snd (Prod.snd (Prod.snd (Prod.snd f)))))) (Int.toNat i) ((0 : Int), (0 : Int), (0 : Int))) then Prod.fst (Prod.snd
 (List.getD (Prod.fst (Prod.snd (Prod.snd (Prod.snd (Prod.snd (Prod.snd f)))))) (Int.toNat i) ((0 : Int), (0 : Int), (0 : Int)))) * if day - List.getD s ((0 : Nat) + Int.toNat i) (0 : Int) - Prod.snd (Prod.snd (List.getD
 (Prod.fst (Prod.snd (Prod.snd (Prod.snd (Prod.snd (Prod.snd f)))))) (Int.toNat i) ((0 : Int), (0 : Int), (0 : Int)))) + (1 : Int) > (0 : Int) then day - List.getD s ((0 : Nat) + Int.toNat i) (0 : Int) - Prod.snd
 (Prod.snd (List.getD (Prod.fst (Prod.snd (Prod.snd (Prod.snd (Prod.snd (Prod.snd f)))))) (Int.toNat i) ((0 : Int), (0 : Int), (0 : Int)))) + (1 : Int) else (0 : Int) else Prod.fst (List.getD (Prod.fst (Prod.snd (Prod.snd
 (Prod.snd (Prod.snd (Prod.snd f)))))) (Int.toNat i) ((0 : Int), (0 : Int), (0 : Int))), m, i + (1 : Int), ()) Q))))))))) (req (inR Go.IntKind.i64 (i + (1 : Int))) (Go.P9.mL (Go.P9.fGroups f) (i + (1 : Int)) < Go.P9.mL
 (Go.P9.fGroups f) i ∧ LC2.spec Go.P9.lc82 (day, f, s, n, m, i + (1 : Int), ()) Q)))))) (Q (AX.exit (0 : Nat)) (stS (0 : Nat) Go.P9.sh82e (n, ())))) := by kernel_rfl
abbrev fc82 : FC := ⟨[.v TF, .v L, .v I], [I], fun x K => (okF x.1 = true ∧ listsB (fGroups x.1).length x.2.1 0 = true ∧ x.2.1.length ≤ 9223372036854775807 ∧ 0 ≤ x.2.2.1 ∧ x.2.2.1 ≤ 12) ∧ K (takenL x.1 x.2.1 x.2.2.1, ())⟩
theorem v82F (f : Fd) (l : List Int) (day : Int) (K : dens [I] → Prop) : (xfn1 Try.prog { f := [(66, fc66)], l2 := [(82, 0, lc82)] } 5 82 fc82 (f, l, day, ()) K) =
((Go.P9.okF f = Bool.true ∧ List.length l ≤ (9223372036854775807 : Nat) ∧ Go.P9.inGrp f l) ∧ ∀ (r : List Int), List.length r = (8 : Nat) → List.take (List.length (Go.P9.fGroups f)) r = Go.P9.startsL f l → req (decide
 (List.length r = (8 : Nat))) (req (decide (List.length r = (8 : Nat))) ((Go.P9.okF f = Bool.true ∧ (0 : Int) ≤ (0 : Int) ∧ (0 : Int) ≤ (↑(List.length (Go.P9.fGroups f)) : Int) ∧ (↑(List.length (Prod.fst (Prod.snd
 (Prod.snd (Prod.snd (Prod.snd (Prod.snd f))))))) : Int) = (↑(List.length (Go.P9.fGroups f)) : Int) ∧ List.length r = (8 : Nat) ∧ (∀ (k : Int), (0 : Int) ≤ k → k < (↑(List.length (Go.P9.fGroups f)) : Int) → Go.P9.sOk r k)
 ∧ (0 : Int) ≤ day ∧ day ≤ (12 : Int) ∧ (0 : Int) ≤ (0 : Int) ∧ (0 : Int) ≤ (0 : Int)) ∧ K ((0 : Int) + Go.P9.tkSum (Go.P9.fGroups f) r day (0 : Int), ())))) := by kernel_rfl

/-! all lists, the first ones first -/
/-- What comes behind a list, with further groups out of the last k. -/
def restV (n b : Nat) : Nat → List Int → List (List Int)
  | 0, _ => []
  | k + 1, l => if l.length < b then (l ++ [(n : Int) - k - 1]) :: (restV n b k (l ++ [(n : Int) - k - 1]) ++ restV n b k l) else []
def updW (f : Fd) (day : Int) (x : List Int × Int) (l : List Int) : List Int × Int := if takenL f l day > x.2 then (l, takenL f l day) else x
def runW (f : Fd) (day : Int) (x : List Int × Int) (ls : List (List Int)) : List Int × Int := ls.foldl (updW f day) x
@[reducible] def A : List SV → SV
  | [] => .nil
  | p :: l => .cons p (A l)
abbrev FWs : SV := S [(2, .box 4 (.v TF)), (3, .box 5 (.v I)), (6, .box 6 (.v L)), (7, .box 7 (.v I))]
abbrev Wd := (Fd × Int × List Int × Int × Unit) × Rng
abbrev clV : SV := .fn 87 .nil (A [.ref 0, .ref 2, .ref 3])
abbrev Cl := Unit × Unit × Unit × Unit × Unit
abbrev mkW (rg : Rng) (f : Fd) (day : Int) (x : List Int × Int) : Wd := ((f, day, x.1, x.2, ()), rg)
def okV (f : Fd) (day : Int) (l : List Int) (i : Int) : Prop :=
  okF f = true ∧ 0 ≤ day ∧ day ≤ 12 ∧ 0 ≤ i ∧ i ≤ (fGroups f).length ∧ listsB (fGroups f).length l 0 = true ∧ (∀ x ∈ l, x < i) ∧ (l.length : Int) ≤ fBegin f
def kV (f : Fd) (i : Int) : Nat := (fGroups f).length - i.toNat
abbrev sh87 : SV := S [(0, .v L), (2, .box 0 (.yf 1 FWs)), (3, .box 2 (.v TF)), (4, .box 3 clV), (8, .v I)]
abbrev sh87e : SV := S [(2, .box 0 (.yf 1 FWs)), (3, .box 2 (.v TF)), (4, .box 3 clV)]
abbrev dW (w : Wd) : Int := w.1.2.1
abbrev xW (w : Wd) : List Int × Int := (w.1.2.2.1, w.1.2.2.2.1)
def isW (f : Fd) (w : Wd) : Prop := w.1.1 = f ∧ w.2 = rngOf Try.prog 72 0
def s87 (c : Nat) (l : List Int) (w : Wd) (f : Fd) (u : Cl) (i : Int) (Q : LQ) : Prop := (isW f w ∧ okV f (dW w) l i ∧ kV f i ≤ c) ∧
  Q (.exit 0) (stS 8 sh87e (mkW (rngOf Try.prog 72 0) f (dW w) (runW f (dW w) (xW w) (restV (fGroups f).length (fBegin f).toNat (kV f i) l)), f, u, ()))
abbrev lc87 (c : Nat) : LC2 := ⟨8, sh87, 8, fun (l, w, f, u, i, _) Q => s87 c l w f u i Q⟩
abbrev pre87 : SV := A [.v L, .v I, .box 0 (.yf 1 FWs), .box 2 (.v TF), .box 3 clV]
abbrev post87 : SV := A [.any, .any, .box 0 (.yf 1 FWs), .box 2 (.v TF), .box 3 clV, .v .b]
def sV (c : Nat) (l : List Int) (i : Int) (w : Wd) (f : Fd) (u : Cl) (K : post87.den → Prop) : Prop := (isW f w ∧ okV f (dW w) l i ∧ kV f i < c) ∧
  K ((), (), mkW (rngOf Try.prog 72 0) f (dW w) (runW f (dW w) (xW w) (l :: restV (fGroups f).length (fBegin f).toNat (kV f i) l)), f, u, true, ())
abbrev fc87 (c : Nat) : FC2 := ⟨pre87, 8, post87, 8, fun (l, i, w, f, u, _) K => sV c l i w f u K⟩
/-- A copy that may be turned. -/
abbrev fcClone2 : FC2 := ⟨A [.v L], 0, A [.any, .own 0 I], 1, fun (l, _) K => l.length ≤ 1000000 ∧ K ((), l, ())⟩
theorem v67G (l : List Int) (K : SV.den (A [.any, .own 0 I]) → Prop) : (xfn2 Try.prog {} 5 67 fcClone2 (l, ()) K) =
(∀ (b : Bool), (b = Bool.true → List.length l = (0 : Nat)) → fork b (K ((), [], ())) (req (fitsN ((0 : Nat) + List.length l) (8 : Nat)) (req (decide ((0 : Nat) + ((0 : Nat) + List.length l) ≤ List.length (seg (0 : Nat)
 (0 : Nat) [] ++ l))) (K ((), seg (0 : Nat) ((0 : Nat) + List.length l) (seg (0 : Nat) (0 : Nat) [] ++ l), ()))))) := by kernel_rfl
theorem v87L (c : Nat) (l : List Int) (f : Fd) (day : Int) (best : List Int) (most : Int) (i : Int) (Q : AX → St → Prop) : (xloop2 Try.prog { f2 := [(87, fc87 c), (67, fcClone2)] } 5 87 0 (lc87 c) (fun _ => some (sh87e, 8)) (fun (_, _, f, _, i, _) => mL (fGroups f) i) (l, ((f, day, best, most, ()), rngOf Try.prog 72 0), f, ((), (), (), (), ()), i, ()) Q) =
(fork (decide (i < (↑(List.length (Prod.fst (Prod.snd (Prod.snd (Prod.snd (Prod.snd (Prod.snd f))))))) : Int))) (fork (decide ((↑(List.length l) : Int) < Prod.fst (Prod.snd (Prod.snd (Prod.snd (Prod.snd (Prod.snd
 (Prod.snd (Prod.snd f))))))))) (req (inR Go.IntKind.i64 (i + (1 : Int))) (List.length l ≤ (1000000 : Nat) ∧ AV.fn (Go.Fn.func (87 : Nat)) [] [AV.ptr (0 : Nat) (0 : Nat) (0 : Nat), AV.ptr (2 : Nat) (0 : Nat) (0 : Nat),
 AV.ptr (3 : Nat) (0 : Nat) (0 : Nat)] = AV.fn (Go.Fn.func (87 : Nat)) [] [AV.ptr (0 : Nat) (0 : Nat) (0 : Nat), AV.ptr (2 : Nat) (0 : Nat) (0 : Nat), AV.ptr (3 : Nat) (0 : Nat) (0 : Nat)] ∧ req (decide ((0 : Nat) +
 List.length l ≤ List.length l)) (req (fitsN (List.length l + List.length [i]) (8 : Nat)) (AV.fn (Go.Fn.func (87 : Nat)) [] [AV.ptr (0 : Nat) (0 : Nat) (0 : Nat), AV.ptr (2 : Nat) (0 : Nat) (0 : Nat), AV.ptr (3 : Nat) (0
 : Nat) (0 : Nat)] = AV.fn (Go.Fn.func (87 : Nat)) [] [AV.ptr (0 : Nat) (0 : Nat) (0 : Nat), AV.ptr (2 : Nat) (0 : Nat) (0 : Nat), AV.ptr (3 : Nat) (0 : Nat) (0 : Nat)] ∧ req (decide ((0 : Nat) + (List.length l +
 List.length [i]) ≤ List.length (seg (0 : Nat) (List.length l) l ++ [i]))) ((Go.P9.isW f ((f, day, best, most, ()), rngOf Go.Proofs.Try.prog (72 : Nat) (0 : Nat)) ∧ Go.P9.okV f day (seg (0 : Nat) (List.length l +
 List.length [i]) (seg (0 : Nat) (List.length l) l ++ [i])) (i + (1 : Int)) ∧ Go.P9.kV f (i + (1 : Int)) < c) ∧ req (inR Go.IntKind.i64 (i + (1 : Int))) (Go.P9.mL (Go.P9.fGroups f) (i + (1 : Int)) < Go.P9.mL
 (Go.P9.fGroups f) i ∧ LC2.spec (Go.P9.lc87 c) (l, ((Prod.fst (Prod.fst ((f, day, Prod.fst (Go.P9.runW f day (best, most) (seg (0 : Nat) (List.length l + List.length [i]) (seg (0 : Nat) (List.length l) l ++ [i]) ::
 Go.P9.restV (List.length (Go.P9.fGroups f)) (Int.toNat (Go.P9.fBegin f)) (Go.P9.kV f (i + (1 : Int))) (seg (0 : Nat) (List.length l + List.length [i]) (seg (0 : Nat) (List.length l) l ++ [i])))), Prod.snd (Go.P9.runW f
 day (best, most) (seg (0 : Nat) (List.length l + List.length [i]) (seg (0 : Nat) (List.length l) l ++ [i]) :: Go.P9.restV (List.length (Go.P9.fGroups f)) (Int.toNat (Go.P9.fBegin f)) (Go.P9.kV f (i + (1 : Int))) (seg (0
 : Nat) (List.length l + List.length [i]) (seg (0 : Nat) (List.length l) l ++ [i])))), ()), rngOf Go.Proofs.Try.prog (72 : Nat) (0 : Nat))), Prod.fst (Prod.snd (Prod.fst ((f, day, Prod.fst (Go.P9.runW f day (best, most)
 (seg (0 : Nat) (List.length l + List.length [i]) (seg (0 : Nat) (List.length l) l ++ [i]) :: Go.P9.restV (List.length (Go.P9.fGroups f)) (Int.toNat (Go.P9.fBegin f)) (Go.P9.kV f (i + (1 : Int))) (seg (0 : Nat)
 (List.length l + List.length [i]) (seg (0 : Nat) (List.length l) l ++ [i])))), Prod.snd (Go.P9.runW f day (best, most) (seg (0 : Nat) (List.length l + List.length [i]) (seg (0 : Nat) (List.length l) l ++ [i]) ::
 Go.P9.restV (List.length (Go.P9.fGroups f)) (Int.toNat (Go.P9.fBegin f)) (Go.P9.kV f (i + (1 : Int))) (seg (0 : Nat) (List.length l + List.length [i]) (seg (0 : Nat) (List.length l) l ++ [i])))), ()), rngOf
 Go.Proofs.Try.prog (72 : Nat) (0 : Nat)))), Prod.fst (Prod.snd (Prod.snd (Prod.fst ((f, day, Prod.fst (Go.P9.runW f day (best, most) (seg (0 : Nat) (List.length l + List.length [i]) (seg (0 : Nat) (List.length l) l ++
 [i]) :: Go.P9.restV (List.length (Go.P9.fGroups f)) (Int.toNat (Go.P9.fBegin f)) (Go.P9.kV f (i + (1 : Int))) (seg (0 : Nat) (List.length l + List.length [i]) (seg (0 : Nat) (List.length l) l ++ [i])))), Prod.snd
 (Go.P9.runW f day (best, most) (seg (0 : Nat) (List.length l + List.length [i]) (seg (0 : Nat) (List.length l) l ++ [i]) :: Go.P9.restV (List.length (Go.P9.fGroups f)) (Int.toNat (Go.P9.fBegin f)) (Go.P9.kV f (i + (1 :
 Int))) (seg (0 : Nat) (List.length l + List.length [i]) (seg (0 : Nat) (List.length l) l ++ [i])))), ()), rngOf Go.Proofs.Try.prog (72 : Nat) (0 : Nat))))), Prod.fst (Prod.snd (Prod.snd (Prod.snd (Prod.fst ((f, day,
 Prod.fst (Go.P9.runW f day (best, most) (seg (0 : Nat) (List.length l + List.length [i]) (seg (0 : Nat) (List.length l) l ++ [i]) :: Go.P9.restV (List.length (Go.P9.fGroups f)) (Int.toNat (Go.P9.fBegin f)) (Go.P9.kV f (i
 + (1 : Int))) (seg (0 : Nat) (List.length l + List.length [i]) (seg (0 : Nat) (List.length l) l ++ [i])))), Prod.snd (Go.P9.runW f day (best, most) (seg (0 : Nat) (List.length l + List.length [i]) (seg (0 : Nat)
 (List.length l) l ++ [i]) :: Go.P9.restV (List.length (Go.P9.fGroups f)) (Int.toNat (Go.P9.fBegin f)) (Go.P9.kV f (i + (1 : Int))) (seg (0 : Nat) (List.length l + List.length [i]) (seg (0 : Nat) (List.length l) l ++
 [i])))), ()), rngOf Go.Proofs.Try.prog (72 : Nat) (0 : Nat)))))), ()), rngOf Go.Proofs.Try.prog (72 : Nat) (0 : Nat)), f, ((), (), (), (), ()), i + (1 : Int), ()) Q)))))) (Q (AX.exit (0 : Nat)) (stS (8 : Nat) Go.P9.sh87e
 (((f, day, best, most, ()), rngOf Go.Proofs.Try.prog (72 : Nat) (0 : Nat)), f, ((), (), (), (), ()), ())))) (Q (AX.exit (0 : Nat)) (stS (8 : Nat) Go.P9.sh87e (((f, day, best, most, ()), rngOf Go.Proofs.Try.prog (72 :
 Nat) (0 : Nat)), f, ((), (), (), (), ()), ())))) := by kernel_rfl
theorem v87F (c : Nat) (l : List Int) (f : Fd) (day : Int) (best : List Int) (most : Int) (i : Int) (K : post87.den → Prop) : (xfn2 Try.prog { f := [(82, fc82)], l2 := [(87, 0, lc87 c)] } 5 87 (fc87 (c + 1)) (l, i, ((f, day, best, most, ()), rngOf Try.prog 72 0), f, ((), (), (), (), ()), ()) K) =
((Go.P9.okF f = Bool.true ∧ Go.P9.listsB (List.length (Go.P9.fGroups f)) l (0 : Int) = Bool.true ∧ List.length l ≤ (9223372036854775807 : Nat) ∧ (0 : AT.den (AT.v Go.P9.I)) ≤ day ∧ day ≤ (12 : AT.den (AT.v Go.P9.I))) ∧
 fork (decide (Go.P9.takenL f l day > most)) ((Go.P9.isW f ((f, day, l, Go.P9.takenL f l day, ()), rngOf Go.Proofs.Try.prog (72 : Nat) (0 : Nat)) ∧ Go.P9.okV f day l i ∧ Go.P9.kV f i ≤ c) ∧ K ((), (), ((Prod.fst (Prod.fst
 ((f, day, Prod.fst (Go.P9.runW f day (l, Go.P9.takenL f l day) (Go.P9.restV (List.length (Go.P9.fGroups f)) (Int.toNat (Go.P9.fBegin f)) (Go.P9.kV f i) l)), Prod.snd (Go.P9.runW f day (l, Go.P9.takenL f l day)
 (Go.P9.restV (List.length (Go.P9.fGroups f)) (Int.toNat (Go.P9.fBegin f)) (Go.P9.kV f i) l)), ()), rngOf Go.Proofs.Try.prog (72 : Nat) (0 : Nat))), Prod.fst (Prod.snd (Prod.fst ((f, day, Prod.fst (Go.P9.runW f day (l,
 Go.P9.takenL f l day) (Go.P9.restV (List.length (Go.P9.fGroups f)) (Int.toNat (Go.P9.fBegin f)) (Go.P9.kV f i) l)), Prod.snd (Go.P9.runW f day (l, Go.P9.takenL f l day) (Go.P9.restV (List.length (Go.P9.fGroups f))
 (Int.toNat (Go.P9.fBegin f)) (Go.P9.kV f i) l)), ()), rngOf Go.Proofs.Try.prog (72 : Nat) (0 : Nat)))), Prod.fst (Prod.snd (Prod.snd (Prod.fst ((f, day, Prod.fst (Go.P9.runW f day (l, Go.P9.takenL f l day) (Go.P9.restV
 (List.length (Go.P9.fGroups f)) (Int.toNat (Go.P9.fBegin f)) (Go.P9.kV f i) l)), Prod.snd (Go.P9.runW f day (l, Go.P9.takenL f l day) (Go.P9.restV (List.length (Go.P9.fGroups f)) (Int.toNat (Go.P9.fBegin f)) (Go.P9.kV f
 i) l)), ()), rngOf Go.Proofs.Try.prog (72 : Nat) (0 : Nat))))), Prod.fst (Prod.snd (Prod.snd (Prod.snd (Prod.fst ((f, day, Prod.fst (Go.P9.runW f day (l, Go.P9.takenL f l day) (Go.P9.restV (List.length (Go.P9.fGroups f))
 (Int.toNat (Go.P9.fBegin f)) (Go.P9.kV f i) l)), Prod.snd (Go.P9.runW f day (l, Go.P9.takenL f l day) (Go.P9.restV (List.length (Go.P9.fGroups f)) (Int.toNat (Go.P9.fBegin f)) (Go.P9.kV f i) l)), ()), rngOf
 Go.Proofs.Try.prog (72 : Nat) (0 : Nat)))))), ()), rngOf Go.Proofs.Try.prog (72 : Nat) (0 : Nat)), f, ((), (), (), (), ()), Bool.true, ())) ((Go.P9.isW f ((f, day, best, most, ()), rngOf Go.Proofs.Try.prog (72 : Nat) (0
 : Nat)) ∧ Go.P9.okV f day l i ∧ Go.P9.kV f i ≤ c) ∧ K ((), (), ((Prod.fst (Prod.fst ((f, day, Prod.fst (Go.P9.runW f day (best, most) (Go.P9.restV (List.length (Go.P9.fGroups f)) (Int.toNat (Go.P9.fBegin f)) (Go.P9.kV f
 i) l)), Prod.snd (Go.P9.runW f day (best, most) (Go.P9.restV (List.length (Go.P9.fGroups f)) (Int.toNat (Go.P9.fBegin f)) (Go.P9.kV f i) l)), ()), rngOf Go.Proofs.Try.prog (72 : Nat) (0 : Nat))), Prod.fst (Prod.snd
 (Prod.fst ((f, day, Prod.fst (Go.P9.runW f day (best, most) (Go.P9.restV (List.length (Go.P9.fGroups f)) (Int.toNat (Go.P9.fBegin f)) (Go.P9.kV f i) l)), Prod.snd (Go.P9.runW f day (best, most) (Go.P9.restV (List.length
 (Go.P9.fGroups f)) (Int.toNat (Go.P9.fBegin f)) (Go.P9.kV f i) l)), ()), rngOf Go.Proofs.Try.prog (72 : Nat) (0 : Nat)))), Prod.fst (Prod.snd (Prod.snd (Prod.fst ((f, day, Prod.fst (Go.P9.runW f day (best, most)
 (Go.P9.restV (List.length (Go.P9.fGroups f)) (Int.toNat (Go.P9.fBegin f)) (Go.P9.kV f i) l)), Prod.snd (Go.P9.runW f day (best, most) (Go.P9.restV (List.length (Go.P9.fGroups f)) (Int.toNat (Go.P9.fBegin f)) (Go.P9.kV f
 i) l)), ()), rngOf Go.Proofs.Try.prog (72 : Nat) (0 : Nat))))), Prod.fst (Prod.snd (Prod.snd (Prod.snd (Prod.fst ((f, day, Prod.fst (Go.P9.runW f day (best, most) (Go.P9.restV (List.length (Go.P9.fGroups f)) (Int.toNat
 (Go.P9.fBegin f)) (Go.P9.kV f i) l)), Prod.snd (Go.P9.runW f day (best, most) (Go.P9.restV (List.length (Go.P9.fGroups f)) (Int.toNat (Go.P9.fBegin f)) (Go.P9.kV f i) l)), ()), rngOf Go.Proofs.Try.prog (72 : Nat) (0 :
 Nat)))))), ()), rngOf Go.Proofs.Try.prog (72 : Nat) (0 : Nat)), f, ((), (), (), (), ()), Bool.true, ()))) := by kernel_rfl
/-- All lists that begin with one. -/
def allV (f : Fd) : List (List Int) := [] :: restV (fGroups f).length (fBegin f).toNat (fGroups f).length []
def worstW (f : Fd) (day : Int) : List Int × Int := runW f day ([], -1) (allV f)
abbrev fcWorst : FC := ⟨[.v TF, .v I], [L, I], fun x K => (okF x.1 = true ∧ 0 ≤ x.2.1 ∧ x.2.1 ≤ 12) ∧ K ((worstW x.1 x.2.1).1, (worstW x.1 x.2.1).2, ())⟩
theorem v72F (f : Fd) (day : Int) (K : dens [L, I] → Prop) : (xfn1 Try.prog { f2 := [(87, fc87 100)] } 5 72 fcWorst (f, day, ()) K) =
((Go.P9.isW f ((f, day, [], (-1 : Int), ()), rngOf Go.Proofs.Try.prog (72 : Nat) (0 : Nat)) ∧ Go.P9.okV f day [] (0 : Int) ∧ Go.P9.kV f (0 : Int) < (100 : Nat)) ∧ K (Prod.fst (Prod.snd (Prod.snd (Prod.fst ((f, day,
 Prod.fst (Go.P9.runW f day ([], (-1 : Int)) ([] :: Go.P9.restV (List.length (Go.P9.fGroups f)) (Int.toNat (Go.P9.fBegin f)) (Go.P9.kV f (0 : Int)) [])), Prod.snd (Go.P9.runW f day ([], (-1 : Int)) ([] :: Go.P9.restV
 (List.length (Go.P9.fGroups f)) (Int.toNat (Go.P9.fBegin f)) (Go.P9.kV f (0 : Int)) [])), ()), rngOf Go.Proofs.Try.prog (72 : Nat) (0 : Nat))))), Prod.fst (Prod.snd (Prod.snd (Prod.snd (Prod.fst ((f, day, Prod.fst
 (Go.P9.runW f day ([], (-1 : Int)) ([] :: Go.P9.restV (List.length (Go.P9.fGroups f)) (Int.toNat (Go.P9.fBegin f)) (Go.P9.kV f (0 : Int)) [])), Prod.snd (Go.P9.runW f day ([], (-1 : Int)) ([] :: Go.P9.restV (List.length
 (Go.P9.fGroups f)) (Int.toNat (Go.P9.fBegin f)) (Go.P9.kV f (0 : Int)) [])), ()), rngOf Go.Proofs.Try.prog (72 : Nat) (0 : Nat)))))), ())) := by kernel_rfl
end Go.P9
