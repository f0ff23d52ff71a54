/- Funds: a fund that is better in something: states and what is to be shown, reduced. No conditions. -/
import Derived.Test.YtklleedcdjkpeaaLeastS
set_option linter.unusedSimpArgs false
set_option linter.unusedVariables false
set_option linter.constructorNameAsVariable false
set_option maxRecDepth 100000
set_option maxHeartbeats 2000000
namespace Go.P9
open Go.Lom Go.Proofs Go

abbrev A3 : Ty := .pr I (.pr I I)
abbrev N3 : Type := Int × Int × Int
abbrev fcRing2 : FC := ⟨[.v I, .v I], [I], fun x K => (x.2.1 ≤ 4611686018427387904) ∧ ∀ r : Int, (0 < x.2.1 → 0 ≤ r ∧ r < x.2.1) → (x.2.1 ≤ 0 → r = 0) → K (r, ())⟩
theorem v33G (n m : Int) (K : dens [I] → Prop) : (xfn1 Try.prog {} 5 33 fcRing2 (n, m, ()) K) =
(fork (decide (m ≤ (0 : Int))) (K ((0 : Int), ())) (req (decide (m ≠ (0 : Int))) (req (inR Go.IntKind.i64 (Int.tmod n m + m)) (req (decide (m ≠ (0 : Int))) (K (Int.tmod (Int.tmod n m + m) m, ())))))) := by kernel_rfl
def spanBet (a b : List (Int × Int)) : Prop := b.length = a.length ∧ ∀ j : Nat, j < a.length → (a.getD j (0, 0)).1 ≤ (b.getD j (0, 0)).1 ∧ (b.getD j (0, 0)).1 ≤ (b.getD j (0, 0)).2 ∧ (b.getD j (0, 0)).2 = (a.getD j (0, 0)).2
def grpBet (a b : List (Int × Int × Int)) : Prop := b.length = a.length ∧ ∀ j : Nat, j < a.length → 0 ≤ (b.getD j (0, 0, 0)).1 ∧ (b.getD j (0, 0, 0)).1 ≤ (a.getD j (0, 0, 0)).1 ∧ 0 ≤ (b.getD j (0, 0, 0)).2.1 ∧ (b.getD j (0, 0, 0)).2.1 ≤ (a.getD j (0, 0, 0)).2.1 ∧ (b.getD j (0, 0, 0)).2.2 = (a.getD j (0, 0, 0)).2.2
def wayIn (a : List (Int × Int × Int)) (w : Int × Int × Int) : Prop := ∃ v ∈ a, w.1 = v.1 ∧ w.2.1 = v.2.1 ∧ v.2.2 ≤ w.2.2 ∧ w.2.2 ≤ 12
def wayBet (a b : List (Int × Int × Int)) : Prop := b.length ≤ a.length ∧ ∀ w ∈ b, wayIn a w
def bet (f g : Fd) : Prop := (fCash f ≤ fCash g ∧ fCash g ≤ 1099511627776) ∧ spanBet (fIn f) (fIn g) ∧ fBonds g = fBonds f ∧ fSell g = fSell f ∧ spanBet (fPrices f) (fPrices g) ∧ grpBet (fGroups f) (fGroups g) ∧ wayBet (fWays f) (fWays g) ∧ (0 ≤ fBegin g ∧ fBegin g ≤ fBegin f) ∧ (fBars f ≤ fBars g ∧ fBars g ≤ 64)

abbrev bX (a b : Nat) : SV := .box a (A [.v I, .v LSp, .v L, .v L, .v LSp, .v LG, .own b G3, .v I, .v I])
abbrev sh28 : SV := S [(2, bF), (3, .box 1 (.v A3)), (4, .box 2 (.v TF)), (5, bX 3 4), (11, .v I)]
abbrev sh28e : SV := S [(4, .box 0 (.v TF)), (5, bX 1 2)]
def s28 (f : Fd) (n : N3) (z : Fd) (c : Int) (l1 : List (Int × Int)) (l2 l3 : List Int) (l4 : List (Int × Int)) (l5 ws : List (Int × Int × Int)) (b k i : Int) (Q : LQ) : Prop :=
  (0 ≤ i ∧ i ≤ (fWays f).length ∧ (fWays f).length ≤ 24 ∧ (ws.length : Int) ≤ i ∧ (∀ w ∈ ws, wayIn (fWays f) w) ∧ ∀ w ∈ fWays f, 0 ≤ w.2.2 ∧ w.2.2 ≤ 12) ∧
  ∀ r : List (Int × Int × Int), wayBet (fWays f) r → Q (.exit 1) (stS 3 sh28e (z, (c, l1, l2, l3, l4, l5, r, b, k, ()), ()))
abbrev lc28 : LC2 := ⟨0, sh28, 5, fun (f, n, z, (c, l1, l2, l3, l4, l5, ws, b, k, _), i, _) Q => s28 f n z c l1 l2 l3 l4 l5 ws b k i Q⟩
theorem v28a (f : Fd) (n : N3) (z : Fd) (c : Int) (l1 : List (Int × Int)) (l2 l3 : List Int) (l4 : List (Int × Int)) (l5 ws : List (Int × Int × Int)) (b k i : Int) (Q : AX → St → Prop) : (xloop2 Try.prog { f := [(33, fcRing2)], wr := true } 5 28 0 lc28 (fun _ => some (sh28e, 3)) (fun (f, _, _, _, i, _) => mL (fWays f) i) (f, n, z, (c, l1, l2, l3, l4, l5, ws, b, k, ()), i, ()) Q) =
(fork (decide (i < (↑(List.length (Prod.fst (Prod.snd (Prod.snd (Prod.snd (Prod.snd (Prod.snd (Prod.snd f)))))))) : Int))) (req (decide ((0 : Int) ≤ i ∧ i < (↑(List.length (Prod.fst (Prod.snd (Prod.snd (Prod.snd
 (Prod.snd (Prod.snd (Prod.snd f)))))))) : Int))) ((3 : Int) ≤ (4611686018427387904 : AT.den (AT.v Go.P9.I)) ∧ ∀ (r : Int), ((0 : AT.den (AT.v Go.P9.I)) < (3 : Int) → (0 : Int) ≤ r ∧ r < (3 : Int)) → ((3 : Int) ≤ (0 :
 AT.den (AT.v Go.P9.I)) → r = (0 : Int)) → fork (r == (0 : Int)) (req (decide ((0 : Nat) + List.length ws ≤ List.length ws)) (Go.P9.mL (Go.P9.fWays f) (wrapA Go.IntKind.i64 (i + (1 : Int))) < Go.P9.mL (Go.P9.fWays f) i ∧
 LC2.spec Go.P9.lc28 (f, n, z, (c, l1, l2, l3, l4, l5, seg (0 : Nat) (List.length ws) ws, b, k, ()), wrapA Go.IntKind.i64 (i + (1 : Int)), ()) Q)) ((2 : Int) ≤ (4611686018427387904 : AT.den (AT.v Go.P9.I)) ∧ ∀ (r : Int),
 ((0 : AT.den (AT.v Go.P9.I)) < (2 : Int) → (0 : Int) ≤ r ∧ r < (2 : Int)) → ((2 : Int) ≤ (0 : AT.den (AT.v Go.P9.I)) → r = (0 : Int)) → AV.int Go.IntKind.i64 (Prod.snd (Prod.snd (List.getD (Prod.fst (Prod.snd (Prod.snd
 (Prod.snd (Prod.snd (Prod.snd (Prod.snd f))))))) (Int.toNat i) ((0 : Int), (0 : Int), (0 : Int))))) = AV.int Go.IntKind.i64 (Prod.snd (Prod.snd (List.getD (Prod.fst (Prod.snd (Prod.snd (Prod.snd (Prod.snd (Prod.snd
 (Prod.snd f))))))) (Int.toNat i) ((0 : Int), (0 : Int), (0 : Int))))) ∧ req (decide ((0 : Nat) + List.length ws ≤ List.length ws)) (req (fitsN (List.length ws + List.length (seg (0 : Nat) (1 : Nat) [(Prod.fst (List.getD
 (Prod.fst (Prod.snd (Prod.snd (Prod.snd (Prod.snd (Prod.snd (Prod.snd f))))))) (Int.toNat i) ((0 : Int), (0 : Int), (0 : Int))), Prod.fst (Prod.snd (List.getD (Prod.fst (Prod.snd (Prod.snd (Prod.snd (Prod.snd (Prod.snd
 (Prod.snd f))))))) (Int.toNat i) ((0 : Int), (0 : Int), (0 : Int)))), if wrapA Go.IntKind.i64 (Prod.snd (Prod.snd (List.getD (Prod.fst (Prod.snd (Prod.snd (Prod.snd (Prod.snd (Prod.snd (Prod.snd f))))))) (Int.toNat i)
 ((0 : Int), (0 : Int), (0 : Int)))) + r) < (12 : Int) then wrapA Go.IntKind.i64 (Prod.snd (Prod.snd (List.getD (Prod.fst (Prod.snd (Prod.snd (Prod.snd (Prod.snd (Prod.snd (Prod.snd f))))))) (Int.toNat i) ((0 : Int), (0 :
 Int), (0 : Int)))) + r) else (12 : Int))])) (24 : Nat)) (req (decide ((0 : Nat) + (List.length ws + List.length (seg (0 : Nat) (1 : Nat) [(Prod.fst (List.getD (Prod.fst (Prod.snd (Prod.snd (Prod.snd (Prod.snd (Prod.snd
 (Prod.snd f))))))) (Int.toNat i) ((0 : Int), (0 : Int), (0 : Int))), Prod.fst (Prod.snd (List.getD (Prod.fst (Prod.snd (Prod.snd (Prod.snd (Prod.snd (Prod.snd (Prod.snd f))))))) (Int.toNat i) ((0 : Int), (0 : Int), (0 :
 Int)))), if wrapA Go.IntKind.i64 (Prod.snd (Prod.snd (List.getD (Prod.fst (Prod.snd (Prod.snd (Prod.snd (Prod.snd (Prod.snd (Prod.snd f))))))) (Int.toNat i) ((0 : Int), (0 : Int), (0 : Int)))) + r) < (12 : Int) then
 wrapA Go.IntKind.i64 (Prod.snd (Prod.snd (List.getD (Prod.fst (Prod.snd (Prod.snd (Prod.snd (Prod.snd (Prod.snd (Prod.snd f))))))) (Int.toNat i) ((0 : Int), (0 : Int), (0 : Int)))) + r) else (12 : Int))])) ≤ List.length
 (seg (0 : Nat) (List.length ws) ws ++ seg (0 : Nat) (1 : Nat) [(Prod.fst (List.getD (Prod.fst (Prod.snd (Prod.snd (Prod.snd (Prod.snd (Prod.snd (Prod.snd f))))))) (Int.toNat i) ((0 : Int), (0 : Int), (0 : Int))),
 Prod.fst (Prod.snd (List.getD (Prod.fst (Prod.snd (Prod.snd (Prod.snd (Prod.snd (Prod.snd (Prod.snd f))))))) (Int.toNat i) ((0 : Int), (0 : Int), (0 : Int)))), if wrapA Go.IntKind.i64 (Prod.snd (Prod.snd (List.getD
 (Prod.fst (Prod.snd (Prod.snd (Prod.snd (Prod.snd (Prod.snd (Prod.snd f))))))) (Int.toNat i) ((0 : Int), (0 : Int), (0 : Int)))) + r) < (12 : Int) then wrapA Go.IntKind.i64 (Prod.snd (Prod.snd (List.getD (Prod.fst
 (Prod.snd (Prod.snd (Prod.snd (Prod.snd (Prod.snd (Prod.snd f))))))) (Int.toNat i) ((0 : Int), (0 : Int), (0 : Int)))) + r) else (12 : Int))]))) (Go.P9.mL (Go.P9.fWays f) (wrapA Go.IntKind.i64 (i + (1 : Int))) < Go.P9.mL
 (Go.P9.fWays f) i ∧ LC2.spec Go.P9.lc28 (f, n, z, (c, l1, l2, l3, l4, l5, seg (0 : Nat) (List.length ws + List.length (seg (0 : Nat) (1 : Nat) [(Prod.fst (List.getD (Prod.fst (Prod.snd (Prod.snd (Prod.snd (Prod.snd
 (Prod.snd (Prod.snd f))))))) (Int.toNat i) ((0 : Int), (0 : Int), (0 : Int))), Prod.fst (Prod.snd (List.getD (Prod.fst (Prod.snd (Prod.snd (Prod.snd (Prod.snd (Prod.snd (Prod.snd f))))))) (Int.toNat i) ((0 : Int), (0 :
 Int), (0 : Int)))), if wrapA Go.IntKind.i64 (Prod.snd (Prod.snd (List.getD (Prod.fst (Prod.snd (Prod.snd (Prod.snd (Prod.snd (Prod.snd (Prod.snd f))))))) (Int.toNat i) ((0 : Int), (0 : Int), (0 : Int)))) + r) < (12 :
 Int) then wrapA Go.IntKind.i64 (Prod.snd (Prod.snd (List.getD (Prod.fst (Prod.snd (Prod.snd (Prod.snd (Prod.snd (Prod.snd (Prod.snd f))))))) (Int.toNat i) ((0 : Int), (0 : Int), (0 : Int)))) + r) else (12 : Int))])) (seg
 (0 : Nat) (List.length ws) ws ++ seg (0 : Nat) (1 : Nat) [(Prod.fst (List.getD (Prod.fst (Prod.snd (Prod.snd (Prod.snd (Prod.snd (Prod.snd (Prod.snd f))))))) (Int.toNat i) ((0 : Int), (0 : Int), (0 : Int))), Prod.fst
 (Prod.snd (List.getD (Prod.fst (Prod.snd (Prod.snd (Prod.snd (Prod.snd (Prod.snd (Prod.snd f))))))) (Int.toNat i) ((0 : Int), (0 : Int), (0 : Int)))), if wrapA Go.IntKind.i64 (Prod.snd (Prod.snd (List.getD (Prod.fst
 (Prod.snd (Prod.snd (Prod.snd (Prod.snd (Prod.snd (Prod.snd f))))))) (Int.toNat i) ((0 : Int), (0 : Int), (0 : Int)))) + r) < (12 : Int) then wrapA Go.IntKind.i64 (Prod.snd (Prod.snd (List.getD (Prod.fst (Prod.snd
 (Prod.snd (Prod.snd (Prod.snd (Prod.snd (Prod.snd f))))))) (Int.toNat i) ((0 : Int), (0 : Int), (0 : Int)))) + r) else (12 : Int))]), b, k, ()), wrapA Go.IntKind.i64 (i + (1 : Int)), ()) Q)))))) (req (decide ((0 : Nat) +
 List.length ws ≤ List.length ws)) (Q (AX.exit (1 : Nat)) (stS (3 : Nat) Go.P9.sh28e (z, (c, l1, l2, l3, l4, l5, seg (0 : Nat) (List.length ws) ws, b, k, ()), ()))))) := by kernel_rfl
abbrev fcBet : FC := ⟨[.v TF, .v A3], [TF], fun x K => (okF x.1 = true) ∧ ∀ g : Fd, bet x.1 g → K (g, ())⟩
theorem v28F (f : Fd) (n : N3) (K : dens [TF] → Prop) : (xfn1 Try.prog { f := [(33, fcRing2)], l2 := [(28, 0, lc28)] } 5 28 fcBet (f, n, ()) K) =
((20 : Int) ≤ (4611686018427387904 : AT.den (AT.v Go.P9.I)) ∧ ∀ (r : Int), ((0 : AT.den (AT.v Go.P9.I)) < (20 : Int) → (0 : Int) ≤ r ∧ r < (20 : Int)) → ((20 : Int) ≤ (0 : AT.den (AT.v Go.P9.I)) → r = (0 : Int)) → req
 (inR Go.IntKind.i64 ((1 : Int) + r)) ((8 : Int) ≤ (4611686018427387904 : AT.den (AT.v Go.P9.I)) ∧ ∀ (r_1 : Int), ((0 : AT.den (AT.v Go.P9.I)) < (8 : Int) → (0 : Int) ≤ r_1 ∧ r_1 < (8 : Int)) → ((8 : Int) ≤ (0 : AT.den
 (AT.v Go.P9.I)) → r_1 = (0 : Int)) → fork (r_1 == (0 : Int)) (req (inR Go.IntKind.i64 (Prod.fst f + ((1 : Int) + r))) (K ((if Prod.fst f + ((1 : Int) + r) < (1099511627776 : Int) then Prod.fst f + ((1 : Int) + r) else
 (1099511627776 : Int), Prod.snd f), ()))) (fork (r_1 == (1 : Int)) (req (fitsN ((0 : Nat) + List.length (Prod.fst (Prod.snd f))) (16 : Nat)) ((↑((0 : Nat) + List.length (Prod.fst (Prod.snd f))) : Int) ≤
 (4611686018427387904 : AT.den (AT.v Go.P9.I)) ∧ ∀ (r_2 : Int), ((0 : AT.den (AT.v Go.P9.I)) < (↑((0 : Nat) + List.length (Prod.fst (Prod.snd f))) : Int) → (0 : Int) ≤ r_2 ∧ r_2 < (↑((0 : Nat) + List.length (Prod.fst
 (Prod.snd f))) : Int)) → ((↑((0 : Nat) + List.length (Prod.fst (Prod.snd f))) : Int) ≤ (0 : AT.den (AT.v Go.P9.I)) → r_2 = (0 : Int)) → fork (decide (r_2 < (↑((0 : Nat) + List.length (Prod.fst (Prod.snd f))) : Int)))
 (req (decide ((0 : Int) ≤ r_2 ∧ r_2 < (↑((0 : Nat) + List.length (Prod.fst (Prod.snd f))) : Int))) (req (decide (Int.toNat r_2 < List.length (seg (0 : Nat) (0 : Nat) [] ++ Prod.fst (Prod.snd f)))) (req (inR
 Go.IntKind.i64 (Prod.fst (List.getD (seg (0 : Nat) (0 : Nat) [] ++ Prod.fst (Prod.snd f)) (Int.toNat r_2) ((0 : Int), (0 : Int))) + ((1 : Int) + r))) (req (decide ((0 : Int) ≤ r_2 ∧ r_2 < (↑((0 : Nat) + List.length
 (Prod.fst (Prod.snd f))) : Int))) (req (decide (Int.toNat r_2 < List.length (seg (0 : Nat) (0 : Nat) [] ++ Prod.fst (Prod.snd f)))) (req (decide ((0 : Nat) + ((0 : Nat) + List.length (Prod.fst (Prod.snd f))) ≤
 List.length (List.set (seg (0 : Nat) (0 : Nat) [] ++ Prod.fst (Prod.snd f)) (Int.toNat r_2) (if Prod.fst (List.getD (seg (0 : Nat) (0 : Nat) [] ++ Prod.fst (Prod.snd f)) (Int.toNat r_2) ((0 : Int), (0 : Int))) + ((1 :
 Int) + r) < Prod.snd (List.getD (seg (0 : Nat) (0 : Nat) [] ++ Prod.fst (Prod.snd f)) (Int.toNat r_2) ((0 : Int), (0 : Int))) then Prod.fst (List.getD (seg (0 : Nat) (0 : Nat) [] ++ Prod.fst (Prod.snd f)) (Int.toNat r_2)
 ((0 : Int), (0 : Int))) + ((1 : Int) + r) else Prod.snd (List.getD (seg (0 : Nat) (0 : Nat) [] ++ Prod.fst (Prod.snd f)) (Int.toNat r_2) ((0 : Int), (0 : Int))), Prod.snd (List.getD (seg (0 : Nat) (0 : Nat) [] ++
 Prod.fst (Prod.snd f)) (Int.toNat r_2) ((0 : Int), (0 : Int))))))) (K ((Prod.fst f, seg (0 : Nat) ((0 : Nat) + List.length (Prod.fst (Prod.snd f))) (List.set (seg (0 : Nat) (0 : Nat) [] ++ Prod.fst (Prod.snd f))
 (Int.toNat r_2) (if Prod.fst (List.getD (seg (0 : Nat) (0 : Nat) [] ++ Prod.fst (Prod.snd f)) (Int.toNat r_2) ((0 : Int), (0 : Int))) + ((1 : Int) + r) < Prod.snd (List.getD (seg (0 : Nat) (0 : Nat) [] ++ Prod.fst
 (Prod.snd f)) (Int.toNat r_2) ((0 : Int), (0 : Int))) then Prod.fst (List.getD (seg (0 : Nat) (0 : Nat) [] ++ Prod.fst (Prod.snd f)) (Int.toNat r_2) ((0 : Int), (0 : Int))) + ((1 : Int) + r) else Prod.snd (List.getD (seg
 (0 : Nat) (0 : Nat) [] ++ Prod.fst (Prod.snd f)) (Int.toNat r_2) ((0 : Int), (0 : Int))), Prod.snd (List.getD (seg (0 : Nat) (0 : Nat) [] ++ Prod.fst (Prod.snd f)) (Int.toNat r_2) ((0 : Int), (0 : Int))))), Prod.snd
 (Prod.snd f)), ())))))))) (req (decide ((0 : Nat) + ((0 : Nat) + List.length (Prod.fst (Prod.snd f))) ≤ List.length (seg (0 : Nat) (0 : Nat) [] ++ Prod.fst (Prod.snd f)))) (K ((Prod.fst f, seg (0 : Nat) ((0 : Nat) +
 List.length (Prod.fst (Prod.snd f))) (seg (0 : Nat) (0 : Nat) [] ++ Prod.fst (Prod.snd f)), Prod.snd (Prod.snd f)), ()))))) (fork (r_1 == (2 : Int)) (req (fitsN ((0 : Nat) + List.length (Prod.fst (Prod.snd (Prod.snd
 (Prod.snd (Prod.snd f)))))) (16 : Nat)) ((↑((0 : Nat) + List.length (Prod.fst (Prod.snd (Prod.snd (Prod.snd (Prod.snd f)))))) : Int) ≤ (4611686018427387904 : AT.den (AT.v Go.P9.I)) ∧ ∀ (r_2 : Int), ((0 : AT.den (AT.v
 Go.P9.I)) < (↑((0 : Nat) + List.length (Prod.fst (Prod.snd (Prod.snd (Prod.snd (Prod.snd f)))))) : Int) → (0 : Int) ≤ r_2 ∧ r_2 < (↑((0 : Nat) + List.length (Prod.fst (Prod.snd (Prod.snd (Prod.snd (Prod.snd f)))))) :
 Int)) → ((↑((0 : Nat) + List.length (Prod.fst (Prod.snd (Prod.snd (Prod.snd (Prod.snd f)))))) : Int) ≤ (0 : AT.den (AT.v Go.P9.I)) → r_2 = (0 : Int)) → fork (decide (r_2 < (↑((0 : Nat) + List.length (Prod.fst (Prod.snd
 (Prod.snd (Prod.snd (Prod.snd f)))))) : Int))) (req (decide ((0 : Int) ≤ r_2 ∧ r_2 < (↑((0 : Nat) + List.length (Prod.fst (Prod.snd (Prod.snd (Prod.snd (Prod.snd f)))))) : Int))) (req (decide (Int.toNat r_2 < List.length
 (seg (0 : Nat) (0 : Nat) [] ++ Prod.fst (Prod.snd (Prod.snd (Prod.snd (Prod.snd f))))))) (req (inR Go.IntKind.i64 (Prod.fst (List.getD (seg (0 : Nat) (0 : Nat) [] ++ Prod.fst (Prod.snd (Prod.snd (Prod.snd (Prod.snd
 f))))) (Int.toNat r_2) ((0 : Int), (0 : Int))) + ((1 : Int) + r))) (req (decide ((0 : Int) ≤ r_2 ∧ r_2 < (↑((0 : Nat) + List.length (Prod.fst (Prod.snd (Prod.snd (Prod.snd (Prod.snd f)))))) : Int))) (req (decide
 (Int.toNat r_2 < List.length (seg (0 : Nat) (0 : Nat) [] ++ Prod.fst (Prod.snd (Prod.snd (Prod.snd (Prod.snd f))))))) (req (decide ((0 : Nat) + ((0 : Nat) + List.length (Prod.fst (Prod.snd (Prod.snd (Prod.snd (Prod.snd
 f)))))) ≤ List.length (List.set (seg (0 : Nat) (0 : Nat) [] ++ Prod.fst (Prod.snd (Prod.snd (Prod.snd (Prod.snd f))))) (Int.toNat r_2) (if Prod.fst (List.getD (seg (0 : Nat) (0 : Nat) [] ++ Prod.fst (Prod.snd (Prod.snd
 (Prod.snd (Prod.snd f))))) (Int.toNat r_2) ((0 : Int), (0 : Int))) + ((1 : Int) + r) < Prod.snd (List.getD (seg (0 : Nat) (0 : Nat) [] ++ Prod.fst (Prod.snd (Prod.snd (Prod.snd (Prod.snd f))))) (Int.toNat r_2) ((0 :
 Int), (0 : Int))) then Prod.fst (List.getD (seg (0 : Nat) (0 : Nat) [] ++ Prod.fst (Prod.snd (Prod.snd (Prod.snd (Prod.snd f))))) (Int.toNat r_2) ((0 : Int), (0 : Int))) + ((1 : Int) + r) else Prod.snd (List.getD (seg (0
 : Nat) (0 : Nat) [] ++ Prod.fst (Prod.snd (Prod.snd (Prod.snd (Prod.snd f))))) (Int.toNat r_2) ((0 : Int), (0 : Int))), Prod.snd (List.getD (seg (0 : Nat) (0 : Nat) [] ++ Prod.fst (Prod.snd (Prod.snd (Prod.snd (Prod.snd
 f))))) (Int.toNat r_2) ((0 : Int), (0 : Int))))))) (K ((Prod.fst f, Prod.fst (Prod.snd f), Prod.fst (Prod.snd (Prod.snd f)), Prod.fst (Prod.snd (Prod.snd (Prod.snd f))), seg (0 : Nat) ((0 : Nat) + List.length (Prod.fst
 (Prod.snd (Prod.snd (Prod.snd (Prod.snd f)))))) (List.set (seg (0 : Nat) (0 : Nat) [] ++ Prod.fst (Prod.snd (Prod.snd (Prod.snd (Prod.snd f))))) (Int.toNat r_2) (if Prod.fst (List.getD (seg (0 : Nat) (0 : Nat) [] ++
 Prod.fst (Prod.snd (Prod.snd (Prod.snd (Prod.snd f))))) (Int.toNat r_2) ((0 : Int), (0 : Int))) + ((1 : Int) + r) < Prod.snd (List.getD (seg (0 : Nat) (0 : Nat) [] ++ Prod.fst (Prod.snd (Prod.snd (Prod.snd (Prod.snd
 f))))) (Int.toNat r_2) ((0 : Int), (0 : Int))) then Prod.fst (List.getD (seg (0 : Nat) (0 : Nat) [] ++ Prod.fst (Prod.snd (Prod.snd (Prod.snd (Prod.snd f))))) (Int.toNat r_2) ((0 : Int), (0 : Int))) + ((1 : Int) + r)
 else Prod.snd (List.getD (seg (0 : Nat) (0 : Nat) [] ++ Prod.fst (Prod.snd (Prod.snd (Prod.snd (Prod.snd f))))) (Int.toNat r_2) ((0 : Int), (0 : Int))), Prod.snd (List.getD (seg (0 : Nat) (0 : Nat) [] ++ Prod.fst
 (Prod.snd (Prod.snd (Prod.snd (Prod.snd f))))) (Int.toNat r_2) ((0 : Int), (0 : Int))))), Prod.snd (Prod.snd (Prod.snd (Prod.snd (Prod.snd f))))), ())))))))) (req (decide ((0 : Nat) + ((0 : Nat) + List.length (Prod.fst
 (Prod.snd (Prod.snd (Prod.snd (Prod.snd f)))))) ≤ List.length (seg (0 : Nat) (0 : Nat) [] ++ Prod.fst (Prod.snd (Prod.snd (Prod.snd (Prod.snd f))))))) (K ((Prod.fst f, Prod.fst (Prod.snd f), Prod.fst (Prod.snd (Prod.snd
 f)), Prod.fst (Prod.snd (Prod.snd (Prod.snd f))), seg (0 : Nat) ((0 : Nat) + List.length (Prod.fst (Prod.snd (Prod.snd (Prod.snd (Prod.snd f)))))) (seg (0 : Nat) (0 : Nat) [] ++ Prod.fst (Prod.snd (Prod.snd (Prod.snd
 (Prod.snd f))))), Prod.snd (Prod.snd (Prod.snd (Prod.snd (Prod.snd f))))), ()))))) (fork (r_1 == (3 : Int)) (req (inR Go.IntKind.i64 (Prod.snd (Prod.snd (Prod.snd (Prod.snd (Prod.snd (Prod.snd (Prod.snd (Prod.snd
 f))))))) + ((1 : Int) + r))) (K ((Prod.fst f, Prod.fst (Prod.snd f), Prod.fst (Prod.snd (Prod.snd f)), Prod.fst (Prod.snd (Prod.snd (Prod.snd f))), Prod.fst (Prod.snd (Prod.snd (Prod.snd (Prod.snd f)))), Prod.fst
 (Prod.snd (Prod.snd (Prod.snd (Prod.snd (Prod.snd f))))), Prod.fst (Prod.snd (Prod.snd (Prod.snd (Prod.snd (Prod.snd (Prod.snd f)))))), Prod.fst (Prod.snd (Prod.snd (Prod.snd (Prod.snd (Prod.snd (Prod.snd (Prod.snd
 f))))))), if Prod.snd (Prod.snd (Prod.snd (Prod.snd (Prod.snd (Prod.snd (Prod.snd (Prod.snd f))))))) + ((1 : Int) + r) < (64 : Int) then Prod.snd (Prod.snd (Prod.snd (Prod.snd (Prod.snd (Prod.snd (Prod.snd (Prod.snd
 f))))))) + ((1 : Int) + r) else (64 : Int)), ()))) (fork (r_1 == (4 : Int)) (((0 : Int) ≤ (0 : Int) ∧ (0 : Int) ≤ (↑(List.length (Go.P9.fWays f)) : Int) ∧ List.length (Go.P9.fWays f) ≤ (24 : Nat) ∧ (0 : Int) ≤ (0 : Int)
 ∧ (∀ (w : Int × Int × Int), w ∈ [] → Go.P9.wayIn (Go.P9.fWays f) w) ∧ ∀ (w : Int × Int × Int), w ∈ Go.P9.fWays f → (0 : Int) ≤ Prod.snd (Prod.snd w) ∧ Prod.snd (Prod.snd w) ≤ (12 : Int)) ∧ ∀ (r : List (Int × Int × Int)),
 Go.P9.wayBet (Go.P9.fWays f) r → req (decide ((0 : Nat) + List.length r ≤ List.length r)) (K ((Prod.fst f, Prod.fst (Prod.snd f), Prod.fst (Prod.snd (Prod.snd f)), Prod.fst (Prod.snd (Prod.snd (Prod.snd f))), Prod.fst
 (Prod.snd (Prod.snd (Prod.snd (Prod.snd f)))), Prod.fst (Prod.snd (Prod.snd (Prod.snd (Prod.snd (Prod.snd f))))), seg (0 : Nat) (List.length r) r, Prod.snd (Prod.snd (Prod.snd (Prod.snd (Prod.snd (Prod.snd (Prod.snd
 f))))))), ()))) (fork (r_1 == (5 : Int)) (req (fitsN ((0 : Nat) + List.length (Prod.fst (Prod.snd (Prod.snd (Prod.snd (Prod.snd (Prod.snd f))))))) (24 : Nat)) ((↑((0 : Nat) + List.length (Prod.fst (Prod.snd (Prod.snd
 (Prod.snd (Prod.snd (Prod.snd f))))))) : Int) ≤ (4611686018427387904 : AT.den (AT.v Go.P9.I)) ∧ ∀ (r_2 : Int), ((0 : AT.den (AT.v Go.P9.I)) < (↑((0 : Nat) + List.length (Prod.fst (Prod.snd (Prod.snd (Prod.snd (Prod.snd
 (Prod.snd f))))))) : Int) → (0 : Int) ≤ r_2 ∧ r_2 < (↑((0 : Nat) + List.length (Prod.fst (Prod.snd (Prod.snd (Prod.snd (Prod.snd (Prod.snd f))))))) : Int)) → ((↑((0 : Nat) + List.length (Prod.fst (Prod.snd (Prod.snd
 (Prod.snd (Prod.snd (Prod.snd f))))))) : Int) ≤ (0 : AT.den (AT.v Go.P9.I)) → r_2 = (0 : Int)) → fork (decide (r_2 < (↑((0 : Nat) + List.length (Prod.fst (Prod.snd (Prod.snd (Prod.snd (Prod.snd (Prod.snd f))))))) :
 Int))) (req (decide ((0 : Int) ≤ r_2 ∧ r_2 < (↑((0 : Nat) + List.length (Prod.fst (Prod.snd (Prod.snd (Prod.snd (Prod.snd (Prod.snd f))))))) : Int))) (req (decide (Int.toNat r_2 < List.length (seg (0 : Nat) (0 : Nat) []
 ++ Prod.fst (Prod.snd (Prod.snd (Prod.snd (Prod.snd (Prod.snd f)))))))) (req (inR Go.IntKind.i64 (Prod.fst (List.getD (seg (0 : Nat) (0 : Nat) [] ++ Prod.fst (Prod.snd (Prod.snd (Prod.snd (Prod.snd (Prod.snd f))))))
 (Int.toNat r_2) ((0 : Int), (0 : Int), (0 : Int))) - ((1 : Int) + r))) ((7 : Int) ≤ (4611686018427387904 : AT.den (AT.v Go.P9.I)) ∧ ∀ (r_3 : Int), ((0 : AT.den (AT.v Go.P9.I)) < (7 : Int) → (0 : Int) ≤ r_3 ∧ r_3 < (7 :
 Int)) → ((7 : Int) ≤ (0 : AT.den (AT.v Go.P9.I)) → r_3 = (0 : Int)) → AV.int Go.IntKind.i64 (Prod.snd (Prod.snd (List.getD (seg (0 : Nat) (0 : Nat) [] ++ Prod.fst (Prod.snd (Prod.snd (Prod.snd (Prod.snd (Prod.snd f))))))
 (Int.toNat r_2) ((0 : Int), (0 : Int), (0 : Int))))) = AV.int Go.IntKind.i64 (Prod.snd (Prod.snd (List.getD (seg (0 : Nat) (0 : Nat) [] ++ Prod.fst (Prod.snd (Prod.snd (Prod.snd (Prod.snd (Prod.snd f)))))) (Int.toNat
 r_2) ((0 : Int), (0 : Int), (0 : Int))))) ∧ AV.int Go.IntKind.i64 (Prod.fst (Prod.snd (List.getD (seg (0 : Nat) (0 : Nat) [] ++ Prod.fst (Prod.snd (Prod.snd (Prod.snd (Prod.snd (Prod.snd f)))))) (Int.toNat r_2) ((0 :
 Int), (0 : Int), (0 : Int))))) = AV.int Go.IntKind.i64 (Prod.fst (Prod.snd (List.getD (seg (0 : Nat) (0 : Nat) [] ++ Prod.fst (Prod.snd (Prod.snd (Prod.snd (Prod.snd (Prod.snd f)))))) (Int.toNat r_2) ((0 : Int), (0 :
 Int), (0 : Int))))) ∧ AV.int Go.IntKind.i64 (Prod.fst (List.getD (seg (0 : Nat) (0 : Nat) [] ++ Prod.fst (Prod.snd (Prod.snd (Prod.snd (Prod.snd (Prod.snd f)))))) (Int.toNat r_2) ((0 : Int), (0 : Int), (0 : Int)))) =
 AV.int Go.IntKind.i64 (Prod.fst (List.getD (seg (0 : Nat) (0 : Nat) [] ++ Prod.fst (Prod.snd (Prod.snd (Prod.snd (Prod.snd (Prod.snd f)))))) (Int.toNat r_2) ((0 : Int), (0 : Int), (0 : Int)))) ∧ AV.sl (5 : Nat) (3 : Nat)
 (0 : Nat) ((0 : Nat) + List.length (Prod.fst (Prod.snd (Prod.snd (Prod.snd (Prod.snd (Prod.snd f))))))) Option.none = AV.sl (5 : Nat) (3 : Nat) (0 : Nat) ((0 : Nat) + List.length (Prod.fst (Prod.snd (Prod.snd (Prod.snd
 (Prod.snd (Prod.snd f))))))) Option.none ∧ req (inR Go.IntKind.i64 (Prod.fst (Prod.snd (List.getD (seg (0 : Nat) (0 : Nat) [] ++ Prod.fst (Prod.snd (Prod.snd (Prod.snd (Prod.snd (Prod.snd f)))))) (Int.toNat r_2) ((0 :
 Int), (0 : Int), (0 : Int)))) - r_3)) (req (decide ((0 : Int) ≤ r_2 ∧ r_2 < (↑((0 : Nat) + List.length (Prod.fst (Prod.snd (Prod.snd (Prod.snd (Prod.snd (Prod.snd f))))))) : Int))) (req (decide (Int.toNat r_2 <
 List.length (seg (0 : Nat) (0 : Nat) [] ++ Prod.fst (Prod.snd (Prod.snd (Prod.snd (Prod.snd (Prod.snd f)))))))) (req (decide ((0 : Nat) + ((0 : Nat) + List.length (Prod.fst (Prod.snd (Prod.snd (Prod.snd (Prod.snd
 (Prod.snd f))))))) ≤ List.length (List.set (seg (0 : Nat) (0 : Nat) [] ++ Prod.fst (Prod.snd (Prod.snd (Prod.snd (Prod.snd (Prod.snd f)))))) (Int.toNat r_2) (if Prod.fst (List.getD (seg (0 : Nat) (0 : Nat) [] ++ Prod.fst
 (Prod.snd (Prod.snd (Prod.snd (Prod.snd (Prod.snd f)))))) (Int.toNat r_2) ((0 : Int), (0 : Int), (0 : Int))) - ((1 : Int) + r) > (0 : Int) then Prod.fst (List.getD (seg (0 : Nat) (0 : Nat) [] ++ Prod.fst (Prod.snd
 (Prod.snd (Prod.snd (Prod.snd (Prod.snd f)))))) (Int.toNat r_2) ((0 : Int), (0 : Int), (0 : Int))) - ((1 : Int) + r) else (0 : Int), if Prod.fst (Prod.snd (List.getD (seg (0 : Nat) (0 : Nat) [] ++ Prod.fst (Prod.snd
 (Prod.snd (Prod.snd (Prod.snd (Prod.snd f)))))) (Int.toNat r_2) ((0 : Int), (0 : Int), (0 : Int)))) - r_3 > (0 : Int) then Prod.fst (Prod.snd (List.getD (seg (0 : Nat) (0 : Nat) [] ++ Prod.fst (Prod.snd (Prod.snd
 (Prod.snd (Prod.snd (Prod.snd f)))))) (Int.toNat r_2) ((0 : Int), (0 : Int), (0 : Int)))) - r_3 else (0 : Int), Prod.snd (Prod.snd (List.getD (seg (0 : Nat) (0 : Nat) [] ++ Prod.fst (Prod.snd (Prod.snd (Prod.snd
 (Prod.snd (Prod.snd f)))))) (Int.toNat r_2) ((0 : Int), (0 : Int), (0 : Int)))))))) (K ((Prod.fst f, Prod.fst (Prod.snd f), Prod.fst (Prod.snd (Prod.snd f)), Prod.fst (Prod.snd (Prod.snd (Prod.snd f))), Prod.fst
 (Prod.snd (Prod.snd (Prod.snd (Prod.snd f)))), seg (0 : Nat) ((0 : Nat) + List.length (Prod.fst (Prod.snd (Prod.snd (Prod.snd (Prod.snd (Prod.snd f))))))) (List.set (seg (0 : Nat) (0 : Nat) [] ++ Prod.fst (Prod.snd
 (Prod.snd (Prod.snd (Prod.snd (Prod.snd f)))))) (Int.toNat r_2) (if Prod.fst (List.getD (seg (0 : Nat) (0 : Nat) [] ++ Prod.fst (Prod.snd (Prod.snd (Prod.snd (Prod.snd (Prod.snd f)))))) (Int.toNat r_2) ((0 : Int), (0 :
 Int), (0 : Int))) - ((1 : Int) + r) > (0 : Int) then Prod.fst (List.getD (seg (0 : Nat) (0 : Nat) [] ++ Prod.fst (Prod.snd (Prod.snd (Prod.snd (Prod.snd (Prod.snd f)))))) (Int.toNat r_2) ((0 : Int), (0 : Int), (0 :
 Int))) - ((1 : Int) + r) else (0 : Int), if Prod.fst (Prod.snd (List.getD (seg (0 : Nat) (0 : Nat) [] ++ Prod.fst (Prod.snd (Prod.snd (Prod.snd (Prod.snd (Prod.snd f)))))) (Int.toNat r_2) ((0 : Int), (0 : Int), (0 :
 Int)))) - r_3 > (0 : Int) then Prod.fst (Prod.snd (List.getD (seg (0 : Nat) (0 : Nat) [] ++ Prod.fst (Prod.snd (Prod.snd (Prod.snd (Prod.snd (Prod.snd f)))))) (Int.toNat r_2) ((0 : Int), (0 : Int), (0 : Int)))) - r_3
 else (0 : Int), Prod.snd (Prod.snd (List.getD (seg (0 : Nat) (0 : Nat) [] ++ Prod.fst (Prod.snd (Prod.snd (Prod.snd (Prod.snd (Prod.snd f)))))) (Int.toNat r_2) ((0 : Int), (0 : Int), (0 : Int)))))), Prod.snd (Prod.snd
 (Prod.snd (Prod.snd (Prod.snd (Prod.snd f)))))), ()))))))))) (req (decide ((0 : Nat) + ((0 : Nat) + List.length (Prod.fst (Prod.snd (Prod.snd (Prod.snd (Prod.snd (Prod.snd f))))))) ≤ List.length (seg (0 : Nat) (0 : Nat)
 [] ++ Prod.fst (Prod.snd (Prod.snd (Prod.snd (Prod.snd (Prod.snd f)))))))) (K ((Prod.fst f, Prod.fst (Prod.snd f), Prod.fst (Prod.snd (Prod.snd f)), Prod.fst (Prod.snd (Prod.snd (Prod.snd f))), Prod.fst (Prod.snd
 (Prod.snd (Prod.snd (Prod.snd f)))), seg (0 : Nat) ((0 : Nat) + List.length (Prod.fst (Prod.snd (Prod.snd (Prod.snd (Prod.snd (Prod.snd f))))))) (seg (0 : Nat) (0 : Nat) [] ++ Prod.fst (Prod.snd (Prod.snd (Prod.snd
 (Prod.snd (Prod.snd f)))))), Prod.snd (Prod.snd (Prod.snd (Prod.snd (Prod.snd (Prod.snd f)))))), ()))))) (fork (r_1 == (6 : Int)) (req (fitsN ((0 : Nat) + List.length (Prod.fst (Prod.snd (Prod.snd (Prod.snd (Prod.snd
 (Prod.snd f))))))) (24 : Nat)) ((↑((0 : Nat) + List.length (Prod.fst (Prod.snd (Prod.snd (Prod.snd (Prod.snd (Prod.snd f))))))) : Int) ≤ (4611686018427387904 : AT.den (AT.v Go.P9.I)) ∧ ∀ (r_2 : Int), ((0 : AT.den (AT.v
 Go.P9.I)) < (↑((0 : Nat) + List.length (Prod.fst (Prod.snd (Prod.snd (Prod.snd (Prod.snd (Prod.snd f))))))) : Int) → (0 : Int) ≤ r_2 ∧ r_2 < (↑((0 : Nat) + List.length (Prod.fst (Prod.snd (Prod.snd (Prod.snd (Prod.snd
 (Prod.snd f))))))) : Int)) → ((↑((0 : Nat) + List.length (Prod.fst (Prod.snd (Prod.snd (Prod.snd (Prod.snd (Prod.snd f))))))) : Int) ≤ (0 : AT.den (AT.v Go.P9.I)) → r_2 = (0 : Int)) → fork (decide (r_2 < (↑((0 : Nat) +
 List.length (Prod.fst (Prod.snd (Prod.snd (Prod.snd (Prod.snd (Prod.snd f))))))) : Int))) (req (decide ((0 : Int) ≤ r_2 ∧ r_2 < (↑((0 : Nat) + List.length (Prod.fst (Prod.snd (Prod.snd (Prod.snd (Prod.snd (Prod.snd
 f))))))) : Int))) (req (decide (Int.toNat r_2 < List.length (seg (0 : Nat) (0 : Nat) [] ++ Prod.fst (Prod.snd (Prod.snd (Prod.snd (Prod.snd (Prod.snd f)))))))) (req (inR Go.IntKind.i64 (Prod.fst (List.getD (seg (0 : Nat)
 (0 : Nat) [] ++ Prod.fst (Prod.snd (Prod.snd (Prod.snd (Prod.snd (Prod.snd f)))))) (Int.toNat r_2) ((0 : Int), (0 : Int), (0 : Int))) - ((1 : Int) + r))) ((7 : Int) ≤ (4611686018427387904 : AT.den (AT.v Go.P9.I)) ∧ ∀
 (r_3 : Int), ((0 : AT.den (AT.v Go.P9.I)) < (7 : Int) → (0 : Int) ≤ r_3 ∧ r_3 < (7 : Int)) → ((7 : Int) ≤ (0 : AT.den (AT.v Go.P9.I)) → r_3 = (0 : Int)) → AV.int Go.IntKind.i64 (Prod.snd (Prod.snd (List.getD (seg (0 :
 Nat) (0 : Nat) [] ++ Prod.fst (Prod.snd (Prod.snd (Prod.snd (Prod.snd (Prod.snd f)))))) (Int.toNat r_2) ((0 : Int), (0 : Int), (0 : Int))))) = AV.int Go.IntKind.i64 (Prod.snd (Prod.snd (List.getD (seg (0 : Nat) (0 : Nat)
 [] ++ Prod.fst (Prod.snd (Prod.snd (Prod.snd (Prod.snd (Prod.snd f)))))) (Int.toNat r_2) ((0 : Int), (0 : Int), (0 : Int))))) ∧ AV.int Go.IntKind.i64 (Prod.fst (Prod.snd (List.getD (seg (0 : Nat) (0 : Nat) [] ++ Prod.fst
 (Prod.snd (Prod.snd (Prod.snd (Prod.snd (Prod.snd f)))))) (Int.toNat r_2) ((0 : Int), (0 : Int), (0 : Int))))) = AV.int Go.IntKind.i64 (Prod.fst (Prod.snd (List.getD (seg (0 : Nat) (0 : Nat) [] ++ Prod.fst (Prod.snd
 (Prod.snd (Prod.snd (Prod.snd (Prod.snd f)))))) (Int.toNat r_2) ((0 : Int), (0 : Int), (0 : Int))))) ∧ AV.int Go.IntKind.i64 (Prod.fst (List.getD (seg (0 : Nat) (0 : Nat) [] ++ Prod.fst (Prod.snd (Prod.snd (Prod.snd
 (Prod.snd (Prod.snd f)))))) (Int.toNat r_2) ((0 : Int), (0 : Int), (0 : Int)))) = AV.int Go.IntKind.i64 (Prod.fst (List.getD (seg (0 : Nat) (0 : Nat) [] ++ Prod.fst (Prod.snd (Prod.snd (Prod.snd (Prod.snd (Prod.snd
 f)))))) (Int.toNat r_2) ((0 : Int), (0 : Int), (0 : Int)))) ∧ AV.sl (5 : Nat) (3 : Nat) (0 : Nat) ((0 : Nat) + List.length (Prod.fst (Prod.snd (Prod.snd (Prod.snd (Prod.snd (Prod.snd f))))))) Option.none = AV.sl (5 :
 Nat) (3 : Nat) (0 : Nat) ((0 : Nat) + List.length (Prod.fst (Prod.snd (Prod.snd (Prod.snd (Prod.snd (Prod.snd f))))))) Option.none ∧ req (inR Go.IntKind.i64 (Prod.fst (Prod.snd (List.getD (seg (0 : Nat) (0 : Nat) [] ++
 Prod.fst (Prod.snd (Prod.snd (Prod.snd (Prod.snd (Prod.snd f)))))) (Int.toNat r_2) ((0 : Int), (0 : Int), (0 : Int)))) - r_3)) (req (decide ((0 : Int) ≤ r_2 ∧ r_2 < (↑((0 : Nat) + List.length (Prod.fst (Prod.snd
 (Prod.snd (Prod.snd (Prod.snd (Prod.snd f))))))) : Int))) (req (decide (Int.toNat r_2 < List.length (seg (0 : Nat) (0 : Nat) [] ++ Prod.fst (Prod.snd (Prod.snd (Prod.snd (Prod.snd (Prod.snd f)))))))) (req (decide ((0 :
 Nat) + ((0 : Nat) + List.length (Prod.fst (Prod.snd (Prod.snd (Prod.snd (Prod.snd (Prod.snd f))))))) ≤ List.length (List.set (seg (0 : Nat) (0 : Nat) [] ++ Prod.fst (Prod.snd (Prod.snd (Prod.snd (Prod.snd (Prod.snd
 f)))))) (Int.toNat r_2) (if Prod.fst (List.getD (seg (0 : Nat) (0 : Nat) [] ++ Prod.fst (Prod.snd (Prod.snd (Prod.snd (Prod.snd (Prod.snd f)))))) (Int.toNat r_2) ((0 : Int), (0 : Int), (0 : Int))) - ((1 : Int) + r) > (0
 : Int) then Prod.fst (List.getD (seg (0 : Nat) (0 : Nat) [] ++ Prod.fst (Prod.snd (Prod.snd (Prod.snd (Prod.snd (Prod.snd f)))))) (Int.toNat r_2) ((0 : Int), (0 : Int), (0 : Int))) - ((1 : Int) + r) else (0 : Int), if
 Prod.fst (Prod.snd (List.getD (seg (0 : Nat) (0 : Nat) [] ++ Prod.fst (Prod.snd (Prod.snd (Prod.snd (Prod.snd (Prod.snd f)))))) (Int.toNat r_2) ((0 : Int), (0 : Int), (0 : Int)))) - r_3 > (0 : Int) then Prod.fst
 (Prod.snd (List.getD (seg (0 : Nat) (0 : Nat) [] ++ Prod.fst (Prod.snd (Prod.snd (Prod.snd (Prod.snd (Prod.snd f)))))) (Int.toNat r_2) ((0 : Int), (0 : Int), (0 : Int)))) - r_3 else (0 : Int), Prod.snd (Prod.snd
 (List.getD (seg (0 : Nat) (0 : Nat) [] ++ Prod.fst (Prod.snd (Prod.snd (Prod.snd (Prod.snd (Prod.snd f)))))) (Int.toNat r_2) ((0 : Int), (0 : Int), (0 : Int)))))))) (K ((Prod.fst f, Prod.fst (Prod.snd f), Prod.fst
 (Prod.snd (Prod.snd f)), Prod.fst (Prod.snd (Prod.snd (Prod.snd f))), Prod.fst (Prod.snd (Prod.snd (Prod.snd (Prod.snd f)))), seg (0 : Nat) ((0 : Nat) + List.length (Prod.fst (Prod.snd (Prod.snd (Prod.snd (Prod.snd
 (Prod.snd f))))))) (List.set (seg (0 : Nat) (0 : Nat) [] ++ Prod.fst (Prod.snd (Prod.snd (Prod.snd (Prod.snd (Prod.snd f)))))) (Int.toNat r_2) (if Prod.fst (List.getD (seg (0 : Nat) (0 : Nat) [] ++ Prod.fst (Prod.snd
 (Prod.snd (Prod.snd (Prod.snd (Prod.snd f)))))) (Int.toNat r_2) ((0 : Int), (0 : Int), (0 : Int))) - ((1 : Int) + r) > (0 : Int) then Prod.fst (List.getD (seg (0 : Nat) (0 : Nat) [] ++ Prod.fst (Prod.snd (Prod.snd
 (Prod.snd (Prod.snd (Prod.snd f)))))) (Int.toNat r_2) ((0 : Int), (0 : Int), (0 : Int))) - ((1 : Int) + r) else (0 : Int), if Prod.fst (Prod.snd (List.getD (seg (0 : Nat) (0 : Nat) [] ++ Prod.fst (Prod.snd (Prod.snd
 (Prod.snd (Prod.snd (Prod.snd f)))))) (Int.toNat r_2) ((0 : Int), (0 : Int), (0 : Int)))) - r_3 > (0 : Int) then Prod.fst (Prod.snd (List.getD (seg (0 : Nat) (0 : Nat) [] ++ Prod.fst (Prod.snd (Prod.snd (Prod.snd
 (Prod.snd (Prod.snd f)))))) (Int.toNat r_2) ((0 : Int), (0 : Int), (0 : Int)))) - r_3 else (0 : Int), Prod.snd (Prod.snd (List.getD (seg (0 : Nat) (0 : Nat) [] ++ Prod.fst (Prod.snd (Prod.snd (Prod.snd (Prod.snd
 (Prod.snd f)))))) (Int.toNat r_2) ((0 : Int), (0 : Int), (0 : Int)))))), Prod.snd (Prod.snd (Prod.snd (Prod.snd (Prod.snd (Prod.snd f)))))), ()))))))))) (req (decide ((0 : Nat) + ((0 : Nat) + List.length (Prod.fst
 (Prod.snd (Prod.snd (Prod.snd (Prod.snd (Prod.snd f))))))) ≤ List.length (seg (0 : Nat) (0 : Nat) [] ++ Prod.fst (Prod.snd (Prod.snd (Prod.snd (Prod.snd (Prod.snd f)))))))) (K ((Prod.fst f, Prod.fst (Prod.snd f),
 Prod.fst (Prod.snd (Prod.snd f)), Prod.fst (Prod.snd (Prod.snd (Prod.snd f))), Prod.fst (Prod.snd (Prod.snd (Prod.snd (Prod.snd f)))), seg (0 : Nat) ((0 : Nat) + List.length (Prod.fst (Prod.snd (Prod.snd (Prod.snd
 (Prod.snd (Prod.snd f))))))) (seg (0 : Nat) (0 : Nat) [] ++ Prod.fst (Prod.snd (Prod.snd (Prod.snd (Prod.snd (Prod.snd f)))))), Prod.snd (Prod.snd (Prod.snd (Prod.snd (Prod.snd (Prod.snd f)))))), ()))))) (req (inR
 Go.IntKind.i64 (Prod.fst (Prod.snd (Prod.snd (Prod.snd (Prod.snd (Prod.snd (Prod.snd (Prod.snd f))))))) - (1 : Int))) (K ((Prod.fst f, Prod.fst (Prod.snd f), Prod.fst (Prod.snd (Prod.snd f)), Prod.fst (Prod.snd (Prod.snd
 (Prod.snd f))), Prod.fst (Prod.snd (Prod.snd (Prod.snd (Prod.snd f)))), Prod.fst (Prod.snd (Prod.snd (Prod.snd (Prod.snd (Prod.snd f))))), Prod.fst (Prod.snd (Prod.snd (Prod.snd (Prod.snd (Prod.snd (Prod.snd f)))))), if
 Prod.fst (Prod.snd (Prod.snd (Prod.snd (Prod.snd (Prod.snd (Prod.snd (Prod.snd f))))))) - (1 : Int) > (0 : Int) then Prod.fst (Prod.snd (Prod.snd (Prod.snd (Prod.snd (Prod.snd (Prod.snd (Prod.snd f))))))) - (1 : Int)
 else (0 : Int), Prod.snd (Prod.snd (Prod.snd (Prod.snd (Prod.snd (Prod.snd (Prod.snd (Prod.snd f)))))))), ()))))))))))) := by kernel_rfl
/-! the law -/
abbrev fc6 : FC := ⟨[.v TF, .v L, .v A3], [.b], fun x K => (bigF x.1 ∧ x.2.1.length ≤ 9223372036854775807) ∧ K (true, ())⟩
theorem v6F (f : Fd) (l : List Int) (n : N3) (K : dens [.b] → Prop) : (xfn1 Try.prog { f := [(17, fcSound), (23, fcCap), (28, fcBet), (29, fcCheck), (25, fcBears), (19, fcWorks)] } 5 6 fc6 (f, l, n, ()) K) =
((Go.P9.bigF f ∧ List.length l ≤ (9223372036854775807 : Nat)) ∧ Go.P9.bigF f ∧ fork (Go.P9.chkE f != (0 : Int)) (fork (Go.P9.soundE f l == Go.P9.chkE f) (K (Bool.true, ())) (K (Bool.false, ()))) (Go.P9.okF f = Bool.true
 ∧ ∀ (g : Go.P9.Fd), Go.P9.bet f g → Go.P9.bigF g ∧ fork (Go.P9.chkE g != (0 : Int)) (K (Bool.false, ())) ((Go.P9.bigF g ∧ List.length l ≤ (9223372036854775807 : Nat)) ∧ Go.P9.bigF g ∧ Go.P9.bigF f ∧ Go.P9.bigF g ∧ fork
 (Go.P9.chkE g != (0 : Int)) (K (Bool.false, ())) (fork (decide (Go.P9.capR g > Go.P9.capR f)) (K (Bool.false, ())) (fork (Go.P9.soundE f l == (0 : Int)) (fork (Go.P9.soundE g l != (0 : Int)) (K (Bool.false, ())) (fork
 (Go.P9.okF f && (Go.P9.planB f l && Go.P9.soundB f l)) (fork (!(Go.P9.okF g && (Go.P9.planB g l && Go.P9.soundB g l))) (K (Bool.false, ())) (fork (Prod.snd (Go.P9.bearsR f) != (0 : Int)) (K (Bool.true, ())) (fork
 (Prod.snd (Go.P9.bearsR g) == (0 : Int)) (fork (decide (Prod.fst (Go.P9.bearsR g) ≥ Prod.fst (Go.P9.bearsR f))) (K (Bool.true, ())) (K (Bool.false, ()))) (K (Bool.false, ()))))) (fork (Prod.snd (Go.P9.bearsR f) != (0 :
 Int)) (K (Bool.true, ())) (fork (Prod.snd (Go.P9.bearsR g) == (0 : Int)) (fork (decide (Prod.fst (Go.P9.bearsR g) ≥ Prod.fst (Go.P9.bearsR f))) (K (Bool.true, ())) (K (Bool.false, ()))) (K (Bool.false, ())))))) (fork
 (Go.P9.okF f && (Go.P9.planB f l && Go.P9.soundB f l)) (fork (!(Go.P9.okF g && (Go.P9.planB g l && Go.P9.soundB g l))) (K (Bool.false, ())) (fork (Prod.snd (Go.P9.bearsR f) != (0 : Int)) (K (Bool.true, ())) (fork
 (Prod.snd (Go.P9.bearsR g) == (0 : Int)) (fork (decide (Prod.fst (Go.P9.bearsR g) ≥ Prod.fst (Go.P9.bearsR f))) (K (Bool.true, ())) (K (Bool.false, ()))) (K (Bool.false, ()))))) (fork (Prod.snd (Go.P9.bearsR f) != (0 :
 Int)) (K (Bool.true, ())) (fork (Prod.snd (Go.P9.bearsR g) == (0 : Int)) (fork (decide (Prod.fst (Go.P9.bearsR g) ≥ Prod.fst (Go.P9.bearsR f))) (K (Bool.true, ())) (K (Bool.false, ()))) (K (Bool.false, ())))))))))) := by kernel_rfl
end Go.P9
