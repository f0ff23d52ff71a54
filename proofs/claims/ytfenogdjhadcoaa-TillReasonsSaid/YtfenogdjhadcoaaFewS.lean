/- TillFewest: states and what is to be shown, reduced. No conditions. -/
import Derived.Test.YtfenogdjhadcoaaRefS8
set_option linter.unusedSimpArgs false
set_option linter.unusedVariables false
set_option linter.constructorNameAsVariable false
set_option maxRecDepth 100000
set_option maxHeartbeats 2000000
namespace Go.P8
open Go.Lom Go.Proofs Go

/-- May so many pieces of a kind be taken? -/
def goodAt (cs l hv : List Int) (i : Nat) : Bool := decide (i < cs.length) && decide (i < hv.length) && decide (0 ≤ l.getD i 0 ∧ l.getD i 0 ≤ hv.getD i 0) && decide (1 ≤ cs.getD i 0 ∧ cs.getD i 0 ≤ 50000) && decide (l.getD i 0 ≤ 100)
def goodF (cs l hv : List Int) (i : Nat) : Bool := (List.range' i (l.length - i)).all (goodAt cs l hv)
abbrev sh25 : SV := S [(0, .v L), (1, .v L), (2, .v L), (8, .v I), (9, .v I)]
abbrev sh25e : SV := S [(0, .v L), (1, .v L), (8, .v I)]
abbrev sh25r : SV := S [(6, .v I), (7, .v .b)]
def ex25 : Ex2
  | .ret => some (sh25r, 0)
  | _ => some (sh25e, 0)
abbrev lc25 : LC2 := ⟨0, sh25, 0, fun (cs, l, hv, n, i, _) Q => (0 ≤ i ∧ i ≤ l.length ∧ l.length ≤ big ∧ inR .i64 n = true ∧ (cs.length ≤ 8 → 0 ≤ n ∧ n ≤ i * 5000000)) ∧
  (goodF cs l hv i.toNat = false → Q .ret (stS 0 sh25r (0, false, ()))) ∧
  (goodF cs l hv i.toNat = true → ∀ r : Int, inR .i64 r = true → (cs.length ≤ 8 → r = n + valueN (cs.drop i.toNat) (l.drop i.toNat)) → Q (.exit 0) (stS 0 sh25e (cs, l, r, ())))⟩
theorem v25L (cs l hv : List Int) (n i : Int) (Q : AX → St → Prop) : (xloop2 Try.prog { wr := true, f := [(26, fcFrom)] } 5 25 0 lc25 ex25 (fun (_, l, _, _, i, _) => mL l i) (cs, l, hv, n, i, ()) Q) =
  (fork (decide (i < (↑(l.length) : Int))) (fork (decide (i ≥ (↑(cs.length) : Int))) (Q AX.ret (stS 0 Go.P8.sh25r ((0 : Int), false, ()))) (fork (decide (i ≥ (↑(hv.length) : Int))) (Q AX.ret (stS 0 Go.P8.sh25r ((0 : Int),
 false, ()))) (req (decide ((0 : Int) ≤ i ∧ i < (↑(l.length) : Int))) (req (decide ((0 : Int) ≤ i ∧ i < (↑(hv.length) : Int))) (fork (!decide ((0 : Int) ≤ List.getD l (Int.toNat i) (0 : Int) ∧ List.getD l (Int.toNat i) (0
 : Int) ≤ List.getD hv (Int.toNat i) (0 : Int))) (Q AX.ret (stS 0 Go.P8.sh25r ((0 : Int), false, ()))) (req (decide ((0 : Int) ≤ i ∧ i < (↑(cs.length) : Int))) (fork (!decide ((1 : Int) ≤ List.getD cs (Int.toNat i) (0 :
 Int) ∧ List.getD cs (Int.toNat i) (0 : Int) ≤ (50000 : Int))) (Q AX.ret (stS 0 Go.P8.sh25r ((0 : Int), false, ()))) (req (decide ((0 : Int) ≤ i ∧ i < (↑(l.length) : Int))) (fork (decide (List.getD l (Int.toNat i) (0 :
 Int) > (100 : Int))) (Q AX.ret (stS 0 Go.P8.sh25r ((0 : Int), false, ()))) (req (decide ((0 : Int) ≤ i ∧ i < (↑(l.length) : Int))) (req (decide ((0 : Int) ≤ i ∧ i < (↑(cs.length) : Int))) (req (inR IntKind.i64 (List.getD
 l (Int.toNat i) (0 : Int) * List.getD cs (Int.toNat i) (0 : Int))) (Go.P8.mL l (wrapA IntKind.i64 (i + 1)) < Go.P8.mL l i ∧ LC2.spec Go.P8.lc25 (cs, l, hv, wrapA IntKind.i64 (n + List.getD l (Int.toNat i) (0 : Int) *
 List.getD cs (Int.toNat i) (0 : Int)), wrapA IntKind.i64 (i + 1), ()) Q))))))))))))) (Q (AX.exit 0) (stS 0 Go.P8.sh25e (cs, l, n, ())))) := by kernel_rfl
def aheadB : List Int → List Int → Bool
  | [], b => decide (0 < b.length)
  | _ :: _, [] => false
  | x :: a, y :: b => if x = y then aheadB a b else decide (x < y)
abbrev sh28 : SV := S [(0, .v L), (1, .v L), (5, .v I)]
abbrev sh28e : SV := S [(0, .v L), (1, .v L)]
def ex28 : Ex2
  | .ret => some (S [(4, .v .b)], 0)
  | _ => some (sh28e, 0)
abbrev lc28 : LC2 := ⟨0, sh28, 0, fun (a, b, i, _) Q => (0 ≤ i ∧ i ≤ a.length ∧ i ≤ b.length ∧ a.length ≤ big) ∧
  (∀ r : Bool, r = aheadB (a.drop i.toNat) (b.drop i.toNat) → Q .ret (stS 0 (S [(4, .v .b)]) (r, ()))) ∧ (aheadB (a.drop i.toNat) (b.drop i.toNat) = decide (a.length < b.length) → Q (.exit 0) (stS 0 sh28e (a, b, ())))⟩
theorem v28L (a b : List Int) (i : Int) (Q : AX → St → Prop) : (xloop2 Try.prog {} 5 28 0 lc28 ex28 (fun (a, _, i, _) => mL a i) (a, b, i, ()) Q) =
  (fork (decide (i < (↑(a.length) : Int))) (fork (decide (i < (↑(b.length) : Int))) (req (decide ((0 : Int) ≤ i ∧ i < (↑(a.length) : Int))) (req (decide ((0 : Int) ≤ i ∧ i < (↑(b.length) : Int))) (fork (List.getD a
 (Int.toNat i) (0 : Int) != List.getD b (Int.toNat i) (0 : Int)) (req (decide ((0 : Int) ≤ i ∧ i < (↑(a.length) : Int))) (req (decide ((0 : Int) ≤ i ∧ i < (↑(b.length) : Int))) (Q AX.ret (stS 0 (Go.P8.S [(4, SV.v Ty.b)])
 (decide (List.getD a (Int.toNat i) (0 : Int) < List.getD b (Int.toNat i) (0 : Int)), ()))))) (req (inR IntKind.i64 (i + 1)) (Go.P8.mL a (i + 1) < Go.P8.mL a i ∧ LC2.spec Go.P8.lc28 (a, b, i + 1, ()) Q))))) (Q (AX.exit 0)
 (stS 0 Go.P8.sh28e (a, b, ())))) (Q (AX.exit 0) (stS 0 Go.P8.sh28e (a, b, ())))) := by kernel_rfl
abbrev fcAhead : FC := ⟨[.v L, .v L], [.b], fun x K => x.1.length ≤ big ∧ ∀ r : Bool, r = aheadB x.1 x.2.1 → K (r, ())⟩
theorem v28F (a b : List Int) (K : dens [.b] → Prop) : (xfn1 Try.prog { l2 := [(28, 0, lc28)] } 5 28 fcAhead (a, b, ()) K) =
  (((0 : SV.den (SV.slot 5 (SV.v Go.P8.I))) ≤ (0 : Int) ∧ (0 : Int) ≤ (↑(a.length) : SV.den (SV.slot 5 (SV.v Go.P8.I))) ∧ (0 : Int) ≤ (↑(b.length) : SV.den (SV.slot 5 (SV.v Go.P8.I))) ∧ a.length ≤ 9223372036854775807) ∧ (∀
 (r : Bool), r = Go.P8.aheadB (List.drop 0 a) (List.drop 0 b) → K (r, ())) ∧ (Go.P8.aheadB (List.drop 0 a) (List.drop 0 b) = decide (a.length < b.length) → K (decide ((↑(a.length) : Int) < (↑(b.length) : Int)), ()))) := by kernel_rfl
/-! the statement -/
end Go.P8
