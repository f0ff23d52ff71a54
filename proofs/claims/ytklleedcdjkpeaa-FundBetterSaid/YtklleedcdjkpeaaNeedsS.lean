/- Funds: needs: states and what is to be shown, reduced. No conditions. -/
import Derived.Test.YtklleedcdjkpeaaWorstS
set_option linter.unusedSimpArgs false
set_option linter.unusedVariables false
set_option linter.constructorNameAsVariable false
set_option maxRecDepth 100000
set_option maxHeartbeats 2000000
namespace Go.P9
open Go.Lom Go.Proofs Go

def dueI (f : Fd) (i due : Int) : Int := due + ((fBonds f).getD i.toNat 0 - ((fIn f).getD i.toNat (0, 0)).1)
def needsK (f : Fd) : Nat → Int → Int → List Int
  | 0, _, _ => []
  | k + 1, i, due => (dueI f i due + (worstW f i).2) :: needsK f k (i + 1) (dueI f i due)
def needsL (f : Fd) : List Int := needsK f (fIn f).length 0 (-(fCash f))
def okN (f : Fd) (out : List Int) (due i : Int) : Prop := okF f = true ∧ 0 ≤ i ∧ i ≤ (fIn f).length ∧ out.length ≤ i ∧ -1099511627776 - 1073741824 * i ≤ due ∧ due ≤ 1073741824 * i
abbrev shN : SV := S [(3, .own 0 I)]
abbrev sh54 : SV := S [(1, bF), (3, .own 1 I), (4, .v I), (13, .v I), (14, .v I)]
def s54 (f : Fd) (out : List Int) (due n i : Int) (Q : LQ) : Prop := (okN f out due i ∧ n = (fIn f).length) ∧ Q (.exit 0) (stS 1 shN (out ++ needsK f ((fIn f).length - i.toNat) i due, ()))
abbrev lc54 : LC2 := ⟨0, sh54, 2, fun (f, out, due, n, i, _) Q => s54 f out due n i Q⟩
theorem v54L (f : Fd) (out : List Int) (due n i : Int) (Q : AX → St → Prop) : (xloop2 Try.prog { f := [(72, fcWorst)] } 5 54 0 lc54 (fun _ => some (shN, 1)) (fun (f, _, _, _, i, _) => mL (fIn f) i) (f, out, due, n, i, ()) Q) =
(fork (decide (i < n)) (req (decide ((0 : Int) ≤ i ∧ i < (↑(List.length (Prod.fst (Prod.snd (Prod.snd f)))) : Int))) (req (decide ((0 : Int) ≤ i ∧ i < (↑(List.length (Prod.fst (Prod.snd f))) : Int))) (req (inR
 Go.IntKind.i64 (List.getD (Prod.fst (Prod.snd (Prod.snd f))) (Int.toNat i) (0 : Int) - Prod.fst (List.getD (Prod.fst (Prod.snd f)) (Int.toNat i) ((0 : Int), (0 : Int))))) (req (inR Go.IntKind.i64 (due + (List.getD
 (Prod.fst (Prod.snd (Prod.snd f))) (Int.toNat i) (0 : Int) - Prod.fst (List.getD (Prod.fst (Prod.snd f)) (Int.toNat i) ((0 : Int), (0 : Int)))))) ((Go.P9.okF f = Bool.true ∧ (0 : AT.den (AT.v Go.P9.I)) ≤ i ∧ i ≤ (12 :
 AT.den (AT.v Go.P9.I))) ∧ req (inR Go.IntKind.i64 (due + (List.getD (Prod.fst (Prod.snd (Prod.snd f))) (Int.toNat i) (0 : Int) - Prod.fst (List.getD (Prod.fst (Prod.snd f)) (Int.toNat i) ((0 : Int), (0 : Int)))) +
 Prod.snd (Go.P9.worstW f i))) (req (decide ((0 : Nat) + List.length out ≤ List.length out)) (req (fitsN (List.length out + List.length (seg (0 : Nat) (1 : Nat) [due + (List.getD (Prod.fst (Prod.snd (Prod.snd f)))
 (Int.toNat i) (0 : Int) - Prod.fst (List.getD (Prod.fst (Prod.snd f)) (Int.toNat i) ((0 : Int), (0 : Int)))) + Prod.snd (Go.P9.worstW f i)])) (8 : Nat)) (req (inR Go.IntKind.i64 (i + (1 : Int))) (req (decide ((0 : Nat) +
 (List.length out + List.length (seg (0 : Nat) (1 : Nat) [due + (List.getD (Prod.fst (Prod.snd (Prod.snd f))) (Int.toNat i) (0 : Int) - Prod.fst (List.getD (Prod.fst (Prod.snd f)) (Int.toNat i) ((0 : Int), (0 : Int)))) +
 Prod.snd (Go.P9.worstW f i)])) ≤ List.length (seg (0 : Nat) (List.length out) out ++ seg (0 : Nat) (1 : Nat) [due + (List.getD (Prod.fst (Prod.snd (Prod.snd f))) (Int.toNat i) (0 : Int) - Prod.fst (List.getD (Prod.fst
 (Prod.snd f)) (Int.toNat i) ((0 : Int), (0 : Int)))) + Prod.snd (Go.P9.worstW f i)]))) (Go.P9.mL (Go.P9.fIn f) (i + (1 : Int)) < Go.P9.mL (Go.P9.fIn f) i ∧ LC2.spec Go.P9.lc54 (f, seg (0 : Nat) (List.length out +
 List.length (seg (0 : Nat) (1 : Nat) [due + (List.getD (Prod.fst (Prod.snd (Prod.snd f))) (Int.toNat i) (0 : Int) - Prod.fst (List.getD (Prod.fst (Prod.snd f)) (Int.toNat i) ((0 : Int), (0 : Int)))) + Prod.snd
 (Go.P9.worstW f i)])) (seg (0 : Nat) (List.length out) out ++ seg (0 : Nat) (1 : Nat) [due + (List.getD (Prod.fst (Prod.snd (Prod.snd f))) (Int.toNat i) (0 : Int) - Prod.fst (List.getD (Prod.fst (Prod.snd f)) (Int.toNat
 i) ((0 : Int), (0 : Int)))) + Prod.snd (Go.P9.worstW f i)]), due + (List.getD (Prod.fst (Prod.snd (Prod.snd f))) (Int.toNat i) (0 : Int) - Prod.fst (List.getD (Prod.fst (Prod.snd f)) (Int.toNat i) ((0 : Int), (0 :
 Int)))), n, i + (1 : Int), ()) Q)))))))))) (req (decide ((0 : Nat) + List.length out ≤ List.length out)) (Q (AX.exit (0 : Nat)) (stS (1 : Nat) Go.P9.shN (seg (0 : Nat) (List.length out) out, ()))))) := by kernel_rfl
abbrev fcN0 : FC := ⟨[.v TF], [L], fun x K => (okF x.1 = true) ∧ K (needsL x.1, ())⟩
theorem v54F (f : Fd) (K : dens [L] → Prop) : (xfn1 Try.prog { l2 := [(54, 0, lc54)] } 5 54 fcN0 (f, ()) K) =
(req (inR Go.IntKind.i64 (-Prod.fst f)) ((Go.P9.okN f [] (-Prod.fst f) (0 : Int) ∧ (↑(List.length (Prod.fst (Prod.snd f))) : Int) = (↑(List.length (Go.P9.fIn f)) : Int)) ∧ req (decide ((0 : Nat) + List.length ([] ++
 Go.P9.needsK f (List.length (Go.P9.fIn f) - (0 : Nat)) (0 : Int) (-Prod.fst f)) ≤ List.length ([] ++ Go.P9.needsK f (List.length (Go.P9.fIn f) - (0 : Nat)) (0 : Int) (-Prod.fst f)))) (K (seg (0 : Nat) (List.length ([] ++
 Go.P9.needsK f (List.length (Go.P9.fIn f) - (0 : Nat)) (0 : Int) (-Prod.fst f))) ([] ++ Go.P9.needsK f (List.length (Go.P9.fIn f) - (0 : Nat)) (0 : Int) (-Prod.fst f)), ())))) := by kernel_rfl
def dayIn (f : Fd) (day : Int) : Prop := 0 ≤ day ∧ day ≤ ((fIn f).length : Int) - 1
instance (f : Fd) (day : Int) : Decidable (dayIn f day) := inferInstanceAs (Decidable (_ ∧ _))
end Go.P9
