/- Spreading: states and what is to be shown, reduced. No conditions. -/
import Derived.Test.YtnjaebjhfilljaaDuesS
set_option linter.unusedSimpArgs false
set_option linter.unusedVariables false
set_option linter.constructorNameAsVariable false
set_option maxRecDepth 100000
namespace Go.P7
open Go.Lom Go.Proofs Go

/-- Where the dues of a rank stand. -/
def idxR (r : Int) : List (Int × Int) → Int → List Int
  | [], _ => []
  | d :: l, i => if d.1 = r then i :: idxR r l (i + 1) else idxR r l (i + 1)
abbrev CR : AT := .clo 86 [(false, I)] []
abbrev sh85 : Shape := [(1, .a CR), (5, .own I), (8, .v LD), (9, .v I), (10, .v I)]
abbrev sh85E : Shape := [(5, .own I)]
def s85L (r : Int) (out : List Int) (l : List (Int × Int)) (m i : Int) (Q : LQ) : Prop :=
  (0 ≤ i ∧ i ≤ l.length ∧ m = l.length ∧ l.length ≤ 24 ∧ out.length ≤ i) ∧ ∀ o, o = out ++ idxR r (l.drop i.toNat) i → Q (.exit 0) (shSt sh85E (o, ()))
abbrev lc85 : LC := ⟨sh85, fun x Q => s85L x.1.1.1 x.2.1 x.2.2.1 x.2.2.2.1 x.2.2.2.2.1 Q⟩
theorem v85L (r : Int) (out : List Int) (l : List (Int × Int)) (m i : Int) (Q : AX → St → Prop) : (xloop Try.prog [] [] 5 85 0 lc85 (one sh85E) (fun x => mLenD x.2.2.1 x.2.2.2.2.1) (((r, ()), ()), out, l, m, i, ()) Q) =
  (fork (decide (i < m)) (req (decide ((0 : Int) ≤ i ∧ i < (↑(l.length) : Int))) (fork ((List.getD l (Int.toNat i) ((0 : Int), (0 : Int))).1 == r) (req (decide (0 + out.length ≤ out.length)) (req (fitsN (out.length +
 List.length (seg 0 1 [i])) 8) (req (inR IntKind.i64 (i + 1)) (req (decide (0 + (out.length + List.length (seg 0 1 [i])) ≤ List.length (seg 0 (out.length) out ++ seg 0 1 [i]))) (Go.P7.mLenD l (i + 1) < Go.P7.mLenD l i ∧
 LC.spec Go.P7.lc85 (((r, ()), ()), seg 0 (out.length + List.length (seg 0 1 [i])) (seg 0 (out.length) out ++ seg 0 1 [i]), l, m, i + 1, ()) Q))))) (req (inR IntKind.i64 (i + 1)) (req (decide (0 + out.length ≤ out.length))
 (Go.P7.mLenD l (i + 1) < Go.P7.mLenD l i ∧ LC.spec Go.P7.lc85 (((r, ()), ()), seg 0 (out.length) out, l, m, i + 1, ()) Q))))) (req (decide (0 + out.length ≤ out.length)) (Q (AX.exit 0) (shSt Go.P7.sh85E (seg 0
 (out.length) out, ()))))) := by kernel_rfl
def s85 (l : List (Int × Int)) (r : Int) (K : List Int → Prop) : Prop := l.length ≤ 24 ∧ ∀ o, o = idxR r l 0 → K o
abbrev fc85 : FC := ⟨[.v LD, CR], [L], fun x K => s85 x.1 x.2.1.1.1 fun r => K (r, ())⟩
theorem v85F (l : List (Int × Int)) (r : Int) (K : dens [L] → Prop) : (xfn Try.prog [] [(85, 0, lc85)] 5 85 fc85 (l, ((r, ()), ()), ()) K) =
  (((0 : Int) ≤ (0 : Int) ∧ (0 : Int) ≤ (↑(l.length) : Int) ∧ (↑(l.length) : Int) = (↑(l.length) : Int) ∧ l.length ≤ 24 ∧ (0 : Int) ≤ (0 : Int)) ∧ ∀ (o : List Int), o = [] ++ Go.P7.idxR r (List.drop 0 l) (0 : Int) → req
 (decide (0 + o.length ≤ o.length)) (K (seg 0 (o.length) o, ()))) := by kernel_rfl
end Go.P7
