/- Spreading: states and what is to be shown, reduced. No conditions. -/
import Derived.Test.YtnjaebjhfilljaaDuesS
set_option linter.unusedSimpArgs false
set_option linter.unusedVariables false
set_option linter.constructorNameAsVariable false
set_option maxRecDepth 100000
namespace Go.P7
open Go.Lom Go.Proofs Go

/-- Where the dues of a rank stand. -/
def idxR (r : Int) : List (Int × Int) → Int → List Int
  | [], _ => []
  | d :: l, i => if d.1 = r then i :: idxR r l (i + 1) else idxR r l (i + 1)
abbrev CR : AT := .clo 86 [(false, I)] []
abbrev sh85 : Shape := [(1, .a CR), (5, .own I), (8, .v LD), (9, .v I), (10, .v I)]
abbrev sh85E : Shape := [(5, .own I)]
def s85L (r : Int) (out : List Int) (l : List (Int × Int)) (m i : Int) (Q : LQ) : Prop :=
  (0 ≤ i ∧ i ≤ l.length ∧ m = l.length ∧ l.length ≤ 24 ∧ out.length ≤ i) ∧ ∀ o, o = out ++ idxR r (l.drop i.toNat) i → Q (.exit 0) (shSt sh85E (o, ()))
abbrev lc85 : LC := ⟨sh85, fun x Q => s85L x.1.1.1 x.2.1 x.2.2.1 x.2.2.2.1 x.2.2.2.2.1 Q⟩
theorem v85L (r : Int) (out : List Int) (l : List (Int × Int)) (m i : Int) (Q : AX → St → Prop) : (xloop Try.prog [] [] 5 85 0 lc85 (one sh85E) (fun x => mLenD x.2.2.1 x.2.2.2.2.1) (((r, ()), ()), out, l, m, i, ()) Q) =
  (Go.Lom.fork (Decidable.decide (i < m))
      (Go.Lom.req (Decidable.decide ((0 : Int) ≤ i ∧ i < (↑(List.length l) : Int)))
        (Go.Lom.fork (Prod.fst (List.getD l (Int.toNat i) ((0 : Int), (0 : Int))) == r)
          (Go.Lom.req (Decidable.decide ((0 : Nat) + List.length out ≤ List.length out))
            (Go.Lom.req (Go.Lom.fitsN (List.length out + List.length (Go.Lom.seg (0 : Nat) (1 : Nat) [i])) (8 : Nat))
              (Go.Lom.req (Go.Lom.inR Go.IntKind.i64 (i + (1 : Int)))
                (Go.Lom.req
                  (Decidable.decide
                    ((0 : Nat) + (List.length out + List.length (Go.Lom.seg (0 : Nat) (1 : Nat) [i])) ≤
                      List.length (Go.Lom.seg (0 : Nat) (List.length out) out ++ Go.Lom.seg (0 : Nat) (1 : Nat) [i])))
                  (Go.P7.mLenD l (i + (1 : Int)) < Go.P7.mLenD l i ∧
                    Go.Lom.LC.spec Go.P7.lc85
                      (((r, ()), ()),
                        Go.Lom.seg (0 : Nat) (List.length out + List.length (Go.Lom.seg (0 : Nat) (1 : Nat) [i]))
                          (Go.Lom.seg (0 : Nat) (List.length out) out ++ Go.Lom.seg (0 : Nat) (1 : Nat) [i]),
                        l, m, i + (1 : Int), ())
                      Q)))))
          (Go.Lom.req (Go.Lom.inR Go.IntKind.i64 (i + (1 : Int)))
            (Go.Lom.req (Decidable.decide ((0 : Nat) + List.length out ≤ List.length out))
              (Go.P7.mLenD l (i + (1 : Int)) < Go.P7.mLenD l i ∧
                Go.Lom.LC.spec Go.P7.lc85
                  (((r, ()), ()), Go.Lom.seg (0 : Nat) (List.length out) out, l, m, i + (1 : Int), ()) Q)))))
      (Go.Lom.req (Decidable.decide ((0 : Nat) + List.length out ≤ List.length out))
        (Q (Go.Lom.AX.exit (0 : Nat)) (Go.Lom.shSt Go.P7.sh85E (Go.Lom.seg (0 : Nat) (List.length out) out, ()))))) := by kernel_rfl
def s85 (l : List (Int × Int)) (r : Int) (K : List Int → Prop) : Prop := l.length ≤ 24 ∧ ∀ o, o = idxR r l 0 → K o
abbrev fc85 : FC := ⟨[.v LD, CR], [L], fun x K => s85 x.1 x.2.1.1.1 fun r => K (r, ())⟩
theorem v85F (l : List (Int × Int)) (r : Int) (K : dens [L] → Prop) : (xfn Try.prog [] [(85, 0, lc85)] 5 85 fc85 (l, ((r, ()), ()), ()) K) =
  (((0 : Int) ≤ (0 : Int) ∧
        (0 : Int) ≤ (↑(List.length l) : Int) ∧
          (↑(List.length l) : Int) = (↑(List.length l) : Int) ∧ List.length l ≤ (24 : Nat) ∧ (0 : Int) ≤ (0 : Int)) ∧
      ∀ (o : List Int),
        o = [] ++ Go.P7.idxR r (List.drop (0 : Nat) l) (0 : Int) →
          Go.Lom.req (Decidable.decide ((0 : Nat) + List.length o ≤ List.length o))
            (K (Go.Lom.seg (0 : Nat) (List.length o) o, ()))) := by kernel_rfl
end Go.P7
