/- Payments: states and what is to be shown, reduced. No conditions. -/
import Derived.Test.YtfenogdjhadcoaaGreatPayL
import Derived.Test.YtfenogdjhadcoaaGreatLibD
import Derived.KernelRfl
import Derived.Test.YtfenogdjhadcoaaGreatProg
set_option linter.unusedSimpArgs false
set_option linter.unusedVariables false
set_option linter.constructorNameAsVariable false
set_option maxRecDepth 100000
set_option maxHeartbeats 2000000
namespace Go.P8
open Go.Lom Go.Proofs Go

@[reducible] def S : List (Nat × SV) → SV
  | [] => .nil
  | p :: l => .cons (.slot p.1 p.2) (S l)
@[reducible] def A : List SV → SV
  | [] => .nil
  | p :: l => .cons p (A l)
abbrev I : Ty := .i .i64
abbrev E : Ty := .i .i64
abbrev L : Ty := .sl I
abbrev big : Nat := 9223372036854775807
def mL {α : Type} (l : List α) (i : Int) : Nat := (l.length - i).toNat
/-! the closure -/
/-! pay -/
/-! Check -/
abbrev shR4i : SV := S [(4, .v I)]
def ex84 : Ex2
  | .ret => some (shR4i, 0)
  | _ => some (.nil, 0)
/-! the reference's Check -/
/-! Pay, Change of the program -/
theorem seg_self {α : Type} (l : List α) : seg 0 l.length l = l := seg_all l
theorem drop_step {α : Type} (d : α) {l : List α} {i : Int} (h0 : 0 ≤ i) (h1 : i < l.length) : l.drop i.toNat = l.getD i.toNat d :: l.drop (i + 1).toNat := by
  have h : i.toNat < l.length := by omega
  rw [List.drop_eq_getElem_cons h, show (i + 1).toNat = i.toNat + 1 from by omega]
  simp [List.getD_eq_getElem?_getD, h]
theorem drop_end {α : Type} {l : List α} {i : Int} (h1 : ¬ i < l.length) : l.drop i.toNat = [] := List.drop_eq_nil_of_le (by omega)
theorem mL_lt {α : Type} {l : List α} {i : Int} (h : i < l.length) : mL l (i + 1) < mL l i := by unfold mL; omega
theorem fits100 {n b : Nat} (h : n ≤ 3000) (hb : b ≤ 200 := by omega) : fitsN n b = true := by
  have : n * b ≤ 3000 * 200 := Nat.mul_le_mul h hb
  simp only [fitsN, Bool.and_eq_true, Nat.ble_eq]
  exact ⟨by omega, by unfold maxLen; omega⟩

end Go.P8
