/- Payments: the fewest pieces, and pay: the code keeps its contracts. No conditions. -/
import Derived.Test.YtfenogdjhadcoaaPayS
set_option linter.all false
set_option maxRecDepth 100000
set_option maxHeartbeats 4000000
namespace Go.P8
open Go.Lom Go.Proofs Go
theorem seg_self {α : Type} (l : List α) : seg 0 l.length l = l := seg_all l
theorem seg_exact {α : Type} {n : Nat} {l : List α} (h : n = l.length) : seg 0 n l = l := by rw [h, seg_self]
theorem drop_step {α : Type} (d : α) {l : List α} {i : Int} (h0 : 0 <= i) (h1 : i < l.length) : l.drop i.toNat = l.getD i.toNat d :: l.drop (i + 1).toNat := by
 have h : i.toNat < l.length := by omega
 rw [List.drop_eq_getElem_cons h, show (i + 1).toNat = i.toNat + 1 from by omega]
 simp [List.getD_eq_getElem?_getD, h]
theorem drop_end {α : Type} {l : List α} {i : Int} (h1 : ¬ i < l.length) : l.drop i.toNat = [] := List.drop_eq_nil_of_le (by omega)
theorem mL_lt {α : Type} {l : List α} {i : Int} (h : i < l.length) : mL l (i + 1) < mL l i := by unfold mL; omega
theorem fits100 {n b : Nat} (h : n <= 3000) (hb : b <= 200 := by omega) : fitsN n b = true := by
 have : n * b <= 3000 * 200 := Nat.mul_le_mul h hb
 simp only [fitsN, Bool.and_eq_true, Nat.ble_eq]
 exact ⟨by omega, by unfold maxLen; omega⟩
end Go.P8
