/- Days: the reference: what a posting may really have been, explanations: the code keeps its contracts. No conditions. -/
import Derived.Test.YtfenogdjhadcoaaDayP8
set_option linter.all false
set_option maxRecDepth 100000
set_option maxHeartbeats 4000000
namespace Go.P8
open Go.Lom Go.Proofs Go
theorem sub_get {b c : List Int} (h : b.length = c.length) (j : Nat) : (subI b c).getD j 0 = b.getD j 0 - c.getD j 0 := by
 unfold subI
 rw [List.getD_eq_getElem?_getD, List.getElem?_zipWith, List.getD_eq_getElem?_getD, List.getD_eq_getElem?_getD]
 by_cases hj : j < b.length
 ·rw [List.getElem?_eq_getElem hj, List.getElem?_eq_getElem (show j < c.length by omega)]; rfl
 ·rw [List.getElem?_eq_none (by omega), List.getElem?_eq_none (by omega)]; rfl
theorem sub_move {b c : List Int} (h : b.length = c.length) {p : Po} {n : Int} : subI (moveI b p.1 p.2.1 (n - p.2.2)) c = offM (subI b c) p n := by
 refine list_ext_getD (by rw [subI_len (by rw [moveI_len]; exact h), moveI_len, offM_len, subI_len h]) fun j hj => ?_
 rw [subI_len (by rw [moveI_len]; exact h), moveI_len] at hj
 rw [sub_get (by rw [moveI_len]; exact h)]
 unfold moveI offM
 simp only [addAt_get, addAt_len, subI_len h, hj, and_true, sub_get h]
 repeat' split
 all_goals omega
theorem sub_zero {b c : List Int} (h : b.length = c.length) : zeroB (subI b c) = decide (b = c) := by
 rw [Bool.eq_iff_iff, decide_eq_true_eq]
 unfold zeroB
 rw [List.all_eq_true]
 constructor
 ·intro hz
  refine list_ext_getD h fun j hj => ?_
  have hm : (subI b c).getD j 0 = 0 := by
   rw [List.getD_eq_getElem?_getD, List.getElem?_eq_getElem (by rw [subI_len h]; exact hj)]
   exact of_decide_eq_true (hz _ (List.getElem_mem _))
  rw [sub_get h] at hm
  omega
 ·intro e x hx
  subst e
  obtain ⟨i, hi, rfl⟩ := List.mem_iff_getElem.1 hx
  have := sub_get (b := b) (c := b) rfl i
  rw [List.getD_eq_getElem?_getD, List.getElem?_eq_getElem hi] at this
  refine decide_eq_true ?_
  have h2 : (subI b b)[i] = b.getD i 0 - b.getD i 0 := this
  omega
end Go.P8
