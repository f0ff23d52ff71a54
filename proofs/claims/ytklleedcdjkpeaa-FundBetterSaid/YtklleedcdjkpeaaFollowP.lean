/- Funds: what follows from a course: the code keeps its contracts, the law. No conditions. -/
import Derived.Test.YtklleedcdjkpeaaFollowS
import Derived.Test.YtklleedcdjkpeaaSoundP
set_option linter.constructorNameAsVariable false
set_option linter.unusedVariables false
set_option linter.unusedSimpArgs false
set_option maxRecDepth 100000
namespace Go.P9
open Go.Lom Go.Proofs Go

theorem flow_at {l : List Int} {s : List (Int × Int)} (h : flowB l s = true) : l.length = s.length ∧ ∀ d : Int, 0 ≤ d → d < s.length → (s.getD d.toNat (0, 0)).1 ≤ l.getD d.toNat 0 ∧ l.getD d.toNat 0 ≤ (s.getD d.toNat (0, 0)).2 := by
  unfold flowB at h
  rw [Bool.and_eq_true, decide_eq_true_eq] at h
  refine ⟨h.1, fun d h0 h1 => ?_⟩
  exact of_decide_eq_true (List.all_eq_true.1 h.2 d.toNat (by simp; omega))
theorem allow_rows {f : Fd} {r : Rn} (hf : okF f = true) (h : allowB f r = true) : r.2.length = (fGroups f).length ∧ ∀ k : Int, 0 ≤ k → k < r.2.length → (r.2.getD k.toNat []).length = (fIn f).length ∧ ∀ x ∈ r.2.getD k.toNat [], 0 ≤ x ∧ x ≤ 1073741824 := by
  unfold allowB at h
  simp only [Bool.and_eq_true, decide_eq_true_eq] at h
  obtain ⟨_, _, h3, h4⟩ := h
  refine ⟨h3, fun k h0 h1 => ?_⟩
  have h5 := rowOk_iff.1 (List.all_eq_true.1 h4 k.toNat (by simp; omega))
  exact ⟨h5.1, cells_in (grp_at hf h0 (by omega)) h5.2.1⟩
structure GC (f : Fd) (c : Cs) (d : Int) : Prop where
  l : 0 ≤ c.1.getD d.toNat 0 ∧ c.1.getD d.toNat 0 ≤ 64
  i : 0 ≤ c.2.2.1.getD d.toNat 0 ∧ c.2.2.1.getD d.toNat 0 ≤ 1073741824
  p : 0 ≤ c.2.2.2.getD d.toNat 0 ∧ c.2.2.2.getD d.toNat 0 ≤ 1048576
  b : 0 ≤ (fBonds f).getD d.toNat 0 ∧ (fBonds f).getD d.toNat 0 ≤ 1073741824
  m : 0 ≤ c.1.getD d.toNat 0 * c.2.2.2.getD d.toNat 0 ∧ c.1.getD d.toNat 0 * c.2.2.2.getD d.toNat 0 ≤ 67108864
  t : 0 ≤ takeI c.2.1.2 d 0 ∧ takeI c.2.1.2 d 0 ≤ 8589934592
  ll : c.1.length = (fIn f).length
  li : c.2.2.1.length = (fIn f).length
  lp : c.2.2.2.length = (fIn f).length
  lb : (fBonds f).length = (fIn f).length
  days : (fIn f).length ≤ 12
  rl : c.2.1.2.length ≤ 8
theorem gc {f : Fd} {c : Cs} (h : goodC f c) {d : Int} (h0 : 0 ≤ d) (h1 : d < (fIn f).length) : GC f c d := by
  obtain ⟨hf, g1, g2, g3, g4⟩ := h
  have hA := okA_iff.1 (okF_parts hf).1
  have hn := okF_n hf
  obtain ⟨p1, p2, _⟩ := planB_parts g1
  obtain ⟨i1, i2⟩ := flow_at g3
  obtain ⟨q1, q2⟩ := flow_at g4
  obtain ⟨r1, r2⟩ := allow_rows hf g2
  have cl := planC_in hf p1 p2 d h0 (by omega)
  have ci := i2 d h0 h1
  have cp := q2 d h0 (by omega)
  have db := day_bd hf h0 h1
  have pb := price_bd hf h0 h1
  have hp : 0 ≤ c.2.2.2.getD d.toNat 0 ∧ c.2.2.2.getD d.toNat 0 ≤ 1048576 := by omega
  refine ⟨cl, by omega, hp, by omega, ?_, ?_, p1, i1, by omega, by omega, by omega, by omega⟩
  · exact mul_bd (A := 64) (B := 1048576) cl.1 cl.2 hp.1 hp.2
  · have hx : ∀ x ∈ (c.2.1.2.drop (0 : Int).toNat).map (fun row => row.getD d.toNat 0), 0 ≤ x ∧ x ≤ 1073741824 := fun x hx => by
      obtain ⟨row, hrow, rfl⟩ := List.mem_map.1 hx
      have hrow : row ∈ c.2.1.2 := List.mem_of_mem_drop hrow
      obtain ⟨k, hk, rfl⟩ := List.getElem_of_mem hrow
      have e : c.2.1.2.getD ((k : Int).toNat) [] = c.2.1.2[k] := by rw [Int.toNat_natCast]; simp [List.getD_eq_getElem?_getD, hk]
      obtain ⟨e1, e2⟩ := r2 (k : Int) (by omega) (by omega)
      rw [e] at e1 e2
      exact e2 _ (getD_mem (by omega) 0)
    have := byRow_bd' hx
    unfold takeI
    rw [List.length_map] at this
    simp only [Int.toNat_zero, List.drop_zero] at this ⊢
    omega
where byRow_bd' {l : List Int} (h : ∀ x ∈ l, 0 ≤ x ∧ x ≤ 1073741824) : 0 ≤ l.sum ∧ l.sum ≤ 1073741824 * l.length := ⟨sum_nn fun x hx => (h x hx).1, sum_bd fun x hx => (h x hx).2⟩
end Go.P9
