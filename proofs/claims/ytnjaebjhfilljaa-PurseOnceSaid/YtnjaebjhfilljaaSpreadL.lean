/- The dues of a rank, alone and among all: plain laws. No conditions. -/
import Derived.Test.YtnjaebjhfilljaaSpread4P
import Derived.Test.YtnjaebjhfilljaaAloneP
set_option linter.unusedSimpArgs false
set_option linter.unusedVariables false
set_option linter.constructorNameAsVariable false
namespace Go.P7
open Go.Lom Go.Proofs Go

/-- What stands where a rank's dues stand. -/
def pickR (r : Int) : List (Int × Int) → List Int → List Int
  | d :: l, x :: xs => if d.1 = r then x :: pickR r l xs else pickR r l xs
  | _, _ => []
theorem pickR_map (r : Int) : ∀ (l : List (Int × Int)) (w o : List Int), w.length = l.length → o.length = l.length → ∃ φ : Nat → Nat, (∀ j, j < (pickR r l w).length → φ j < w.length ∧ (pickR r l w).getD j 0 = w.getD (φ j) 0 ∧ (pickR r l o).getD j 0 = o.getD (φ j) 0) ∧ ∀ j k, j < k → φ j < φ k
  | [], w, o, _, _ => ⟨id, fun j hj => by cases w <;> simp [pickR] at hj, fun j k h => h⟩
  | _ :: _, [], _, h, _ => by simp at h
  | _ :: _, _ :: _, [], _, h => by simp at h
  | d :: l, x :: w, y :: o, hw, ho => by
    obtain ⟨φ, h1, h2⟩ := pickR_map r l w o (by simpa using hw) (by simpa using ho)
    simp only [pickR]
    split
    · refine ⟨fun j => match j with | 0 => 0 | j + 1 => φ j + 1, fun j hj => ?_, fun j k hjk => ?_⟩
      · cases j with
        | zero => simp
        | succ j =>
          obtain ⟨g1, g2, g3⟩ := h1 j (by simpa using hj)
          exact ⟨by simp; omega, by simpa using g2, by simpa using g3⟩
      · cases k with
        | zero => omega
        | succ k => cases j with
          | zero => simp
          | succ j => have := h2 j k (by omega); simp; omega
    · refine ⟨fun j => φ j + 1, fun j hj => ?_, fun j k hjk => Nat.add_lt_add_right (h2 j k hjk) 1⟩
      obtain ⟨g1, g2, g3⟩ := h1 j hj
      exact ⟨by simp; omega, by simpa using g2, by simpa using g3⟩
theorem pickR_len (r : Int) : ∀ (l : List (Int × Int)) (w o : List Int), w.length = l.length → o.length = l.length → (pickR r l w).length = (pickR r l o).length
  | [], w, o, _, _ => by cases w <;> cases o <;> rfl
  | _ :: _, [], _, h, _ => by simp at h
  | _ :: _, _ :: _, [], _, h => by simp at h
  | d :: l, x :: w, y :: o, hw, ho => by
    have := pickR_len r l w o (by simpa using hw) (by simpa using ho)
    simp only [pickR]
    split <;> simp [this]
/-- What is 0 elsewhere has the sum of what stands there. -/
theorem pickR_sum (r : Int) : ∀ (l : List (Int × Int)) (o : List Int), o.length = l.length → (∀ k : Nat, k < l.length → (l.getD k ((0 : Int), (0 : Int))).1 ≠ r → o.getD k 0 = 0) → (pickR r l o).sum = o.sum
  | [], [], _, _ => rfl
  | [], _ :: _, h, _ => by simp at h
  | _ :: _, [], h, _ => by simp at h
  | d :: l, x :: o, h, hz => by
    have := pickR_sum r l o (by simpa using h) fun k hk hne => by simpa using hz (k + 1) (by simpa using hk) (by simpa using hne)
    simp only [pickR]
    split
    · simp only [List.sum_cons, this]
    · rename_i hne
      have h0 := hz 0 (by simp) (by simpa using hne)
      simp only [List.getD_cons_zero] at h0
      simp only [List.sum_cons, this, h0]; omega
theorem fairs_pick (r : Int) {l : List (Int × Int)} {w o : List Int} (hw : w.length = l.length) (h : fairs w o) : fairs (pickR r l w) (pickR r l o) := by
  obtain ⟨h1, h2, h3, h4⟩ := h
  obtain ⟨φ, g1, g2⟩ := pickR_map r l w o hw (by omega)
  have hlen := pickR_len r l o w (by omega) hw
  refine ⟨hlen, fun k => ?_, fun k hk hz => ?_, fun i k hi hk hne hpos => ?_⟩
  · by_cases hk : k < (pickR r l w).length
    · rw [(g1 k hk).2.2]; exact h2 _
    · rw [getD_out (by omega)]; omega
  · obtain ⟨a, b, c⟩ := g1 k hk
    rw [b] at hz; rw [c]; exact h3 _ a hz
  · obtain ⟨a1, b1, c1⟩ := g1 i hi
    obtain ⟨a2, b2, c2⟩ := g1 k hk
    rw [b1, c1, b2, c2]
    rw [c1] at hpos
    have hne' : φ i ≠ φ k := fun e => by
      rcases Nat.lt_or_gt_of_ne hne with hlt | hlt
      · have := g2 i k hlt; omega
      · have := g2 k i hlt; omega
    rcases h4 (φ i) (φ k) a1 a2 hne' hpos with hh | ⟨hh, hlt⟩
    · exact .inl hh
    · refine .inr ⟨hh, ?_⟩
      rcases Nat.lt_or_gt_of_ne hne with hlt' | hlt'
      · exact hlt'
      · have := g2 k i hlt'; omega
/-- The amounts at a rank's places. -/
theorem idxR_amts (r : Int) : ∀ (pre l : List (Int × Int)), (idxR r l pre.length).map (amtAt (pre ++ l)) = pickR r l (ownR l r)
  | pre, [] => rfl
  | pre, d :: l => by
    have := idxR_amts r (pre ++ [d]) l
    rw [List.length_append, List.append_assoc] at this
    simp only [List.length_singleton, List.singleton_append, Int.natCast_add, Int.natCast_one] at this
    simp only [idxR, ownR, List.map_cons, pickR]
    unfold ownR at this
    split
    · rename_i h
      rw [List.map_cons, this]
      congr 1
      unfold amtAt amt
      rw [if_pos h]
      simp [List.getD_eq_getElem?_getD]
    · exact this
theorem scat_app (r : Int) : ∀ (pre : List Int) (l : List (Int × Int)) (out o : List Int), out.length = l.length → o.length = l.length → (∀ k : Nat, k < l.length → (l.getD k ((0 : Int), (0 : Int))).1 = r → out.getD k 0 = 0) → (∀ k : Nat, k < l.length → (l.getD k ((0 : Int), (0 : Int))).1 ≠ r → o.getD k 0 = 0) →
    scat (pre ++ out) (idxR r l pre.length) (pickR r l o) = pre ++ addL out o
  | pre, [], [], [], _, _, _, _ => by simp [idxR, scat, addL]
  | _, [], _ :: _, _, h, _, _, _ => by simp at h
  | _, [], [], _ :: _, _, h, _, _ => by simp at h
  | _, _ :: _, [], _, h, _, _, _ => by simp at h
  | _, _ :: _, _ :: _, [], _, h, _, _ => by simp at h
  | pre, d :: l, x :: out, y :: o, h1, h2, h3, h4 => by
    have ih := fun z => scat_app r (pre ++ [z]) l out o (by simpa using h1) (by simpa using h2) (fun k hk he => by simpa using h3 (k + 1) (by simpa using hk) (by simpa using he)) (fun k hk he => by simpa using h4 (k + 1) (by simpa using hk) (by simpa using he))
    simp only [List.length_append, List.length_singleton, List.append_assoc, List.singleton_append, Int.natCast_add, Int.natCast_one] at ih
    simp only [idxR, pickR]
    by_cases hd : d.1 = r
    · rw [if_pos hd, if_pos hd]
      have hx := h3 0 (by simp) (by simpa using hd)
      simp only [List.getD_cons_zero] at hx
      subst hx
      simp only [scat]
      have e : (pre ++ 0 :: out).set ((pre.length : Int)).toNat y = pre ++ y :: out := by simp
      rw [e, ih y]
      simp [addL]
    · rw [if_neg hd, if_neg hd]
      have hy := h4 0 (by simp) (by simpa using hd)
      simp only [List.getD_cons_zero] at hy
      subst hy
      rw [ih x]
      simp [addL]
end Go.P7
