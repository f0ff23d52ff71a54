/- The greatest: what the sum of so many of the greatest is. No conditions. -/
import Derived.Test.YtfenogdjhadcoaaGreatWatL
set_option linter.unusedVariables false
set_option linter.unusedSimpArgs false
namespace Go.P8

theorem insD_perm (x : Int) : ∀ l : List Int, (insD x l).Perm (x :: l)
  | [] => .refl _
  | y :: l => by
    unfold insD
    split
    · exact .refl _
    · exact ((insD_perm x l).cons y).trans (.swap x y l)
theorem sortD_perm : ∀ l : List Int, (sortD l).Perm l
  | [] => .refl _
  | x :: l => (insD_perm x _).trans ((sortD_perm l).cons x)
theorem insD_pw (x : Int) : ∀ l : List Int, l.Pairwise (fun a b => b ≤ a) → (insD x l).Pairwise (fun a b => b ≤ a)
  | [], _ => by simp [insD]
  | y :: l, h => by
    have h2 := List.pairwise_cons.1 h
    unfold insD
    split
    · rename_i hx
      refine List.pairwise_cons.2 ⟨fun z hz => ?_, h⟩
      rcases List.mem_cons.1 hz with rfl | hz
      · exact hx
      · exact Int.le_trans (h2.1 z hz) hx
    · rename_i hx
      refine List.pairwise_cons.2 ⟨fun z hz => ?_, insD_pw x l h2.2⟩
      rcases List.mem_cons.1 ((insD_perm x l).mem_iff.1 hz) with rfl | hz
      · omega
      · exact h2.1 z hz
theorem sortD_pw : ∀ l : List Int, (sortD l).Pairwise (fun a b => b ≤ a)
  | [] => .nil
  | x :: l => insD_pw x _ (sortD_pw l)
theorem sortD_len (l : List Int) : (sortD l).length = l.length := (sortD_perm l).length_eq
theorem sort_rev (xs : List Int) : xs.mergeSort (fun x y => decide (x ≤ y)) = (sortD xs).reverse := by
  refine List.Perm.eq_of_pairwise (le := fun x y : Int => x ≤ y) (fun a b _ _ h1 h2 => Int.le_antisymm h1 h2) ?_ ?_ ((List.mergeSort_perm _ _).trans ((sortD_perm xs).symm.trans (List.reverse_perm _).symm))
  · have := List.pairwise_mergeSort (le := fun x y : Int => decide (x ≤ y)) (fun a b c h1 h2 => by simp only [decide_eq_true_eq] at *; omega) (fun a b => by simp only [Bool.or_eq_true, decide_eq_true_eq]; omega) xs
    exact this.imp fun h => by simpa using h
  · rw [List.pairwise_reverse]; exact sortD_pw xs
theorem sum_perm {l l' : List Int} (h : l.Perm l') : l.sum = l'.sum := by
  induction h with
  | nil => rfl
  | cons x _ ih => simp [ih]
  | swap x y l => simp only [List.sum_cons]; omega
  | trans _ _ a b => exact a.trans b
theorem top_drop (xs : List Int) (r : Nat) : ((xs.mergeSort fun x y => decide (x ≤ y)).drop (xs.length - r)).sum = topS r xs := by
  rw [sort_rev, List.drop_reverse, sortD_len, sum_perm (List.reverse_perm _)]
  by_cases h : r ≤ xs.length
  · rw [show xs.length - (xs.length - r) = r by omega]; rfl
  · unfold topS
    rw [show xs.length - (xs.length - r) = xs.length by omega, List.take_of_length_le (by rw [sortD_len]; omega), List.take_of_length_le (by rw [sortD_len]; omega)]
theorem take_succ_le (x : Int) : ∀ (d : List Int) (r : Nat), (∀ y ∈ d, y ≤ x) → r < d.length → (d.take (r + 1)).sum ≤ x + (d.take r).sum
  | [], r, _, h => by simp at h
  | y :: d, 0, hx, _ => by have := hx y (by simp); simp; omega
  | y :: d, r + 1, hx, h => by
    have := take_succ_le x d r (fun z hz => hx z (List.mem_cons_of_mem _ hz)) (by simpa using h)
    simp only [List.take_succ_cons, List.sum_cons] at this ⊢
    omega
theorem ins_top (x : Int) : ∀ (d : List Int) (r : Nat), d.Pairwise (fun a b => b ≤ a) → r < d.length → ((insD x d).take (r + 1)).sum = max (x + (d.take r).sum) ((d.take (r + 1)).sum)
  | [], r, _, h => by simp at h
  | y :: d, r, hp, h => by
    have h2 := List.pairwise_cons.1 hp
    unfold insD
    split
    · rename_i hx
      have := take_succ_le x (y :: d) r (fun z hz => by
        rcases List.mem_cons.1 hz with rfl | hz
        · exact hx
        · exact Int.le_trans (h2.1 z hz) hx) h
      rw [List.take_succ_cons, List.sum_cons]
      omega
    · rename_i hx
      cases r with
      | zero => simp; omega
      | succ r =>
        have := ins_top x d r h2.2 (by simpa using h)
        simp only [List.take_succ_cons, List.sum_cons] at this ⊢
        omega
theorem topS_cons (x : Int) (l : List Int) {r : Nat} (h : r < l.length) : topS (r + 1) (x :: l) = max (x + topS r l) (topS (r + 1) l) := ins_top x _ r (sortD_pw l) (by rw [sortD_len]; exact h)
theorem topS_all (l : List Int) : topS l.length l = l.sum := by
  unfold topS
  rw [List.take_of_length_le (by rw [sortD_len]; omega), sum_perm (sortD_perm l)]
theorem topS_zero (l : List Int) : topS 0 l = 0 := by simp [topS]
theorem sum_bd {B : Int} (hB : 0 ≤ B) : ∀ l : List Int, (∀ x ∈ l, 0 ≤ x ∧ x ≤ B) → 0 ≤ l.sum ∧ l.sum ≤ l.length * B
  | [], _ => by simp
  | x :: l, h => by
    obtain ⟨a, b⟩ := sum_bd hB l fun y hy => h y (List.mem_cons_of_mem _ hy)
    have hx := h x (by simp)
    simp only [List.sum_cons, List.length_cons, Int.natCast_add, Int.natCast_one, Int.add_mul, Int.one_mul]
    omega
theorem topS_bd {B : Int} (hB : 0 ≤ B) (l : List Int) (h : ∀ x ∈ l, 0 ≤ x ∧ x ≤ B) (r : Nat) : 0 ≤ topS r l ∧ topS r l ≤ l.length * B := by
  have := sum_bd hB ((sortD l).take r) fun x hx => h x ((sortD_perm l).mem_iff.1 (List.mem_of_mem_take hx))
  refine ⟨this.1, Int.le_trans this.2 (Int.mul_le_mul_of_nonneg_right ?_ hB)⟩
  have := List.length_take_le r (sortD l)
  have h2 : ((sortD l).take r).length ≤ l.length := by rw [List.length_take, sortD_len]; omega
  omega
theorem grt_zero (l : List Dl) (is : List Int) : grt l is 0 = 0 := topS_zero _
theorem grt_all (l : List Dl) (is : List Int) : grt l is is.length = sumOf l is := by
  have := topS_all (is.map (amt l))
  rw [List.length_map] at this; exact this
theorem grt_cons (l : List Dl) (a : Int) (is : List Int) {r : Nat} (h : r < is.length) : grt l (a :: is) (r + 1) = max (amt l a + grt l is r) (grt l is (r + 1)) := topS_cons _ _ (by rw [List.length_map]; exact h)
/-- What is left still reaches, whether one is taken or not. -/
theorem pick_next {l : List Dl} {a : Int} {is : List Int} {r : Nat} {s n : Int} (h1 : r + 1 ≤ is.length + 1) (h2 : s ≤ n + grt l (a :: is) (r + 1)) (h3 : ¬ s ≤ n + amt l a + grt l is r) : r + 1 ≤ is.length ∧ s ≤ n + grt l is (r + 1) := by
  by_cases h : r < is.length
  · rw [grt_cons l a is h] at h2
    exact ⟨h, by omega⟩
  · exfalso
    have : r = is.length := by omega
    subst this
    have e : grt l (a :: is) (is.length + 1) = sumOf l (a :: is) := grt_all l (a :: is)
    rw [e] at h2
    rw [grt_all] at h3
    simp only [sumOf, List.map_cons, List.sum_cons] at h2 h3
    omega
end Go.P8
