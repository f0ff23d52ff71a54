/- Payments: what the reference counts is the same. No conditions. -/
import Derived.Test.YtfenogdjhadcoaaRefS8
import Derived.Test.YtfenogdjhadcoaaPayP3
set_option linter.unusedVariables false
set_option linter.unusedSimpArgs false
set_option linter.constructorNameAsVariable false
namespace Go.P8
open Go.Lom Go.Proofs Go

theorem few_cons_is (x : Int × Int) (l : List (Int × Int)) (s : Int) : few (x :: l) s = 1073741824 ∨ ∃ j, 0 ≤ j ∧ j < ((min x.2 (s.tdiv x.1) + 1).toNat : Int) ∧ few (x :: l) s = j + few l (s - j * x.1) := by
  rcases minF_is (few l) x.1 s (min x.2 (s.tdiv x.1) + 1).toNat 0 1073741824 with h | ⟨j, h1, h2, h3⟩
  · exact .inl h
  · exact .inr ⟨j, h1, by omega, h3⟩
/-- Finite numbers of pieces are small. -/
theorem few_fin : ∀ (l : List (Int × Int)) (s : Int), (∀ x ∈ l, x.2 ≤ 100) → few l s < 1073741824 → few l s ≤ 100 * l.length
  | [], s, _, h => by
    unfold few at h ⊢
    split
    · simp
    · rename_i hs; rw [if_neg hs] at h; omega
  | x :: l, s, hx, h => by
    rcases few_cons_is x l s with e | ⟨j, h1, h2, h3⟩
    · omega
    · have ih := few_fin l (s - j * x.1) (fun y hy => hx y (List.mem_cons_of_mem _ hy)) (by omega)
      have := hx x List.mem_cons_self
      rw [h3, List.length_cons]
      push_cast
      omega
/-- A sum needs at least so many pieces of the greatest kind. -/
theorem few_low {C : Int} (hC : 1 ≤ C) : ∀ (l : List (Int × Int)) (s : Int), (∀ x ∈ l, 1 ≤ x.1 ∧ x.1 ≤ C) → 0 ≤ s → few l s < 1073741824 → s ≤ few l s * C
  | [], s, _, hs, h => by
    unfold few at h ⊢
    split
    · omega
    · rename_i hs; rw [if_neg hs] at h; omega
  | x :: l, s, hx, hs, h => by
    rcases few_cons_is x l s with e | ⟨j, h1, h2, h3⟩
    · omega
    · have hc := hx x List.mem_cons_self
      have hj := mul_bd (i := j) h1 hs hc.1 (by have := (quo_bd hs hc.1).1; omega)
      have ih := few_low hC l (s - j * x.1) (fun y hy => hx y (List.mem_cons_of_mem _ hy)) (by omega) (by omega)
      have hm : j * x.1 ≤ j * C := Int.mul_le_mul_of_nonneg_left hc.2 h1
      rw [h3, Int.add_mul]
      omega
theorem lst_mem {cs hv : List Int} (h : okC cs hv) {k : Int} (h0 : 0 ≤ k) {x : Int × Int} (hx : x ∈ lst cs hv k) : (1 ≤ x.1 ∧ x.1 ≤ cs.getD k.toNat 0) ∧ x.2 ≤ 100 := by
  unfold lst at hx
  obtain ⟨i, hi, rfl⟩ := List.mem_iff_getElem.1 hx
  rw [List.length_drop, zip_len h] at hi
  rw [List.getElem_drop, List.getElem_zip]
  have hl := h.len.1
  have c := h.coins _ (List.getElem_mem (show k.toNat + i < cs.length by omega))
  have v := h.haves _ (List.getElem_mem (show k.toNat + i < hv.length by omega))
  refine ⟨⟨c.1, ?_⟩, v.2⟩
  have e : cs[k.toNat + i]'(by omega) = cs.getD (k.toNat + i) 0 := by rw [List.getD_eq_getElem?_getD, List.getElem?_eq_getElem (by omega)]; rfl
  simp only
  rw [e]
  by_cases hz : i = 0
  · subst hz; exact Int.le_refl _
  · have := h.dec k.toNat (k.toNat + i) (by omega) (by omega); omega
theorem lst_len {cs hv : List Int} (h : okC cs hv) (k : Int) : (lst cs hv k).length ≤ 8 := by
  unfold lst; rw [List.length_drop, zip_len h]; have := h.len.2; omega
theorem fewL_fin {cs hv : List Int} (h : okC cs hv) {k : Int} (h0 : 0 ≤ k) {s : Int} (hf : few (lst cs hv k) s < 1073741824) : few (lst cs hv k) s ≤ 800 := by
  have := few_fin (lst cs hv k) s (fun x hx => (lst_mem h h0 hx).2) hf
  have := lst_len h k
  omega
theorem fewL_low {cs hv : List Int} (h : okC cs hv) {k : Int} (h0 : 0 ≤ k) (h1 : k < cs.length) {s : Int} (hs : 0 ≤ s) (hf : few (lst cs hv k) s < 1073741824) : s ≤ few (lst cs hv k) s * cs.getD k.toNat 0 :=
  few_low (coin_at h h0 h1).1.1 (lst cs hv k) s (fun x hx => (lst_mem h h0 hx).1) hs hf
theorem mul_iff {n s c : Int} (h0 : 0 ≤ n) (hs : 0 ≤ s) (hc : 1 ≤ c) : n * c ≤ s ↔ n ≤ s.tdiv c := by
  rw [Int.tdiv_eq_ediv_of_nonneg hs]
  exact (Int.le_ediv_iff_mul_le (by omega)).symm
theorem many_iff {cs hv : List Int} (h : okC cs hv) {k s n : Int} (h0 : 0 ≤ k) (h1 : k < cs.length) (hs : 0 ≤ s) (hn : 0 ≤ n) : (n ≤ hv.getD k.toNat 0 ∧ n * cs.getD k.toNat 0 ≤ s) ↔ n < manyI cs hv (k, s) := by
  rw [mul_iff hn hs (coin_at h h0 h1).1.1]
  unfold manyI
  simp only
  omega
theorem tab_len (l : List (Int × Int)) (i n : Nat) : (tabF l i n).length = n := by unfold tabF; simp
theorem tab_get {l : List (Int × Int)} {sm j : Int} (h0 : 0 ≤ j) (h1 : j ≤ sm) : (tabL l sm).getD j.toNat 0 = conv (few l j) := by
  unfold tabL tabF
  rw [List.getD_eq_getElem?_getD, List.getElem?_map, List.getElem?_range' (by omega)]
  simp only [Nat.zero_add, Nat.one_mul, Option.map_some, Option.getD_some]
  rw [show ((j.toNat : Nat) : Int) = j by omega]
theorem tab_step {l : List (Int × Int)} {i n : Nat} : tabF l i (n + 1) = conv (few l (i : Int)) :: tabF l (i + 1) n := by
  unfold tabF; rw [List.range'_succ]; rfl
theorem tab_nil : ∀ (i n : Nat), 1 ≤ i → tabF [] i n = List.replicate n (-1)
  | i, 0, _ => rfl
  | i, n + 1, h => by
    rw [tab_step, tab_nil (i + 1) n (by omega), List.replicate_succ]
    have : few [] (i : Int) = 1073741824 := by unfold few; rw [if_neg (by omega)]
    rw [this]; rfl
theorem refM_eq {g : Int → Int} {c s : Int} (hg : ∀ x, 0 ≤ g x ∧ g x ≤ 1073741824 ∧ (g x < 1073741824 → g x ≤ 800)) : ∀ (r : Nat) (i bp : Int), 0 ≤ i → i + r ≤ 1000 → 0 ≤ bp → bp ≤ 1073741824 → refM (fun x => conv (g x)) c s r i (conv bp) = conv (minF g c s r i bp)
  | 0, _, _, _, _, _, _ => rfl
  | r + 1, i, bp, h0, h1, h2, h3 => by
    simp only [refM, minF]
    obtain ⟨a1, a2, a3⟩ := hg (s - i * c)
    rw [← refM_eq hg r (i + 1) (min bp (i + g (s - i * c))) (by omega) (by push_cast at h1; omega) (by omega) (by omega)]
    congr 1
    generalize g (s - i * c) = y at *
    unfold conv
    by_cases hy : y ≥ 1073741824
    · rw [if_pos hy, if_neg (fun e => by omega)]
      rw [show min bp (i + y) = bp by omega]
    · rw [if_neg hy]
      have := a3 (by omega)
      by_cases hb : bp ≥ 1073741824
      · rw [if_pos hb, if_pos ⟨a1, .inl (by decide)⟩, show min bp (i + y) = i + y by omega, if_neg (by omega)]; omega
      · rw [if_neg hb]
        by_cases hl : y + i < bp
        · rw [if_pos ⟨a1, .inr hl⟩, show min bp (i + y) = i + y by omega, if_neg (by omega)]; omega
        · rw [if_neg (fun e => e.2.elim (fun e => by omega) hl), show min bp (i + y) = bp by omega, if_neg hb]
theorem conv_none : conv 1073741824 = -1 := rfl
theorem fewL_hyp {cs hv : List Int} (h : okC cs hv) {k : Int} (h0 : 0 ≤ k) : ∀ x, 0 ≤ few (lst cs hv k) x ∧ few (lst cs hv k) x ≤ 1073741824 ∧ (few (lst cs hv k) x < 1073741824 → few (lst cs hv k) x ≤ 800) :=
  fun x => ⟨few_nonneg _ _, few_le _ _, fewL_fin h h0⟩
end Go.P8
