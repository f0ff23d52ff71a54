set_option linter.all false
/- Payments: the fewest pieces. No conditions. -/
namespace Go.P8
def minF (g : Int -> Int) (c s : Int) : Nat -> Int -> Int -> Int
 | 0, _, b => b
 | r + 1, i, b => minF g c s r (i + 1) (min b (i + g (s - i * c)))
def few : List (Int × Int) -> Int -> Int
 | [], s => if s = 0 then 0 else 1073741824
 | x :: l, s => minF (few l) x.1 s (min x.2 (s.tdiv x.1) + 1).toNat 0 1073741824
def lst (cs hv : List Int) (k : Int) : List (Int × Int) := (cs.zip hv).drop k.toNat
def fewI (cs hv : List Int) (s : Int × Int) : Int := few (lst cs hv s.1) s.2
def manyI (cs hv : List Int) (s : Int × Int) : Int := min (hv.getD s.1.toNat 0) (s.2.tdiv (cs.getD s.1.toNat 0)) + 1
structure okC (cs hv : List Int) : Prop where
 len : hv.length = cs.length /\ cs.length <= 8
 coins : ∀ c ∈ cs, 1 <= c /\ c <= 50000
 haves : ∀ h ∈ hv, 0 <= h /\ h <= 100
 dec : ∀ i j : Nat, i < j -> j < cs.length -> cs.getD j 0 < cs.getD i 0
def topN (g : Int -> Int) (c s t : Int) : Nat -> Int
 | 0 => 0
 | k + 1 => if ((k : Int) + 1) + g (s - ((k : Int) + 1) * c) = t then (k : Int) + 1 else topN g c s t k
def hasN (g : Int -> Int) (c s t n : Int) : Prop := ∃ k : Int, 0 <= k /\ k <= n /\ k + g (s - k * c) = t
def payL : List (Int × Int) -> Int -> List Int
 | [], _ => []
 | x :: l, s => topN (few l) x.1 s (few (x :: l) s) (min x.2 (s.tdiv x.1)).toNat :: payL l (s - topN (few l) x.1 s (few (x :: l) s) (min x.2 (s.tdiv x.1)).toNat * x.1)
theorem minF_le (g : Int -> Int) (c s : Int) : ∀ (r : Nat) (i b : Int), minF g c s r i b <= b
 | 0, _, _ => Int.le_refl _
 | r + 1, i, b => Int.le_trans (minF_le g c s r (i + 1) _) (by omega)
theorem minF_is (g : Int -> Int) (c s : Int) : ∀ (r : Nat) (i b : Int), minF g c s r i b = b \/ ∃ j, i <= j /\ j < i + r /\ minF g c s r i b = j + g (s - j * c)
 | 0, _, _ => .inl rfl
 | r + 1, i, b => by
  rcases minF_is g c s r (i + 1) (min b (i + g (s - i * c))) with h | ⟨j, h1, h2, h3⟩
  ·by_cases hb : b <= i + g (s - i * c)
   ·left; show minF g c s r (i + 1) _ = b; rw [h]; omega
   ·right; refine ⟨i, Int.le_refl _, by push_cast; omega, ?_⟩
    show minF g c s r (i + 1) _ = _; rw [h]; omega
  ·right; exact ⟨j, by omega, by push_cast; omega, h3⟩
theorem few_le : ∀ (l : List (Int × Int)) (s : Int), few l s <= 1073741824
 | [], s => by unfold few; split <;> decide
 | x :: l, s => minF_le _ _ _ _ _ _
theorem few_nonneg : ∀ (l : List (Int × Int)) (s : Int), 0 <= few l s
 | [], s => by unfold few; split <;> decide
 | x :: l, s => by
  unfold few
  rcases minF_is (few l) x.1 s (min x.2 (s.tdiv x.1) + 1).toNat 0 1073741824 with h | ⟨j, h1, h2, h3⟩
  ·rw [h]; decide
  ·rw [h3]; have := few_nonneg l (s - j * x.1); omega
theorem zip_len {cs hv : List Int} (h : okC cs hv) : (cs.zip hv).length = cs.length := by rw [List.length_zip, h.len.1]; omega
theorem lst_step {cs hv : List Int} (h : okC cs hv) {k : Int} (h0 : 0 <= k) (h1 : k < cs.length) : lst cs hv k = (cs.getD k.toNat 0, hv.getD k.toNat 0) :: lst cs hv (k + 1) := by
 unfold lst
 have hl := h.len.1
 have hk : k.toNat < (cs.zip hv).length := by rw [zip_len h]; omega
 rw [List.drop_eq_getElem_cons hk, show (k + 1).toNat = k.toNat + 1 by omega, List.getElem_zip]
 rw [List.getD_eq_getElem?_getD, List.getD_eq_getElem?_getD, List.getElem?_eq_getElem (show k.toNat < cs.length by omega), List.getElem?_eq_getElem (show k.toNat < hv.length by omega)]; rfl
theorem lst_end {cs hv : List Int} (h : okC cs hv) {k : Int} (h1 : ¬ k < cs.length) : lst cs hv k = [] := by
 unfold lst; exact List.drop_eq_nil_of_le (by rw [zip_len h]; omega)
theorem coin_at {cs hv : List Int} (h : okC cs hv) {k : Int} (h0 : 0 <= k) (h1 : k < cs.length) : (1 <= cs.getD k.toNat 0 /\ cs.getD k.toNat 0 <= 50000) /\ 0 <= hv.getD k.toNat 0 /\ hv.getD k.toNat 0 <= 100 := by
 have hl := h.len.1
 rw [List.getD_eq_getElem?_getD, List.getD_eq_getElem?_getD, List.getElem?_eq_getElem (show k.toNat < cs.length by omega), List.getElem?_eq_getElem (show k.toNat < hv.length by omega)]
 exact ⟨h.coins _ (List.getElem_mem _), h.haves _ (List.getElem_mem _)⟩
theorem quo_bd {s c : Int} (hs : 0 <= s) (hc : 1 <= c) : 0 <= s.tdiv c /\ s.tdiv c <= s /\ s.tdiv c * c <= s := by
 rw [Int.tdiv_eq_ediv_of_nonneg hs]
 exact ⟨Int.ediv_nonneg hs (by omega), Int.ediv_le_self _ hs, Int.ediv_mul_le _ (by omega)⟩
theorem mul_bd {i s c : Int} (h0 : 0 <= i) (hs : 0 <= s) (hc : 1 <= c) (h : i <= s.tdiv c) : 0 <= i * c /\ i * c <= s :=
 ⟨Int.mul_nonneg h0 (by omega), Int.le_trans (Int.mul_le_mul_of_nonneg_right h (by omega)) (quo_bd hs hc).2.2⟩
theorem fewI_step {cs hv : List Int} (h : okC cs hv) {k s : Int} (h0 : 0 <= k) (h1 : k < cs.length) : fewI cs hv (k, s) = minF (few (lst cs hv (k + 1))) (cs.getD k.toNat 0) s (manyI cs hv (k, s)).toNat 0 1073741824 := by
 unfold fewI manyI; rw [lst_step h h0 h1]; rfl
theorem fewI_end {cs hv : List Int} (h : okC cs hv) {k s : Int} (h1 : k = cs.length) : fewI cs hv (k, s) = if s = 0 then 0 else 1073741824 := by
 unfold fewI; rw [lst_end h (by simp only; omega)]; rfl
theorem many_bd {cs hv : List Int} (h : okC cs hv) {k s : Int} (h0 : 0 <= k) (h1 : k < cs.length) (hs : 0 <= s) : 1 <= manyI cs hv (k, s) /\ manyI cs hv (k, s) <= 101 /\ manyI cs hv (k, s) - 1 <= s.tdiv (cs.getD k.toNat 0) /\ manyI cs hv (k, s) - 1 <= hv.getD k.toNat 0 := by
 obtain ⟨⟨a1, a2⟩, b1, b2⟩ := coin_at h h0 h1
 have := (quo_bd hs a1).1
 unfold manyI
 simp only
 omega
theorem fewI_has {cs hv : List Int} (h : okC cs hv) {k s : Int} (h0 : 0 <= k) (h1 : k < cs.length) (hs : 0 <= s) (hf : fewI cs hv (k, s) < 1073741824) : hasN (few (lst cs hv (k + 1))) (cs.getD k.toNat 0) s (fewI cs hv (k, s)) (manyI cs hv (k, s) - 1) := by
 have hm := many_bd h h0 h1 hs
 rw [fewI_step h h0 h1] at hf ⊢
 rcases minF_is (few (lst cs hv (k + 1))) (cs.getD k.toNat 0) s (manyI cs hv (k, s)).toNat 0 1073741824 with e | ⟨j, e1, e2, e3⟩
 ·rw [e] at hf; omega
 ·exact ⟨j, e1, by omega, e3.symm⟩
theorem topN_spec {g : Int -> Int} {c s t : Int} : ∀ {n : Nat}, hasN g c s t n -> 0 <= topN g c s t n /\ topN g c s t n <= n /\ topN g c s t n + g (s - topN g c s t n * c) = t
 | 0, ⟨k, h0, h1, h2⟩ => by
  obtain rfl : k = 0 := by omega
  exact ⟨Int.le_refl _, Int.le_refl _, h2⟩
 | n + 1, ⟨k, h0, h1, h2⟩ => by
  unfold topN
  split
  ·rename_i h; exact ⟨by omega, by push_cast; omega, h⟩
  ·rename_i h
   have := topN_spec (g := g) (c := c) (s := s) (t := t) (n := n) ⟨k, h0, by
    have : k ≠ (n : Int) + 1 := fun e => h (by rw [<- e]; exact h2)
    push_cast at h1; omega, h2⟩
   exact ⟨this.1, by push_cast; omega, this.2.2⟩
theorem payL_step {cs hv : List Int} (h : okC cs hv) {k s : Int} (h0 : 0 <= k) (h1 : k < cs.length) : payL (lst cs hv k) s = topN (few (lst cs hv (k + 1))) (cs.getD k.toNat 0) s (fewI cs hv (k, s)) (manyI cs hv (k, s) - 1).toNat :: payL (lst cs hv (k + 1)) (s - topN (few (lst cs hv (k + 1))) (cs.getD k.toNat 0) s (fewI cs hv (k, s)) (manyI cs hv (k, s) - 1).toNat * cs.getD k.toNat 0) := by
 rw [lst_step h h0 h1]
 unfold fewI manyI
 simp only [Int.add_sub_cancel]
 rw [lst_step h h0 h1]; rfl
theorem ite_min (a b : Int) : (if b < a then b else a) = min a b := by split <;> omega
end Go.P8
