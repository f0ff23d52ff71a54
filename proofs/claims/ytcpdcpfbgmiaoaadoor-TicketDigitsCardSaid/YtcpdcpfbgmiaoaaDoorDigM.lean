/- Tickets: the law of digits, in plain terms: changed digits; what can be read. No conditions. -/
import Derived.Test.YtcpdcpfbgmiaoaaDoorDigL
set_option linter.constructorNameAsVariable false
set_option linter.unusedVariables false
set_option linter.unusedSimpArgs false
set_option maxRecDepth 100000
namespace Go.P3
open Go.Lom Go.Proofs Go

/-! a digit changed, two exchanged -/
theorem not97 : ∀ j, j < 10 → ∀ d : Nat, d < 19 → d ≠ 9 → (((d : Int) - 9) * 10 ^ j) % 97 ≠ 0 := by decide +kernel
theorem not97b : ∀ j, j < 9 → ∀ d : Nat, d < 19 → d ≠ 9 → (((d : Int) - 9) * (9 * 10 ^ j)) % 97 ≠ 0 := by decide +kernel
theorem no97 {j : Nat} {d : Int} (hj : j < 10) (h0 : -9 ≤ d) (h1 : d ≤ 9) (hd : d ≠ 0) : (d * 10 ^ j) % 97 ≠ 0 := by
  have := not97 j hj (d + 9).toNat (by omega) (by omega)
  rw [show (((d + 9).toNat : Nat) : Int) - 9 = d by omega] at this; exact this
theorem no97b {j : Nat} {d : Int} (hj : j < 9) (h0 : -9 ≤ d) (h1 : d ≤ 9) (hd : d ≠ 0) : (d * (9 * 10 ^ j)) % 97 ≠ 0 := by
  have := not97b j hj (d + 9).toNat (by omega) (by omega)
  rw [show (((d + 9).toNat : Nat) : Int) - 9 = d by omega] at this; exact this
theorem getD_set {l : List Int} {i j : Nat} {c : Int} (h : i < l.length) : (l.set i c).getD j 0 = if j = i then c else l.getD j 0 := by
  simp only [List.getD_eq_getElem?_getD, List.getElem?_set]
  by_cases e : i = j
  · subst e; simp [h]
  · rw [if_neg e, if_neg (Ne.symm e)]
theorem set_mem {l : List Int} {i : Nat} {c x : Int} (h : x ∈ l.set i c) : x = c ∨ x ∈ l := by
  rcases List.mem_or_eq_of_mem_set h with h | h
  · exact .inr h
  · exact .inl h
theorem dig256 {w : List Int} (h : ∀ c ∈ w, 48 ≤ c ∧ c ≤ 57) : byI (w.map byteI) = w := byI_map fun c hc => by have := h c hc; omega
theorem change_30 {N c : Int} {i : Nat} (h0 : 1 ≤ N) (h1 : N ≤ 99999999) (hi : i < 10) (hc : 48 ≤ c ∧ c ≤ 57) (hne : c ≠ (byI (codeS N)).getD i 0) : (numberI (((byI (codeS N)).set i c).map byteI)).2 = 30 := by
  obtain ⟨v1, v2⟩ := code_val (n := N) (by omega) h1
  obtain ⟨_, _, b3⟩ := fullI_bd (n := N) (by omega) h1
  have hl : (byI (codeS N)).length = 10 := by rw [byI_len, code_len]
  have hd : ∀ x ∈ (byI (codeS N)).set i c, 48 ≤ x ∧ x ≤ 57 := fun x hx => by
    rcases set_mem hx with rfl | hx
    · exact hc
    · exact v2 x hx
  have he := dig256 hd
  refine num_30 (by simp [hl]) (by rw [he]; exact hd) fun h => ?_
  have h97 := num_mod h
  have hg := v2 _ (getD_mem (l := byI (codeS N)) (i := i) (by omega))
  rw [he, val_set _ _ _ (by omega), v1] at h97
  exact no97 (j := (byI (codeS N)).length - 1 - i) (d := c - (byI (codeS N)).getD i 0) (by omega) (by omega) (by omega) (by omega) (by omega)
def swapL (w : List Int) (k : Nat) : List Int := (w.set k (w.getD (k + 1) 0)).set (k + 1) (w.getD k 0)
theorem swap_iff {N : Int} {k : Nat} (h0 : 1 ≤ N) (h1 : N ≤ 99999999) (hk : k < 9) : (numberI ((swapL (byI (codeS N)) k).map byteI)).2 = 0 ↔ (byI (codeS N)).getD k 0 = (byI (codeS N)).getD (k + 1) 0 := by
  obtain ⟨v1, v2⟩ := code_val (n := N) (by omega) h1
  obtain ⟨_, _, b3⟩ := fullI_bd (n := N) (by omega) h1
  have hl : (byI (codeS N)).length = 10 := by rw [byI_len, code_len]
  generalize hw : byI (codeS N) = w at v1 v2 hl
  have ga := v2 _ (getD_mem (l := w) (i := k) (by omega))
  have gb := v2 _ (getD_mem (l := w) (i := k + 1) (by omega))
  constructor
  · intro h
    have hd : ∀ x ∈ swapL w k, 48 ≤ x ∧ x ≤ 57 := fun x hx => by
      rcases set_mem hx with rfl | hx
      · exact ga
      · rcases set_mem hx with rfl | hx
        · exact gb
        · exact v2 x hx
    have h97 := num_mod h
    rw [dig256 hd] at h97
    unfold swapL at h97
    rw [val_set _ _ _ (by simp; omega), val_set _ _ _ (by omega), List.length_set, getD_set (by omega), if_neg (by omega), hl, v1] at h97
    by_cases e : w.getD k 0 = w.getD (k + 1) 0
    · exact e
    · exfalso
      have := no97b (j := 8 - k) (d := w.getD (k + 1) 0 - w.getD k 0) (by omega) (by omega) (by omega) (by omega)
      rw [show 10 - 1 - k = 8 - k + 1 by omega, show 10 - 1 - (k + 1) = 8 - k by omega, Int.pow_succ] at h97
      generalize (10 : Int) ^ (8 - k) = p at *
      generalize w.getD (k + 1) 0 = b at *
      generalize w.getD k 0 = a at *
      have e1 : (b - a) * (9 * p) = (b - a) * (p * 10) + (a - b) * p := by
        rw [show a - b = -(b - a) by omega]
        generalize b - a = q
        have t1 : q * (9 * p) = 9 * (q * p) := Int.mul_left_comm q 9 p
        have t2 : q * (p * 10) = (q * p) * 10 := (Int.mul_assoc q p 10).symm
        have t3 : (-q) * p = -(q * p) := Int.neg_mul q p
        rw [t1, t2, t3]
        omega
      omega
  · intro h
    have e : swapL w k = w := by
      unfold swapL
      rw [← h]
      refine List.ext_getElem? fun j => ?_
      rw [List.getElem?_set, List.getElem?_set, List.length_set]
      by_cases e1 : k + 1 = j
      · subst e1
        rw [if_pos rfl, if_pos (by omega), h, List.getD_eq_getElem?_getD, List.getElem?_eq_getElem (by omega)]; rfl
      · rw [if_neg e1]
        by_cases e2 : k = j
        · subst e2
          rw [if_pos rfl, if_pos (by omega), List.getD_eq_getElem?_getD, List.getElem?_eq_getElem (by omega)]; rfl
        · rw [if_neg e2]
    rw [e, ← hw, map_byI, num_code h0 h1]

/-! what can be read: the rows that are filled in -/
def G : List Nat → Int → Int
  | [], _ => 0
  | e :: es, x => (x.tmod 10) * 10 ^ e + G es (x.tdiv 10)
def S15 : List Nat → Int
  | [] => 0
  | e :: es => 15 * 10 ^ e + S15 es
theorem pow_pos10 (e : Nat) : (0 : Int) < 10 ^ e := Int.pow_pos (by decide)
theorem pow_le10 {a b : Nat} (h : a ≤ b) : (10 : Int) ^ a ≤ 10 ^ b := by
  have := Nat.pow_le_pow_right (n := 10) (by decide) h
  exact_mod_cast this
theorem G_mono : ∀ (es : List Nat) (e0 : Nat) (x y : Int), es.Pairwise (· < ·) → (∀ e ∈ es, e0 ≤ e) → 0 ≤ x → x < y → y < 10 ^ es.length → G es x + 10 ^ e0 ≤ G es y
  | [], e0, x, y, _, _, h0, h1, h2 => by simp at h2; omega
  | e :: es, e0, x, y, hp, he, h0, h1, h2 => by
    obtain ⟨x1, x2⟩ := tm10 h0
    obtain ⟨y1, y2⟩ := tm10 (n := y) (by omega)
    obtain ⟨hp1, hp2⟩ := List.pairwise_cons.1 hp
    rw [List.length_cons, Int.pow_succ] at h2
    simp only [G]
    have he0 := pow_le10 (he e (List.mem_cons_self ..))
    by_cases hq : x.tdiv 10 = y.tdiv 10
    · rw [hq]
      have hlt : x.tmod 10 + 1 ≤ y.tmod 10 := by omega
      have := Int.mul_le_mul_of_nonneg_right hlt (Int.le_of_lt (pow_pos10 e))
      rw [Int.add_mul] at this
      omega
    · have ih := G_mono es (e + 1) (x.tdiv 10) (y.tdiv 10) hp2 (fun e' h' => hp1 e' h') (by omega) (by omega) (by omega)
      rw [Int.pow_succ] at ih
      have hp := pow_pos10 e
      have a1 : x.tmod 10 * 10 ^ e ≤ 9 * 10 ^ e := Int.mul_le_mul_of_nonneg_right (by omega) (Int.le_of_lt hp)
      have a2 : 0 ≤ y.tmod 10 * 10 ^ e := Int.mul_nonneg (by omega) (Int.le_of_lt hp)
      omega
def expo (p : Int) : Nat := (9 - p).toNat
theorem fillR_len : ∀ (ps : List Int) (x : Int) (w : List Int), (fillR ps x w).length = w.length
  | [], _, _ => rfl
  | p :: ps, x, w => by simp only [fillR]; rw [fillR_len ps]; simp
theorem fill_val : ∀ (ps : List Int) (x : Int) (w : List Int), w.length = 10 → (∀ p ∈ ps, 0 ≤ p ∧ p < 10 ∧ w.getD p.toNat 0 = 63) → ps.Pairwise (· > ·) → 0 ≤ x → val (fillR ps x w) = val w - S15 (ps.map expo) + G (ps.map expo) x
  | [], x, w, _, _, _, _ => by simp [fillR, S15, G]
  | p :: ps, x, w, hl, hp, hpw, h0 => by
    obtain ⟨g0, g1, g2⟩ := hp p (List.mem_cons_self ..)
    obtain ⟨hp1, hp2⟩ := List.pairwise_cons.1 hpw
    obtain ⟨x1, x2⟩ := tm10 h0
    simp only [fillR, List.map_cons, S15, G]
    rw [fill_val ps _ _ (by simp [hl]) (fun q hq => ?_) hp2 (by omega), val_set _ _ _ (by omega), g2, hl]
    · rw [show 10 - 1 - p.toNat = expo p by unfold expo; omega, show 48 + x.tmod 10 - 63 = x.tmod 10 - 15 by omega, Int.sub_mul]
      omega
    · obtain ⟨q0, q1, q2⟩ := hp q (List.mem_cons_of_mem _ hq)
      have := hp1 q hq
      exact ⟨q0, q1, by rw [getD_set (by omega), if_neg (by omega)]; exact q2⟩
/-- Off the places nothing is turned; in the places there are digits. -/
theorem fillR_off : ∀ (ps : List Int) (x : Int) (w : List Int) (j : Nat), (∀ p ∈ ps, 0 ≤ p ∧ p < w.length) → (j : Int) ∉ ps → (fillR ps x w).getD j 0 = w.getD j 0
  | [], x, w, j, _, _ => rfl
  | p :: ps, x, w, j, hp, hj => by
    simp only [fillR]
    obtain ⟨g0, g1⟩ := hp p (List.mem_cons_self ..)
    rw [fillR_off ps _ _ j (fun q hq => by rw [List.length_set]; exact hp q (List.mem_cons_of_mem _ hq)) fun h => hj (List.mem_cons_of_mem _ h), getD_set (by omega), if_neg]
    intro e
    exact hj (by rw [e, show ((p.toNat : Nat) : Int) = p by omega]; exact List.mem_cons_self ..)
theorem ext_getD {l m : List Int} (h : l.length = m.length) (hg : ∀ i, i < l.length → l.getD i 0 = m.getD i 0) : l = m := by
  refine List.ext_getElem h fun i h1 h2 => ?_
  have := hg i h1
  rw [List.getD_eq_getElem?_getD, List.getD_eq_getElem?_getD, List.getElem?_eq_getElem h1, List.getElem?_eq_getElem h2] at this
  exact this
theorem fill_hit : ∀ (ps : List Int) (w t : List Int), w.length = t.length → (∀ p ∈ ps, 0 ≤ p ∧ p < w.length ∧ 48 ≤ t.getD p.toNat 0 ∧ t.getD p.toNat 0 ≤ 57) → (∀ i : Nat, (i : Int) ∉ ps → w.getD i 0 = t.getD i 0) → ∃ x, 0 ≤ x ∧ x < 10 ^ ps.length ∧ fillR ps x w = t
  | [], w, t, hl, _, hg => ⟨0, by omega, by simp, ext_getD hl fun i _ => hg i (by simp)⟩
  | p :: ps, w, t, hl, hp, hg => by
    obtain ⟨g0, g1, g2, g3⟩ := hp p (List.mem_cons_self ..)
    obtain ⟨x, h0, h1, h2⟩ := fill_hit ps (w.set p.toNat (t.getD p.toNat 0)) t (by simp [hl]) (fun q hq => by rw [List.length_set]; exact hp q (List.mem_cons_of_mem _ hq)) fun i hi => by
      rw [getD_set (by omega)]
      split
      · rename_i e; rw [e]
      · rename_i e
        refine hg i fun h => ?_
        rcases List.mem_cons.1 h with h | h
        · exact e (by omega)
        · exact hi h
    refine ⟨(t.getD p.toNat 0 - 48) + 10 * x, by omega, by rw [List.length_cons, Int.pow_succ]; omega, ?_⟩
    obtain ⟨e1, e2⟩ := tm10 (n := (t.getD p.toNat 0 - 48) + 10 * x) (by omega)
    simp only [fillR]
    rw [show ((t.getD p.toNat 0 - 48) + 10 * x).tdiv 10 = x by rw [e2]; omega, show 48 + ((t.getD p.toNat 0 - 48) + 10 * x).tmod 10 = t.getD p.toNat 0 by rw [e1]; omega]
    exact h2
end Go.P3
