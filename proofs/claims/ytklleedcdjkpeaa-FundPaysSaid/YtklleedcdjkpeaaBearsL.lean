/- Funds: which needs can be met, by how much money, with how many groups at the beginning: plain laws. No conditions. -/
import Derived.Test.YtklleedcdjkpeaaLeast2S
import Derived.Test.YtklleedcdjkpeaaLeastP
set_option linter.constructorNameAsVariable false
set_option linter.unusedVariables false
set_option linter.unusedSimpArgs false
set_option maxRecDepth 100000
namespace Go.P9
open Go.Lom Go.Proofs Go

/-! the fewest -/
theorem fewI_spec {f : Fd} {ns : List Int} : ∀ (j : Nat) (i : Int), (fewI f ns j i = -1 ∧ ∀ b, i ≤ b → b < i + j → ¬ askF f ns b true 0 0 ≤ 0) ∨ (i ≤ fewI f ns j i ∧ fewI f ns j i < i + j ∧ askF f ns (fewI f ns j i) true 0 0 ≤ 0 ∧ ∀ b, i ≤ b → b < fewI f ns j i → ¬ askF f ns b true 0 0 ≤ 0)
  | 0, i => .inl ⟨rfl, fun b h0 h1 => by omega⟩
  | j + 1, i => by
    simp only [fewI]
    by_cases h : askF f ns i true 0 0 ≤ 0
    · rw [if_pos h]
      exact .inr ⟨by omega, by omega, h, fun b h0 h1 => by omega⟩
    · rw [if_neg h]
      rcases fewI_spec j (i + 1) with ⟨h1, h2⟩ | ⟨h1, h2, h3, h4⟩
      · exact .inl ⟨h1, fun b g0 g1 => by
          by_cases e : b = i
          · rw [e]; exact h
          · exact h2 b (by omega) (by omega)⟩
      · exact .inr ⟨by omega, by omega, h3, fun b g0 g1 => by
          by_cases e : b = i
          · rw [e]; exact h
          · exact h4 b (by omega) g1⟩
theorem few_cases {f : Fd} {ns : List Int} : (fewN f ns = -1 ∧ ∀ b, 0 ≤ b → b ≤ fBars f → ¬ askF f ns b true 0 0 ≤ 0) ∨ (0 ≤ fewN f ns ∧ fewN f ns ≤ fBars f ∧ askF f ns (fewN f ns) true 0 0 ≤ 0 ∧ ∀ b, 0 ≤ b → b < fewN f ns → ¬ askF f ns b true 0 0 ≤ 0) := by
  unfold fewN
  rcases fewI_spec (f := f) (ns := ns) (fBars f + 1).toNat 0 with ⟨h1, h2⟩ | ⟨h1, h2, h3, h4⟩
  · exact .inl ⟨h1, fun b g0 g1 => h2 b g0 (by omega)⟩
  · exact .inr ⟨h1, by omega, h3, h4⟩
theorem walk_nonneg {pr sl : Int → Int} : ∀ {ns : List Int} {t m : Int} {l : List Int}, walkP pr sl ns t m l → ∀ x ∈ l, 0 ≤ x
  | [], _, _, [], _, x, hx => by cases hx
  | [], _, _, _ :: _, h, _, _ => h.elim
  | _ :: _, _, _, [], h, _, _ => h.elim
  | n :: ns, t, m, c :: l, h, x, hx => by
    rcases List.mem_cons.1 hx with rfl | hx
    · exact h.1.1
    · exact walk_nonneg h.2 x hx
theorem sum_nnA : ∀ {l : List Int}, (∀ x ∈ l, 0 ≤ x) → 0 ≤ l.sum
  | [], _ => by simp
  | x :: l, h => by
    have := h x (List.mem_cons_self ..)
    have := sum_nnA (l := l) fun y hy => h y (List.mem_cons_of_mem _ hy)
    rw [List.sum_cons]; omega
theorem few_iff {f : Fd} {ns : List Int} (hN : needB f ns (fBars f)) : 0 ≤ fewN f ns ↔ feas (prF f) (slF f) (finB (fBars f) false) ns 0 0 0 := by
  constructor
  · intro h
    rcases few_cases (f := f) (ns := ns) with h1 | ⟨h1, h2, h3, _⟩
    · omega
    · have h4 := (ask0_iff (needB_le hN h1 h2) (ex := true) (by omega) (by omega)).1 h3
      refine feas_fin (fun k hk => ?_) h4
      have hk : k = fewN f ns := hk
      show k ≤ fBars f
      omega
  · intro h
    obtain ⟨l, h1, h2⟩ := feas_walk.1 h
    have h0 := sum_nnA (walk_nonneg h1)
    have h2 : 0 + l.sum ≤ fBars f := h2
    have h3 := (ask0_iff (needB_le hN (i := l.sum) h0 (by omega)) (ex := true) (m := 0) (by omega) (by omega)).2 (feas_walk.2 ⟨l, h1, show 0 + l.sum = l.sum by omega⟩)
    rcases few_cases (f := f) (ns := ns) with h4 | h4
    · exact absurd h3 (h4.2 l.sum h0 (by omega))
    · exact h4.1
theorem ask_all_iff {f : Fd} {ns : List Int} (hN : needB f ns (fBars f)) {m : Int} (h0 : 0 ≤ m) (h1 : m ≤ 1125899906842624) : askF f ns (fBars f) false 0 0 ≤ m ↔ feas (prF f) (slF f) (finB (fBars f) false) ns 0 0 m := ask0_iff hN h0 h1
theorem lackF_iff {f : Fd} (hf : okF f = true) : lackF f ≤ 0 ↔ 0 ≤ fewN f (needsL f) := by
  have hN := needsL_B hf
  rw [few_iff hN, ← ask_all_iff hN (by omega) (by omega)]
  unfold lackF maxI
  split <;> omega
theorem needH_less {f : Fd} {ns : List Int} (h : needH f ns) {d : Int} (h0 : 0 ≤ d) (h1 : d ≤ 562949953421312) : needB f (ns.map (· - d)) (fBars f) := by
  obtain ⟨⟨hf, n12, nl, b0, b1, nb⟩, hb⟩ := h
  refine ⟨hf, by simpa using n12, by simpa using nl, b0, b1, fun x hx => ?_⟩
  obtain ⟨y, hy, rfl⟩ := List.mem_map.1 hx
  have h2 := hb y hy
  show -1125899906842624 ≤ y - d ∧ y - d ≤ 1125899906842624
  omega
theorem few_less {f : Fd} {ns : List Int} (h : needH f ns) {d : Int} (h0 : 0 ≤ d) (h1 : d ≤ 562949953421312) : 0 ≤ fewN f (ns.map (· - d)) ↔ askF f ns (fBars f) false 0 0 ≤ d := by
  rw [few_iff (needH_less h h0 h1), feas_shift, ask_all_iff h.1 h0 (by omega), Int.zero_add]
theorem feas_zero {pr sl : Int → Int} (hs : ∀ t, 0 ≤ sl t) {fin : Int → Prop} {k m : Int} (hk : fin k) : ∀ {ns : List Int} {t : Int}, (∀ x ∈ ns, x ≤ m) → feas pr sl fin ns t k m
  | [], _, _ => hk
  | n :: ns, t, h => by
    refine ⟨0, Int.le_refl _, hs t, ?_, ?_⟩
    · rw [Int.zero_mul, Int.add_zero]; exact h n (List.mem_cons_self ..)
    · rw [Int.zero_mul, Int.add_zero, Int.add_zero]
      exact feas_zero hs hk fun x hx => h x (List.mem_cons_of_mem _ hx)
theorem needsK_H {f : Fd} (hf : okF f = true) : ∀ (k : Nat) (i due : Int), 0 ≤ i → i + k ≤ (fIn f).length → -1099511627776 - 1073741824 * i ≤ due → due ≤ 1073741824 * i → ∀ x ∈ needsK f k i due, -562949953421312 ≤ x ∧ x ≤ 562949953421312
  | 0, _, _, _, _, _, _, x, hx => by simp [needsK] at hx
  | k + 1, i, due, h0, h1, h2, h3, x, hx => by
    have hA := okA_iff.1 (okF_parts hf).1
    have hd := day_bd hf h0 (by omega)
    have hw := worstW_bd hf i
    have hdue : dueI f i due = due + ((fBonds f).getD i.toNat 0 - ((fIn f).getD i.toNat (0, 0)).1) := rfl
    simp only [needsK, List.mem_cons] at hx
    rcases hx with rfl | hx
    · omega
    · exact needsK_H hf k (i + 1) (dueI f i due) (by omega) (by omega) (by omega) (by omega) x hx
theorem needsL_H {f : Fd} (hf : okF f = true) : needH f (needsL f) := by
  have hA := okA_iff.1 (okF_parts hf).1
  have hB := okB_iff.1 (okF_parts hf).2.2.1
  exact ⟨needsL_B hf, needsK_H hf _ 0 _ (by omega) (by omega) (by omega) (by omega)⟩

/-! lesser needs -/
def leL : List Int → List Int → Prop
  | [], [] => True
  | a :: l, b :: r => a ≤ b ∧ leL l r
  | _, _ => False
theorem feas_le {pr sl : Int → Int} {fin : Int → Prop} : ∀ {ns ns' : List Int} {t k m : Int}, leL ns ns' → feas pr sl fin ns' t k m → feas pr sl fin ns t k m
  | [], [], _, _, _, _, h => h
  | [], _ :: _, _, _, _, h, _ => h.elim
  | _ :: _, [], _, _, _, h, _ => h.elim
  | n :: ns, n' :: ns', t, k, m, h, ⟨c, h1, h2, h3, h4⟩ => ⟨c, h1, h2, Int.le_trans h.1 h3, feas_le h.2 h4⟩
theorem worst_begin {f : Fd} {a b : Int} (ha : okF (wB f a) = true) (hb : okF (wB f b) = true) (h : a ≤ b) (day : Int) : (worstW (wB f a) day).2 ≤ (worstW (wB f b) day).2 := by
  obtain ⟨h1, h2, _⟩ := worstW_valid ha day
  rw [h2]
  exact (worstW_valid hb day).2.2 _ ⟨h1.1, Int.le_trans h1.2 h⟩
theorem needs_begin {f : Fd} {a b : Int} (ha : okF (wB f a) = true) (hb : okF (wB f b) = true) (h : a ≤ b) : ∀ (k : Nat) (i due : Int), leL (needsK (wB f a) k i due) (needsK (wB f b) k i due)
  | 0, _, _ => trivial
  | k + 1, i, due => ⟨Int.add_le_add_left (worst_begin ha hb h i) _, needs_begin ha hb h k (i + 1) _⟩
theorem lackB_mono {f : Fd} {a b : Int} (ha : okF (wB f a) = true) (hb : okF (wB f b) = true) (h : a ≤ b) (hl : lackB f a = true) : lackB f b = true := by
  have hl := of_decide_eq_true hl
  refine decide_eq_true ?_
  by_cases c : 0 < lackF (wB f b)
  · exact c
  · have h1 := (few_iff (needsL_B hb)).1 ((lackF_iff hb).1 (by omega))
    have h2 := (lackF_iff ha).2 ((few_iff (needsL_B ha)).2 (feas_le (needs_begin ha hb h _ _ _) h1))
    omega
theorem topI_spec (f : Fd) : ∀ k : Nat, -1 ≤ topI f k ∧ topI f k < k ∧ (0 ≤ topI f k → lackB f (topI f k) = false) ∧ ∀ n : Int, topI f k < n → n < k → lackB f n = true
  | 0 => ⟨Int.le_refl _, by simp [topI], fun h => by simp [topI] at h, fun n h0 h1 => by simp only [topI] at h0; omega⟩
  | k + 1 => by
    simp only [topI]
    obtain ⟨h1, h2, h3, h4⟩ := topI_spec f k
    by_cases h : lackB f k = true
    · rw [if_pos h]
      exact ⟨h1, by omega, h3, fun n g0 g1 => by
        by_cases e : n = k
        · rw [e]; exact h
        · exact h4 n g0 (by omega)⟩
    · rw [if_neg h]
      exact ⟨by omega, by omega, fun _ => by simpa using h, fun n g0 g1 => by omega⟩
theorem firstIx_num {p : Int → Bool} {m : Int} : ∀ (k : Nat) (i : Int), 0 ≤ i → k = (m - i).toNat → (firstIx p (numL m i) i = -1 ∧ ∀ j, i ≤ j → j < m → p j = false) ∨ (i ≤ firstIx p (numL m i) i ∧ firstIx p (numL m i) i < m ∧ p (firstIx p (numL m i) i) = true ∧ ∀ j, i ≤ j → j < firstIx p (numL m i) i → p j = false)
  | 0, i, h0, hk => by
    rw [numL_end h0 (by omega)]
    exact .inl ⟨rfl, fun j g0 g1 => by omega⟩
  | k + 1, i, h0, hk => by
    rw [numL_step h0 (by omega)]
    simp only [firstIx]
    by_cases h : p i = true
    · rw [if_pos h]
      exact .inr ⟨by omega, by omega, h, fun j g0 g1 => by omega⟩
    · rw [if_neg h]
      have hi : ∀ j, i ≤ j → ¬ i + 1 ≤ j → p j = false := fun j g0 g1 => by rw [show j = i by omega]; simpa using h
      rcases firstIx_num (p := p) (m := m) k (i + 1) (by omega) (by omega) with ⟨h1, h2⟩ | ⟨h1, h2, h3, h4⟩
      · exact .inl ⟨h1, fun j g0 g1 => by
          by_cases e : i + 1 ≤ j
          · exact h2 j e g1
          · exact hi j g0 e⟩
      · exact .inr ⟨by omega, h2, h3, fun j g0 g1 => by
          by_cases e : i + 1 ≤ j
          · exact h4 j e g1
          · exact hi j g0 e⟩
theorem bearA_cases (f : Fd) : (bearA f = -1 ∧ ∀ j : Int, 0 ≤ j → j ≤ (fGroups f).length → lackB f j = false) ∨ (0 ≤ bearA f ∧ bearA f ≤ (fGroups f).length ∧ lackB f (bearA f) = true ∧ ∀ j : Int, 0 ≤ j → j < bearA f → lackB f j = false) := by
  unfold bearA
  rcases firstIx_num (p := lackB f) (m := ((fGroups f).length : Int) + 1) (((fGroups f).length : Int) + 1 - 0).toNat 0 (by omega) rfl with ⟨h1, h2⟩ | ⟨h1, h2, h3, h4⟩
  · exact .inl ⟨h1, fun j g0 g1 => h2 j g0 (by omega)⟩
  · exact .inr ⟨h1, by omega, h3, h4⟩
theorem top_bear {f : Fd} (hf : okF f = true) : topI f ((fGroups f).length + 1) = if bearA f = -1 then ((fGroups f).length : Int) else bearA f - 1 := by
  obtain ⟨t1, t2, t3, t4⟩ := topI_spec f ((fGroups f).length + 1)
  generalize topI f ((fGroups f).length + 1) = v at *
  rcases bearA_cases f with ⟨h1, h2⟩ | ⟨h1, h2, h3, h4⟩
  · rw [if_pos h1]
    by_cases e : v < (fGroups f).length
    · have h5 := t4 (fGroups f).length e (by omega)
      rw [h2 _ (by omega) (by omega)] at h5; cases h5
    · omega
  · rw [if_neg (by omega)]
    by_cases e : bearA f ≤ v
    · have h5 := lackB_mono (okF_wB hf h1 h2) (okF_wB hf (n := v) (by omega) (by omega)) e h3
      rw [t3 (by omega)] at h5; cases h5
    · by_cases e2 : v < bearA f - 1
      · have h5 := t4 (bearA f - 1) e2 (by omega)
        rw [h4 _ (by omega) (by omega)] at h5; cases h5
      · omega
end Go.P9
