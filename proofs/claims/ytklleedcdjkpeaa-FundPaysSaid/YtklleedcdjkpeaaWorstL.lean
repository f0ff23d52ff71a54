/- Funds: the worst run: the plain law. No conditions. -/
import Derived.Test.YtklleedcdjkpeaaWorst2P
set_option linter.constructorNameAsVariable false
set_option linter.unusedVariables false
set_option linter.unusedSimpArgs false
set_option maxRecDepth 100000
namespace Go.P9
open Go.Lom Go.Proofs Go

/-! which list is ahead -/
theorem ahead_app : ∀ (l a b : List Int), aheadI (l ++ a) (l ++ b) = aheadI a b
  | [], _, _ => rfl
  | x :: l, a, b => by show (if x = x then aheadI (l ++ a) (l ++ b) else _) = _; rw [if_pos rfl]; exact ahead_app l a b
theorem ahead_irr : ∀ l : List Int, aheadI l l = false
  | [] => rfl
  | x :: l => by show (if x = x then aheadI l l else _) = _; rw [if_pos rfl]; exact ahead_irr l
theorem ahead_trans : ∀ {a b c : List Int}, aheadI a b = true → aheadI b c = true → aheadI a c = true
  | [], [], _, h, _ => by cases h
  | [], _ :: _, [], _, h => by cases h
  | [], _ :: _, _ :: _, _, _ => rfl
  | _ :: _, [], _, h, _ => by cases h
  | _ :: _, _ :: _, [], _, h => by cases h
  | x :: a, y :: b, z :: c, h, k => by
    simp only [aheadI] at h k ⊢
    by_cases e : x = y
    · subst e
      rw [if_pos rfl] at h
      by_cases e2 : x = z
      · subst e2; rw [if_pos rfl] at k ⊢; exact ahead_trans h k
      · rw [if_neg e2] at k ⊢; exact k
    · rw [if_neg e] at h
      have h := of_decide_eq_true h
      by_cases e2 : y = z
      · subst e2; rw [if_neg e]; exact decide_eq_true h
      · rw [if_neg e2] at k
        have k := of_decide_eq_true k
        rw [if_neg (by omega)]; exact decide_eq_true (by omega)

/-! valid lists -/
def okL (n : Nat) (l : List Int) : Prop := l.Pairwise (· < ·) ∧ ∀ x ∈ l, 0 ≤ x ∧ x < n
theorem getD_eq {l : List Int} {k : Nat} (h : k < l.length) : l.getD k 0 = l[k] := by simp [List.getD_eq_getElem?_getD, h]
theorem lists_iff {n : Nat} {l : List Int} : listsB n l 0 = true ↔ okL n l := by
  constructor
  · intro h
    refine ⟨List.pairwise_iff_getElem.2 fun i j hi hj hij => ?_, listsB_in h⟩
    have st : ∀ k, k + 1 < l.length → l.getD k 0 < l.getD (k + 1) 0 := fun k hk => by
      have h2 := List.all_eq_true.1 h (k + 1) (by simpa using hk)
      have h3 := ((ltB_iff (i := ((k + 1 : Nat) : Int)) (by omega)).1 (by rw [Int.toNat_natCast]; exact h2)).2 (by omega)
      rw [show (((k + 1 : Nat) : Int) - 1).toNat = k by omega, Int.toNat_natCast] at h3
      omega
    have : ∀ d, i + d + 1 < l.length → l.getD i 0 < l.getD (i + d + 1) 0 := by
      intro d
      induction d with
      | zero => intro hd; exact st i hd
      | succ d ih => intro hd; have := ih (by omega); have := st (i + d + 1) hd; rw [show i + (d + 1) + 1 = i + d + 1 + 1 by omega]; omega
    have := this (j - i - 1) (by omega)
    rw [show i + (j - i - 1) + 1 = j by omega, getD_eq hi, getD_eq hj] at this
    exact this
  · intro ⟨h1, h2⟩
    unfold listsB
    simp only [Int.toNat_zero, List.drop_zero]
    refine List.all_eq_true.2 fun k hk => ?_
    have hk : k < l.length := by simpa using hk
    have := (ltB_iff (n := n) (l := l) (i := (k : Int)) (by omega)).2
    rw [Int.toNat_natCast] at this
    have g := h2 _ (getD_mem hk 0)
    refine this ⟨⟨g.1, by omega⟩, fun hg => ?_⟩
    have h3 := List.pairwise_iff_getElem.1 h1 (k - 1) k (by omega) hk (by omega)
    rw [show ((k : Int) - 1).toNat = k - 1 by omega, getD_eq (show k - 1 < l.length by omega), getD_eq hk]
    omega
theorem sorted_eq : ∀ {a b : List Int}, a.Pairwise (· < ·) → b.Pairwise (· < ·) → (∀ x, x ∈ a ↔ x ∈ b) → a = b
  | [], [], _, _, _ => rfl
  | [], y :: b, _, _, h => by have := (h y).2 (List.mem_cons_self ..); cases this
  | x :: a, [], _, _, h => by have := (h x).1 (List.mem_cons_self ..); cases this
  | x :: a, y :: b, ha, hb, h => by
    rw [List.pairwise_cons] at ha hb
    have e : x = y := by
      rcases List.mem_cons.1 ((h x).1 (List.mem_cons_self ..)) with e | e
      · exact e
      · rcases List.mem_cons.1 ((h y).2 (List.mem_cons_self ..)) with e2 | e2
        · exact e2.symm
        · have := hb.1 x e; have := ha.1 y e2; omega
    subst e
    rw [sorted_eq ha.2 hb.2 fun z => ?_]
    constructor
    · intro hz
      rcases List.mem_cons.1 ((h z).1 (List.mem_cons_of_mem _ hz)) with e | e
      · have := ha.1 z hz; omega
      · exact e
    · intro hz
      rcases List.mem_cons.1 ((h z).2 (List.mem_cons_of_mem _ hz)) with e | e
      · have := hb.1 z hz; omega
      · exact e

/-! all lists -/
theorem rest_form {n b : Nat} : ∀ (k : Nat) (l : List Int), k ≤ n → ∀ x ∈ restV n b k l, ∃ j s, x = l ++ (j :: s) ∧ (n : Int) - k ≤ j ∧ okL n (j :: s) ∧ x.length ≤ b
  | 0, l, _, x, hx => by simp [restV] at hx
  | k + 1, l, hk, x, hx => by
    simp only [restV] at hx
    split at hx
    · rename_i hb
      rcases List.mem_cons.1 hx with rfl | hx
      · exact ⟨(n : Int) - k - 1, [], rfl, by omega, ⟨by simp, fun y hy => by simp at hy; omega⟩, by simp; omega⟩
      · rcases List.mem_append.1 hx with hx | hx
        · obtain ⟨j, s, rfl, h1, ⟨h2, h3⟩, h4⟩ := rest_form k _ (by omega) x hx
          refine ⟨(n : Int) - k - 1, j :: s, by simp, by omega, ⟨List.pairwise_cons.2 ⟨fun y hy => ?_, h2⟩, fun y hy => ?_⟩, h4⟩
          · rcases List.mem_cons.1 hy with rfl | hy
            · omega
            · have := (List.pairwise_cons.1 h2).1 y hy; omega
          · rcases List.mem_cons.1 hy with rfl | hy
            · omega
            · exact h3 y hy
        · obtain ⟨j, s, e, h1, h2, h4⟩ := rest_form k l (by omega) x hx
          exact ⟨j, s, e, by omega, h2, h4⟩
    · simp at hx
theorem rest_mem {n b : Nat} : ∀ (k : Nat) (l : List Int) (j : Int) (s : List Int), k ≤ n → (n : Int) - k ≤ j → okL n (j :: s) → (l ++ (j :: s)).length ≤ b → l ++ (j :: s) ∈ restV n b k l
  | 0, l, j, s, _, h1, ⟨_, h3⟩, _ => by have := (h3 j (List.mem_cons_self ..)).2; omega
  | k + 1, l, j, s, hk, h1, ⟨h2, h3⟩, h4 => by
    simp only [List.length_append, List.length_cons] at h4
    simp only [restV]
    rw [if_pos (by omega)]
    by_cases e : j = (n : Int) - k - 1
    · rw [← e]
      cases s with
      | nil => exact List.mem_cons_self ..
      | cons y t =>
        refine List.mem_cons_of_mem _ (List.mem_append_left _ ?_)
        have hp := List.pairwise_cons.1 h2
        have := rest_mem (n := n) (b := b) k (l ++ [j]) y t (by omega) (by have := hp.1 y (List.mem_cons_self ..); omega) ⟨hp.2, fun z hz => h3 z (List.mem_cons_of_mem _ hz)⟩ (by simp only [List.length_append, List.length_cons, List.length_nil] at h4 ⊢; omega)
        rw [List.append_assoc] at this; exact this
    · exact List.mem_cons_of_mem _ (List.mem_append_right _ (rest_mem k l j s (by omega) (by omega) ⟨h2, h3⟩ (by simp only [List.length_append, List.length_cons]; omega)))
theorem rest_sorted {n b : Nat} : ∀ (k : Nat) (l : List Int), k ≤ n → (restV n b k l).Pairwise fun x y => aheadI x y = true
  | 0, l, _ => List.Pairwise.nil
  | k + 1, l, hk => by
    simp only [restV]
    split
    · refine List.pairwise_cons.2 ⟨fun x hx => ?_, List.pairwise_append.2 ⟨rest_sorted k _ (by omega), rest_sorted k l (by omega), fun x hx y hy => ?_⟩⟩
      · rcases List.mem_append.1 hx with hx | hx
        · obtain ⟨j, s, rfl, _⟩ := rest_form k _ (by omega) x hx
          have := ahead_app (l ++ [(n : Int) - k - 1]) [] (j :: s)
          rw [List.append_nil] at this
          rw [this]; rfl
        · obtain ⟨j, s, rfl, h1, _⟩ := rest_form k l (by omega) x hx
          rw [ahead_app]
          simp only [aheadI]
          rw [if_neg (by omega)]; exact decide_eq_true (by omega)
      · obtain ⟨j, s, rfl, _⟩ := rest_form k _ (by omega) x hx
        obtain ⟨j', s', rfl, h1, _⟩ := rest_form k l (by omega) y hy
        rw [List.append_assoc, ahead_app]
        simp only [List.singleton_append, aheadI]
        rw [if_neg (by omega)]; exact decide_eq_true (by omega)
    · exact List.Pairwise.nil
def validL (f : Fd) (l : List Int) : Prop := okL (fGroups f).length l ∧ (l.length : Int) ≤ fBegin f
theorem allV_mem {f : Fd} (hb : 0 ≤ fBegin f) {l : List Int} : l ∈ allV f ↔ validL f l := by
  unfold allV validL
  constructor
  · intro h
    rcases List.mem_cons.1 h with rfl | h
    · exact ⟨⟨List.Pairwise.nil, fun x hx => by simp at hx⟩, by simpa using hb⟩
    · obtain ⟨j, s, rfl, _, h2, h3⟩ := rest_form _ [] (Nat.le_refl _) l h
      exact ⟨h2, by omega⟩
  · intro ⟨h1, h2⟩
    cases l with
    | nil => exact List.mem_cons_self ..
    | cons j s => exact List.mem_cons_of_mem _ (rest_mem _ [] j s (Nat.le_refl _) (by have := (h1.2 j (List.mem_cons_self ..)).1; omega) h1 (by show (j :: s).length ≤ _; omega))
theorem allV_sorted (f : Fd) : (allV f).Pairwise fun x y => aheadI x y = true := by
  unfold allV
  refine List.pairwise_cons.2 ⟨fun x hx => ?_, rest_sorted _ _ (Nat.le_refl _)⟩
  obtain ⟨j, s, rfl, _⟩ := rest_form _ [] (Nat.le_refl _) x hx
  rfl

/-! the first of the greatest -/
theorem runW_best (f : Fd) (day : Int) : ∀ (L : List (List Int)) (x : List Int × Int), (L.Pairwise fun x y => aheadI x y = true) →
    (runW f day x L = x ∧ ∀ l ∈ L, takenL f l day ≤ x.2) ∨ ((runW f day x L).1 ∈ L ∧ (runW f day x L).2 = takenL f (runW f day x L).1 day ∧ (runW f day x L).2 > x.2 ∧
      ∀ l ∈ L, takenL f l day ≤ (runW f day x L).2 ∧ (takenL f l day = (runW f day x L).2 → l = (runW f day x L).1 ∨ aheadI (runW f day x L).1 l = true))
  | [], x, _ => .inl ⟨rfl, fun l h => by simp at h⟩
  | a :: L, x, hs => by
    rw [List.pairwise_cons] at hs
    rw [runW_cons]
    unfold updW
    by_cases c : takenL f a day > x.2
    · rw [if_pos c]
      rcases runW_best f day L (a, takenL f a day) hs.2 with ⟨h1, h2⟩ | ⟨h1, h2, h3, h4⟩
      · right
        rw [h1]
        refine ⟨List.mem_cons_self .., rfl, c, fun l hl => ?_⟩
        rcases List.mem_cons.1 hl with rfl | hl
        · exact ⟨Int.le_refl _, fun _ => .inl rfl⟩
        · exact ⟨h2 l hl, fun _ => .inr (hs.1 l hl)⟩
      · right
        have h3 : _ > takenL f a day := h3
        refine ⟨List.mem_cons_of_mem _ h1, h2, by omega, fun l hl => ?_⟩
        rcases List.mem_cons.1 hl with rfl | hl
        · exact ⟨by omega, fun e => by omega⟩
        · exact h4 l hl
    · rw [if_neg c]
      rcases runW_best f day L x hs.2 with ⟨h1, h2⟩ | ⟨h1, h2, h3, h4⟩
      · left
        refine ⟨h1, fun l hl => ?_⟩
        rcases List.mem_cons.1 hl with rfl | hl
        · omega
        · exact h2 l hl
      · right
        refine ⟨List.mem_cons_of_mem _ h1, h2, h3, fun l hl => ?_⟩
        rcases List.mem_cons.1 hl with rfl | hl
        · exact ⟨by omega, fun e => by omega⟩
        · exact h4 l hl

/-! by numbers' bits -/
theorem bitB_nat (m i : Nat) (hi : i < 64) : bitB (m : Int) i = m.testBit i := by
  unfold bitB
  rw [Nat.min_eq_left (by omega), Nat.testBit_eq_decide_div_mod_eq]
  have e1 : Int.fdiv (m : Int) (2 ^ i) = ((m / 2 ^ i : Nat) : Int) := by
    rw [Int.fdiv_eq_ediv_of_nonneg _ (by exact Int.pow_nonneg (by omega))]
    rw [Int.natCast_ediv]; simp
  rw [e1]
  have e2 : Int.tmod ((m / 2 ^ i : Nat) : Int) 2 = ((m / 2 ^ i % 2 : Nat) : Int) := by
    rw [Int.tmod_eq_emod_of_nonneg (Int.natCast_nonneg _)]; simp
  rw [e2, Bool.eq_iff_iff, beq_iff_eq, decide_eq_true_eq]
  omega
theorem bits_of (p : Nat → Bool) : ∀ n : Nat, ∃ m, m < 2 ^ n ∧ ∀ i, i < n → m.testBit i = p i
  | 0 => ⟨0, by simp, fun i h => by omega⟩
  | n + 1 => by
    obtain ⟨m, h1, h2⟩ := bits_of p n
    have hz : m.testBit n = false := Nat.testBit_lt_two_pow h1
    by_cases c : p n = true
    · refine ⟨2 ^ n + m, by rw [Nat.pow_succ]; omega, fun i hi => ?_⟩
      by_cases e : i = n
      · subst e; rw [Nat.testBit_two_pow_add_eq, hz, c]; rfl
      · rw [Nat.testBit_two_pow_add_gt (by omega)]; exact h2 i (by omega)
    · refine ⟨m, by rw [Nat.pow_succ]; omega, fun i hi => ?_⟩
      by_cases e : i = n
      · subst e; rw [hz]; exact ((Bool.not_eq_true _).mp c).symm
      · exact h2 i (by omega)
theorem beginD_mem {n : Nat} {bits x : Int} : x ∈ beginD n bits 0 ↔ 0 ≤ x ∧ x < n ∧ bitB bits x.toNat = true := by
  unfold beginD
  simp only [Int.toNat_zero, List.drop_zero, List.mem_map, List.mem_filter, List.mem_range]
  constructor
  · rintro ⟨k, ⟨h1, h2⟩, rfl⟩; exact ⟨by omega, by omega, by rw [Int.toNat_natCast]; exact h2⟩
  · rintro ⟨h1, h2, h3⟩; exact ⟨x.toNat, ⟨by omega, h3⟩, by omega⟩
theorem beginD_ok (n : Nat) (bits : Int) : okL n (beginD n bits 0) := by
  refine ⟨?_, fun x hx => ⟨(beginD_mem.1 hx).1, (beginD_mem.1 hx).2.1⟩⟩
  unfold beginD
  rw [List.pairwise_map]
  exact List.Pairwise.imp (fun h => by omega) (List.Pairwise.filter _ (List.Pairwise.sublist (List.drop_sublist _ _) (List.pairwise_lt_range (n := n))))
theorem bits_list {n : Nat} (hn : n ≤ 8) {l : List Int} (h : okL n l) : ∃ bits : Int, 0 ≤ bits ∧ bits < 2 ^ n ∧ beginD n bits 0 = l := by
  obtain ⟨m, h1, h2⟩ := bits_of (fun i => decide ((i : Int) ∈ l)) n
  refine ⟨(m : Int), by omega, by have : ((2 ^ n : Nat) : Int) = (2 : Int) ^ n := by simp
                                  omega, sorted_eq (beginD_ok n m).1 h.1 fun x => ?_⟩
  rw [beginD_mem]
  constructor
  · rintro ⟨g1, g2, g3⟩
    rw [bitB_nat _ _ (by omega), h2 _ (by omega)] at g3
    have := of_decide_eq_true g3
    rwa [show ((x.toNat : Nat) : Int) = x by omega] at this
  · intro hx
    have g := h.2 x hx
    refine ⟨g.1, g.2, ?_⟩
    rw [bitB_nat _ _ (by omega), h2 _ (by omega)]
    exact decide_eq_true (by rw [show ((x.toNat : Nat) : Int) = x by omega]; exact hx)

/-- What is known of the reference's search after the numbers below j. -/
def invR (f : Fd) (day j : Int) (x : List Int × Int) : Prop :=
  (0 < j → validL f x.1 ∧ x.2 = takenL f x.1 day) ∧ (j ≤ 0 → x.2 = -1) ∧ ∀ bits, 0 ≤ bits → bits < j → validL f (beginD (fGroups f).length bits 0) → takenL f (beginD (fGroups f).length bits 0) day < x.2 ∨ (takenL f (beginD (fGroups f).length bits 0) day = x.2 ∧ aheadI (beginD (fGroups f).length bits 0) x.1 = false)
theorem tkI_nonneg {g : Grp} (hg : grpOk g = true) (st day : Int) : 0 ≤ tkI g st day := by
  have eg := grpOk_iff.1 hg
  unfold tkI
  split
  · have hp : 0 ≤ posI (day - st - g.2.2 + 1) := by unfold posI; split <;> omega
    have := Int.mul_nonneg eg.2.1.1 hp
    unfold minI; split <;> omega
  · omega
theorem sum_nn : ∀ {l : List Int}, (∀ x ∈ l, 0 ≤ x) → 0 ≤ l.sum
  | [], _ => by simp
  | x :: l, h => by have := h x (List.mem_cons_self ..); have := sum_nn (l := l) fun y hy => h y (List.mem_cons_of_mem _ hy); simp; omega
theorem takenL_nonneg {f : Fd} (hf : okF f = true) (l : List Int) (day : Int) : 0 ≤ takenL f l day := by
  unfold takenL tkSum
  refine sum_nn fun x hx => ?_
  obtain ⟨k, hk, rfl⟩ := List.mem_map.1 hx
  have hk : k < (fGroups f).length := by simpa using hk
  exact tkI_nonneg (by have := grp_at hf (i := (k : Int)) (by omega) (by omega); rwa [Int.toNat_natCast] at this) _ _
theorem invR_step {f : Fd} (hf : okF f = true) {day j : Int} {x : List Int × Int} (hj : 0 ≤ j) (h : invR f day j x) : invR f day (j + 1) (updR f day x j) := by
  obtain ⟨h1, h2, h3⟩ := h
  have hB := okB_iff.1 (okF_parts hf).2.2.1
  have hnn := takenL_nonneg hf (beginD (fGroups f).length j 0) day
  have hz : j = 0 → beginD (fGroups f).length j 0 = [] := fun e => by
    subst e
    refine List.eq_nil_iff_forall_not_mem.2 fun x hx => ?_
    have := (beginD_mem.1 hx).2.2
    have e0 : bitB 0 x.toNat = false := by unfold bitB; simp
    rw [e0] at this; cases this
  unfold updR
  by_cases c : (((beginD (fGroups f).length j 0).length : Nat) : Int) > fBegin f
  · rw [if_pos c]
    have hj0 : 0 < j := by
      by_cases e : j = 0
      · rw [hz e] at c; simp at c; omega
      · omega
    refine ⟨fun _ => h1 hj0, fun h => by omega, fun bits b0 b1 hv => ?_⟩
    by_cases e : bits = j
    · subst e; exact absurd hv.2 (by omega)
    · exact h3 bits b0 (by omega) hv
  · rw [if_neg c]
    have hv : validL f (beginD (fGroups f).length j 0) := ⟨beginD_ok _ _, by omega⟩
    by_cases d : takenL f (beginD (fGroups f).length j 0) day > x.2 ∨ (takenL f (beginD (fGroups f).length j 0) day = x.2 ∧ aheadI (beginD (fGroups f).length j 0) x.1 = true)
    · rw [if_pos d]
      refine ⟨fun _ => ⟨hv, rfl⟩, fun h => by omega, fun bits b0 b1 hw => ?_⟩
      by_cases e : bits = j
      · subst e; exact .inr ⟨rfl, ahead_irr _⟩
      · rcases d with d | ⟨d1, d2⟩
        · rcases h3 bits b0 (by omega) hw with g | ⟨g, _⟩
          · exact .inl (by omega)
          · exact .inl (by omega)
        · rcases h3 bits b0 (by omega) hw with g | ⟨g, g2⟩
          · exact .inl (by omega)
          · refine .inr ⟨by omega, ?_⟩
            cases k : aheadI (beginD (fGroups f).length bits 0) (beginD (fGroups f).length j 0) with
            | false => rfl
            | true => have := ahead_trans k d2; rw [g2] at this; cases this
    · rw [if_neg d]
      have hj0 : 0 < j := by
        by_cases e : j = 0
        · have := h2 (by omega); exact absurd (.inl (by omega)) d
        · omega
      refine ⟨fun _ => h1 hj0, fun h => by omega, fun bits b0 b1 hw => ?_⟩
      by_cases e : bits = j
      · subst e
        by_cases k : takenL f (beginD (fGroups f).length bits 0) day < x.2
        · exact .inl k
        · refine .inr ⟨?_, ?_⟩
          · have : ¬ takenL f (beginD (fGroups f).length bits 0) day > x.2 := fun h => d (.inl h)
            omega
          · cases k2 : aheadI (beginD (fGroups f).length bits 0) x.1 with
            | false => rfl
            | true =>
              have : ¬ takenL f (beginD (fGroups f).length bits 0) day > x.2 := fun h => d (.inl h)
              exact absurd (.inr ⟨by omega, k2⟩) d
      · exact h3 bits b0 (by omega) hw
theorem invR_run {f : Fd} (hf : okF f = true) {day : Int} : ∀ (k : Nat) (j : Int) (x : List Int × Int), 0 ≤ j → invR f day j x → invR f day (j + k) (runR f day k j x)
  | 0, j, x, _, h => by simpa [runR] using h
  | k + 1, j, x, hj, h => by
    simp only [runR]
    have := invR_run hf k (j + 1) _ (by omega) (invR_step hf hj h)
    rw [show j + ((k + 1 : Nat) : Int) = j + 1 + k by omega]
    exact this
/-- Both find the same. -/
theorem worst_eq {f : Fd} (hf : okF f = true) (day : Int) : runR f day ((2 : Int) ^ (fGroups f).length).toNat 0 ([], -1) = worstW f day := by
  have hn := okF_n hf
  have hp := pow_bd hn
  have hB := okB_iff.1 (okF_parts hf).2.2.1
  have hR := invR_run hf ((2 : Int) ^ (fGroups f).length).toNat 0 ([], -1) (by omega) (show invR f day 0 ([], -1) from ⟨fun h => by omega, fun _ => rfl, fun bits b0 b1 => by omega⟩)
  rw [show (0 : Int) + (((2 : Int) ^ (fGroups f).length).toNat : Nat) = 2 ^ (fGroups f).length by omega] at hR
  generalize runR f day ((2 : Int) ^ (fGroups f).length).toNat 0 ([], -1) = y at hR
  obtain ⟨r1, _, r3⟩ := hR
  obtain ⟨v1, v2⟩ := r1 (by omega)
  have hW := runW_best f day (allV f) ([], -1) (allV_sorted f)
  have hmem : ∀ l, validL f l → l ∈ allV f := fun l h => (allV_mem hB.2.2.1).2 h
  rcases hW with ⟨_, h2⟩ | ⟨h1, h2, h3, h4⟩
  · have := h2 y.1 (hmem _ v1)
    have := takenL_nonneg hf y.1 day
    have h : takenL f y.1 day ≤ -1 := by assumption
    omega
  · have hw : runW f day ([], -1) (allV f) = worstW f day := rfl
    rw [hw] at h1 h2 h3 h4
    generalize worstW f day = z at h1 h2 h3 h4 ⊢
    have vz := (allV_mem hB.2.2.1).1 h1
    obtain ⟨bits, b0, b1, hb⟩ := bits_list hn vz.1
    have k1 := r3 bits b0 b1 (by rw [hb]; exact vz)
    rw [hb] at k1
    have k2 := h4 y.1 (hmem _ v1)
    have e2 : y.2 = z.2 := by rcases k1 with k1 | ⟨k1, _⟩ <;> omega
    have e1 : y.1 = z.1 := by
      rcases k2.2 (by omega) with e | e
      · exact e
      · rcases k1 with k1 | ⟨_, k1⟩
        · omega
        · rw [k1] at e; cases e
    exact Prod.ext e1 e2
theorem ok73 : FnOk Try.prog 73 fcWorst := fn1_of (n := 5) ((good2_nil _).addL2 ok73a) fun (f, day, ()) K hx => by
  obtain ⟨⟨h1, h2, h3⟩, hK⟩ := hx
  rw [v73F]
  have hp := pow_bd (okF_n h1)
  have e := worst_eq h1 day
  rw [Int.sub_zero, e]
  exact ⟨⟨h1, h2, h3, by omega, Int.le_trans (by decide) hp.1⟩, hK⟩
end Go.P9
