/- Turns: ages as lists, and their numbers: plain. No conditions. -/
import Derived.Test.YtfbbpilflbpifaaLivgS
set_option linter.constructorNameAsVariable false
set_option linter.unusedVariables false
set_option linter.unusedSimpArgs false
set_option maxRecDepth 100000
namespace Go.P10
open Go.Lom Go.Proofs Go
theorem after_iff {r : Int} : ∀ {ps xs ys : List Int} {i : Int}, ps.length = xs.length → (afterL r ps xs i = some ys ↔ ys.length = ps.length ∧ ∀ k : Nat, k < ps.length → ys.getD k 0 = stepI (xs.getD k 0) (i + k) r ∧ stepI (xs.getD k 0) (i + k) r < ps.getD k 0)
  | [], [], ys, i, _ => by
    show some [] = some ys ↔ _
    constructor
    · intro h; injection h with h; subst h; exact ⟨rfl, fun k hk => by simp at hk⟩
    · rintro ⟨h, _⟩
      rw [List.eq_nil_of_length_eq_zero h]
  | [], _ :: _, _, _, h => by simp at h
  | _ :: _, [], _, _, h => by simp at h
  | p :: ps, x :: xs, ys, i, h => by
    have hl : ps.length = xs.length := by simpa using h
    rw [afterL]
    by_cases hs : stepI x i r ≥ p
    · rw [if_pos hs]
      constructor
      · intro h; cases h
      · rintro ⟨_, h2⟩
        have := (h2 0 (by simp)).2
        simp at this; omega
    · rw [if_neg hs]
      constructor
      · intro h
        cases hr : afterL r ps xs (i + 1) with
        | none => rw [hr] at h; cases h
        | some zs =>
          rw [hr] at h
          injection h with h
          obtain ⟨h1, h2⟩ := (after_iff hl).1 hr
          subst h
          refine ⟨by simp [h1], fun k hk => ?_⟩
          cases k with
          | zero => simp; omega
          | succ k =>
            have := h2 k (by simpa using hk)
            rw [show i + 1 + (k : Int) = i + ((k + 1 : Nat) : Int) by omega] at this
            simpa only [List.getD_cons_succ] using this
      · rintro ⟨h1, h2⟩
        cases ys with
        | nil => simp at h1
        | cons y ys =>
          have h3 := h2 0 (by simp)
          have hr : afterL r ps xs (i + 1) = some ys := (after_iff hl).2 ⟨by simpa using h1, fun k hk => by
            have := h2 (k + 1) (by simpa using hk)
            rw [show i + 1 + (k : Int) = i + ((k + 1 : Nat) : Int) by omega]
            simpa only [List.getD_cons_succ] using this⟩
          rw [hr]
          simp only [List.getD_cons_zero] at h3
          rw [show i + ((0 : Nat) : Int) = i by omega] at h3
          show some (stepI x i r :: ys) = some (y :: ys)
          rw [h3.1]
theorem toA_get {xs : List Int} (k : Nat) (hk : k < 5) : (ofA (toA xs)).getD k 0 = xs.getD k 0 := by
  match k, hk with
  | 0, _ => rfl
  | 1, _ => rfl
  | 2, _ => rfl
  | 3, _ => rfl
  | 4, _ => rfl
theorem agL_len {ps : List Int} (hp : ps.length ≤ 5) (a : Ag) : (agL ps a).length = ps.length := by
  unfold agL
  rw [List.length_take, ofA_len]; omega
theorem agL_get {ps : List Int} {a : Ag} {k : Nat} (hk : k < ps.length) : (agL ps a).getD k 0 = (ofA a).getD k 0 := by
  unfold agL
  rw [List.getD_eq_getElem?_getD, List.getD_eq_getElem?_getD, List.getElem?_take, if_pos hk]
theorem getD_out {xs : List Int} {k : Nat} {d : Int} (h : xs.length ≤ k) : xs.getD k d = d := by
  rw [List.getD_eq_getElem?_getD, List.getElem?_eq_none h]; rfl
theorem list_eq {xs ys : List Int} (h : xs.length = ys.length) (h2 : ∀ k : Nat, k < xs.length → xs.getD k 0 = ys.getD k 0) : xs = ys := by
  refine List.ext_getElem h fun k h3 h4 => ?_
  have := h2 k h3
  rwa [List.getD_eq_getElem?_getD, List.getD_eq_getElem?_getD, List.getElem?_eq_getElem h3, List.getElem?_eq_getElem h4] at this
theorem agL_toA {ps xs : List Int} (hp : ps.length ≤ 5) (h : xs.length = ps.length) : agL ps (toA xs) = xs :=
  list_eq (by rw [agL_len hp, h]) fun k hk => by
    rw [agL_len hp] at hk
    rw [agL_get hk, toA_get k (by omega)]
theorem toA_agL {ps : List Int} (hp : okPs ps) {a : Ag} (ha : validA ps a) : toA (agL ps a) = a := by
  refine ofA_inj fun k hk => ?_
  rw [toA_get k hk]
  by_cases h : k < ps.length
  · exact agL_get h
  · rw [getD_out (by rw [agL_len hp.1.2]; omega)]
    have := ha k hk
    rw [getD_out (d := 1) (by omega)] at this
    omega
theorem vld_toA {ps xs : List Int} (hp : okPs ps) (h : vldL ps xs) : validA ps (toA xs) := fun k hk => by
  rw [toA_get k hk]
  by_cases h2 : k < ps.length
  · have := h.2 k h2
    have e : ps.getD k 1 = ps.getD k 0 := by simp [List.getD_eq_getElem?_getD, h2]
    rw [e]; exact this
  · rw [getD_out (xs := xs) (by rw [h.1]; omega), getD_out (by omega)]
    exact ⟨Int.le_refl 0, by decide⟩
theorem vld_agL {ps : List Int} (hp : okPs ps) {a : Ag} (ha : validA ps a) : vldL ps (agL ps a) :=
  ⟨agL_len hp.1.2 a, fun k hk => by
    rw [agL_get hk]
    have := ha k (by have := hp.1.2; omega)
    have e : ps.getD k 1 = ps.getD k 0 := by simp [List.getD_eq_getElem?_getD, hk]
    rw [e] at this; exact this⟩
theorem vld_sm {ps xs : List Int} (hp : okPs ps) (h : vldL ps xs) : smX xs := ⟨by rw [h.1]; exact hp.1.2, fun x hx => by
  obtain ⟨k, hk, rfl⟩ := List.mem_iff_getElem.1 hx
  have h1 := h.2 k (by rw [← h.1]; exact hk)
  have h2 := hp.2 _ (getD_mem (show k < ps.length by rw [← h.1]; exact hk) 0)
  rw [List.getD_eq_getElem?_getD, List.getElem?_eq_getElem hk] at h1
  have h1 : 0 ≤ xs[k] ∧ xs[k] < ps.getD k 0 := h1
  omega⟩
theorem zero_toA {n : Nat} : toA (List.replicate n 0) = zA := by
  have : ∀ k : Nat, (List.replicate n (0 : Int)).getD k 0 = 0 := fun k => by
    rw [List.getD_eq_getElem?_getD, List.getElem?_replicate]; split <;> rfl
  unfold toA
  rw [this, this, this, this, this]
theorem vld_zero {ps : List Int} (hp : okPs ps) : vldL ps (List.replicate ps.length 0) := ⟨List.length_replicate, fun k hk => by
  have := hp.2 _ (getD_mem hk 0)
  have e : (List.replicate ps.length (0 : Int)).getD k 0 = 0 := by
    rw [List.getD_eq_getElem?_getD, List.getElem?_replicate]; split <;> rfl
  rw [e]; exact ⟨Int.le_refl 0, by omega⟩⟩
theorem after_next {ps xs : List Int} {r : Int} (hp : okPs ps) (h : vldL ps xs) (h0 : 0 ≤ r) : afterL r ps xs 0 = (nextR ps (toA xs) r.toNat).map (agL ps) := by
  have hr : ((r.toNat : Nat) : Int) = r := by omega
  have h5 := hp.1.2
  cases hn : nextR ps (toA xs) r.toNat with
  | some b =>
    obtain ⟨h1, h2⟩ := (nextR_iff h5).1 hn
    refine (after_iff h.1.symm).2 ⟨agL_len h5 b, fun k hk => ?_⟩
    have g1 := h1 k hk
    have g2 := h2 k (by omega)
    rw [if_pos hk] at g2
    rw [toA_get k (by omega), hr] at g1 g2
    rw [agL_get hk, g2, Int.zero_add]
    exact ⟨rfl, g1⟩
  | none =>
    show _ = none
    cases ha : afterL r ps xs 0 with
    | none => rfl
    | some ys =>
      exfalso
      obtain ⟨g1, g2⟩ := (after_iff h.1.symm).1 ha
      have : nextR ps (toA xs) r.toNat = some (toA ys) := (nextR_iff h5).2 ⟨fun k hk => by
        have := (g2 k hk).2
        rw [toA_get k (by omega), hr]
        rwa [Int.zero_add] at this, fun k hk => by
        rw [toA_get k hk]
        split
        · rename_i hk2
          have := (g2 k hk2).1
          rw [toA_get k hk, hr]
          rwa [Int.zero_add] at this
        · rename_i hk2
          rw [toA_get k hk, getD_out (by omega), getD_out (by rw [h.1]; omega)]⟩
      rw [hn] at this; cases this
theorem after_vld {ps xs ys : List Int} {r : Int} (hp : okPs ps) (h : vldL ps xs) (ha : afterL r ps xs 0 = some ys) : vldL ps ys := by
  obtain ⟨g1, g2⟩ := (after_iff h.1.symm).1 ha
  refine ⟨g1, fun k hk => ?_⟩
  obtain ⟨q1, q2⟩ := g2 k hk
  rw [q1]
  refine ⟨?_, q2⟩
  have := (h.2 k hk).1
  unfold stepI; split <;> omega
theorem walk_eq {ps : List Int} (hp : okPs ps) : ∀ {ts xs : List Int}, vldL ps xs → (∀ x ∈ ts, 0 ≤ x) → walkL ps xs ts = walkB ps (toA xs) ts
  | [], xs, _, _ => rfl
  | r :: ts, xs, h, ht => by
    rw [walkL, walkB]
    have he := after_next hp h (ht r List.mem_cons_self)
    cases hn : nextR ps (toA xs) r.toNat with
    | none => rw [hn] at he; rw [he]; rfl
    | some b =>
      rw [hn] at he
      have he : afterL r ps xs 0 = some (agL ps b) := he
      rw [he]
      have hv := nextR_valid hp (vld_toA hp h) hn
      have := walk_eq hp (ts := ts) (vld_agL hp hv) fun x hx => ht x (List.mem_cons_of_mem _ hx)
      rw [toA_agL hp hv] at this
      exact this
theorem numL_snoc : ∀ {ps xs : List Int} {p x n : Int}, ps.length = xs.length → numL n (ps ++ [p]) (xs ++ [x]) = numL n ps xs * p + x
  | [], [], p, x, n, _ => rfl
  | [], _ :: _, _, _, _, h => by simp at h
  | _ :: _, [], _, _, _, h => by simp at h
  | q :: ps, y :: xs, p, x, n, h => by
    rw [List.cons_append, List.cons_append, numL, numL]
    exact numL_snoc (by simpa using h)
theorem take_snoc {ps : List Int} {i : Nat} (h : i < ps.length) : ps.take (i + 1) = ps.take i ++ [ps.getD i 0] := by
  rw [List.take_add_one, List.getD_eq_getElem?_getD, List.getElem?_eq_getElem h]; rfl
theorem prod_snoc (ps : List Int) (p : Int) : prodP (ps ++ [p]) = prodP ps * p := by unfold prodP; rw [List.foldl_append]; rfl
theorem prod_pos {ps : List Int} (hp : okPs ps) : ∀ {i : Nat}, i ≤ ps.length → 1 ≤ prodP (ps.take i) ∧ prodP (ps.take i) ≤ 8 ^ i
  | 0, _ => ⟨Int.le_refl 1, Int.le_refl 1⟩
  | i + 1, h => by
    have ih := prod_pos hp (i := i) (by omega)
    have hq := hp.2 _ (getD_mem (show i < ps.length by omega) 0)
    rw [take_snoc (by omega), prod_snoc, Int.pow_succ]
    have h1 : 1 * 1 ≤ prodP (ps.take i) * ps.getD i 0 := Int.mul_le_mul ih.1 hq.1 (by decide) (by omega)
    have h2 := Int.mul_le_mul ih.2 hq.2 (by omega) (by omega)
    omega
theorem pow5 {i : Nat} (h : i ≤ 5) : (8 : Int) ^ i ≤ 32768 := by
  have : i = 0 ∨ i = 1 ∨ i = 2 ∨ i = 3 ∨ i = 4 ∨ i = 5 := by omega
  rcases this with h | h | h | h | h | h <;> rw [h] <;> decide
theorem prod_bd {ps : List Int} (hp : okPs ps) : 1 ≤ prodP ps ∧ prodP ps ≤ 32768 := by
  have h := prod_pos hp (Nat.le_refl _)
  rw [List.take_length] at h
  have := pow5 hp.1.2
  omega
theorem num_take {ps xs : List Int} (h : vldL ps xs) {i : Nat} (hi : i < ps.length) : numL 0 (ps.take (i + 1)) (xs.take (i + 1)) = numL 0 (ps.take i) (xs.take i) * ps.getD i 0 + xs.getD i 0 := by
  rw [take_snoc hi, take_snoc (by rw [h.1]; exact hi)]
  exact numL_snoc (by rw [List.length_take, List.length_take, h.1])
theorem num_bdi {ps xs : List Int} (h : vldL ps xs) : ∀ {i : Nat}, i ≤ ps.length → 0 ≤ numL 0 (ps.take i) (xs.take i) ∧ numL 0 (ps.take i) (xs.take i) < prodP (ps.take i)
  | 0, _ => ⟨Int.le_refl 0, show (0 : Int) < 1 by decide⟩
  | i + 1, hi => by
    have ih := num_bdi h (i := i) (by omega)
    have hx := h.2 i (by omega)
    rw [num_take h (by omega), take_snoc (by omega), prod_snoc]
    generalize numL 0 (ps.take i) (xs.take i) = n at *
    generalize prodP (ps.take i) = P at *
    generalize ps.getD i 0 = p at *
    generalize xs.getD i 0 = x at *
    have h1 := Int.mul_nonneg ih.1 (show 0 ≤ p by omega)
    have h2 : (n + 1) * p ≤ P * p := Int.mul_le_mul_of_nonneg_right (by omega) (by omega)
    rw [Int.add_mul, Int.one_mul] at h2
    exact ⟨by omega, by omega⟩
theorem num_bd {ps xs : List Int} (h : vldL ps xs) : 0 ≤ numL 0 ps xs ∧ numL 0 ps xs < prodP ps := by
  have := num_bdi h (Nat.le_refl _)
  rw [List.take_length, List.take_of_length_le (by rw [h.1]; exact Nat.le_refl _)] at this
  exact this
theorem num_inji {ps xs ys : List Int} (h : vldL ps xs) (h' : vldL ps ys) : ∀ {i : Nat}, i ≤ ps.length → numL 0 (ps.take i) (xs.take i) = numL 0 (ps.take i) (ys.take i) → ∀ k : Nat, k < i → xs.getD k 0 = ys.getD k 0
  | 0, _, _, k, hk => by omega
  | i + 1, hi, he, k, hk => by
    rw [num_take h (by omega), num_take h' (by omega)] at he
    have hx := h.2 i (by omega)
    have hy := h'.2 i (by omega)
    have hq : numL 0 (ps.take i) (xs.take i) = numL 0 (ps.take i) (ys.take i) ∧ xs.getD i 0 = ys.getD i 0 := by
      generalize numL 0 (ps.take i) (xs.take i) = m at *
      generalize numL 0 (ps.take i) (ys.take i) = n at *
      generalize ps.getD i 0 = p at *
      generalize xs.getD i 0 = x at *
      generalize ys.getD i 0 = y at *
      have hd : (m - n) * p = y - x := by rw [Int.sub_mul]; omega
      have hmn : m = n := by
        by_cases h1 : m - n ≤ -1
        · have : (m - n) * p ≤ -1 * p := Int.mul_le_mul_of_nonneg_right h1 (by omega)
          omega
        · by_cases h2 : 1 ≤ m - n
          · have : 1 * p ≤ (m - n) * p := Int.mul_le_mul_of_nonneg_right h2 (by omega)
            omega
          · omega
      subst hmn
      exact ⟨rfl, by omega⟩
    by_cases e : k = i
    · rw [e]; exact hq.2
    · exact num_inji h h' (by omega) hq.1 k (by omega)
theorem num_inj {ps xs ys : List Int} (h : vldL ps xs) (h' : vldL ps ys) (he : numL 0 ps xs = numL 0 ps ys) : xs = ys := by
  refine list_eq (by rw [h.1, h'.1]) fun k hk => num_inji h h' (Nat.le_refl _) ?_ k (by rw [← h.1]; exact hk)
  rw [List.take_length, List.take_of_length_le (by rw [h.1]; exact Nat.le_refl _), List.take_of_length_le (by rw [h'.1]; exact Nat.le_refl _)]
  exact he
theorem agesR_spec {ps : List Int} (hp : okPs ps) : ∀ {i : Nat} {o : List Int} {n : Int}, i ≤ ps.length → o.length = ps.length → 0 ≤ n → n < prodP (ps.take i) →
    (agesR ps o n i).length = ps.length ∧ (∀ k : Nat, i ≤ k → (agesR ps o n i).getD k 0 = o.getD k 0) ∧ (∀ k : Nat, k < i → 0 ≤ (agesR ps o n i).getD k 0 ∧ (agesR ps o n i).getD k 0 < ps.getD k 0) ∧ numL 0 (ps.take i) ((agesR ps o n i).take i) = n
  | 0, o, n, _, ho, h0, h1 => ⟨ho, fun k _ => rfl, fun k hk => by omega, by
    have h1 : n < 1 := h1
    show (0 : Int) = n
    omega⟩
  | i + 1, o, n, hi, ho, h0, h1 => by
    have hq := hp.2 _ (getD_mem (show i < ps.length by omega) 0)
    have e1 : Int.tmod n (ps.getD i 0) = n % ps.getD i 0 := Int.tmod_eq_emod_of_nonneg h0
    have e2 : Int.tdiv n (ps.getD i 0) = n / ps.getD i 0 := Int.tdiv_eq_ediv_of_nonneg h0
    rw [take_snoc (by omega), prod_snoc] at h1
    have r0 := Int.emod_nonneg n (show ps.getD i 0 ≠ 0 by omega)
    have r1 := Int.emod_lt_of_pos n (show 0 < ps.getD i 0 by omega)
    have d0 : 0 ≤ n / ps.getD i 0 := Int.ediv_nonneg h0 (by omega)
    have d1 : n / ps.getD i 0 < prodP (ps.take i) := Int.ediv_lt_of_lt_mul (by omega) h1
    have hdm := Int.mul_ediv_add_emod n (ps.getD i 0)
    rw [agesR, e1, e2]
    obtain ⟨g1, g2, g3, g4⟩ := agesR_spec hp (i := i) (o := o.set i (n % ps.getD i 0)) (n := n / ps.getD i 0) (by omega) (by rw [List.length_set]; exact ho) d0 d1
    generalize agesR ps (o.set i (n % ps.getD i 0)) (n / ps.getD i 0) i = R at *
    have gi : R.getD i 0 = n % ps.getD i 0 := by rw [g2 i (Nat.le_refl _), getD_set (by omega), if_pos rfl]
    refine ⟨g1, fun k hk => ?_, fun k hk => ?_, ?_⟩
    · rw [g2 k (by omega), getD_set (by omega), if_neg (by omega)]
    · by_cases e : k = i
      · subst e; rw [gi]; exact ⟨r0, r1⟩
      · exact g3 k (by omega)
    · rw [take_snoc (by omega), take_snoc (by omega), numL_snoc (by rw [List.length_take, List.length_take, g1]), g4, gi, Int.mul_comm]
      exact hdm
theorem ages_vld {ps : List Int} (hp : okPs ps) {n : Int} (h0 : 0 ≤ n) (h1 : n < prodP ps) : vldL ps (agesN ps n) ∧ numL 0 ps (agesN ps n) = n := by
  obtain ⟨g1, _, g3, g4⟩ := agesR_spec hp (i := ps.length) (o := List.replicate ps.length 0) (n := n) (Nat.le_refl _) List.length_replicate h0 (by rw [List.take_length]; exact h1)
  refine ⟨⟨g1, g3⟩, ?_⟩
  rw [List.take_length, List.take_of_length_le (by rw [g1]; exact Nat.le_refl _)] at g4
  exact g4
theorem ages_num {ps xs : List Int} (hp : okPs ps) (h : vldL ps xs) : agesN ps (numL 0 ps xs) = xs := by
  obtain ⟨b0, b1⟩ := num_bd h
  obtain ⟨h1, h2⟩ := ages_vld hp b0 b1
  exact num_inj h1 h h2
end Go.P10
