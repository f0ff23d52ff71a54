/- The law of some alone: the code answers true, of lists that are not too long. No conditions. -/
import Derived.Test.YtnjaebjhfilljaaAloneS
import Derived.Test.YtnjaebjhfilljaaFairP
import Derived.Test.YtnjaebjhfilljaaUniqL
set_option linter.constructorNameAsVariable false
set_option linter.unusedVariables false
set_option linter.unusedSimpArgs false
set_option maxRecDepth 100000
namespace Go.P7
open Go.Lom Go.Proofs Go

theorem ring_range {n m : Int} (h : 0 < m) : 0 ≤ ringI n m ∧ ringI n m < m ∧ -m < n.tmod m ∧ n.tmod m < m := by
  have h1 : n.tmod m < m := Int.tmod_lt_of_pos n h
  have h2 : -m < n.tmod m := by
    have := Int.tmod_lt_of_pos (-n) h
    rw [Int.neg_tmod] at this
    omega
  unfold ringI
  rw [if_neg (by omega)]
  exact ⟨Int.tmod_nonneg _ (by omega), Int.tmod_lt_of_pos _ h, h2, h1⟩
theorem h26F (n m : Int) (K : dens [I] → Prop) : sRing n m (fun r => K (r, ())) → xfn Try.prog [] [] 5 26 fcRing (n, m, ()) K := by
  intro ⟨h0, hK⟩
  rw [v26F]
  simp only [fork_iff, req_iff, decide_eq_true_eq, decide_eq_false_iff_not]
  refine ⟨fun h => ?_, fun h => ?_⟩
  · have := hK _ rfl; unfold ringI at this; rw [if_pos h] at this; exact this
  · obtain ⟨r1, r2, r3, r4⟩ := ring_range (n := n) (m := m) (by omega)
    have := hK _ rfl; unfold ringI at this; rw [if_neg h] at this
    exact ⟨by omega, inR_i64.2 (by omega), by omega, this⟩
theorem ok26 : FnOk Try.prog 26 fcRing := fn_of (n := 5) (good_nil _) fun (n, m, ()) K hx => h26F n m K hx
theorem h28F (l : List Int) (i : Int) (K : dens [I] → Prop) : sPick l i (fun r => K (r, ())) → xfn Try.prog [(26, fcRing)] [] 5 28 fcPick (l, i, ()) K := by
  intro ⟨h0, hK⟩
  rw [v28F]
  simp only [fork_iff, req_iff, decide_eq_true_eq, decide_eq_false_iff_not, beq_iff_eq, beq_eq_false_iff_ne]
  have hK := hK _ rfl
  unfold pickI at hK
  refine ⟨fun h => ?_, fun h => ⟨by omega, fun r hr => ?_⟩⟩
  · have : l = [] := List.eq_nil_of_length_eq_zero (by omega)
    subst this
    simpa using hK
  · obtain ⟨r1, r2, _⟩ := ring_range (n := i) (m := l.length) (by omega)
    subst hr
    exact ⟨⟨r1, r2⟩, hK⟩
theorem ok28 : FnOk Try.prog 28 fcPick := fn_of (n := 5) ((good_nil _).addF ok26) fun (l, i, ()) K hx => h28F l i K hx

theorem subF_len (bits : List Int) : ∀ (l : List Int) (i : Int), (subF bits l i).length ≤ l.length
  | [], _ => by simp [subF]
  | x :: l, i => by
    have := subF_len bits l (i + 1)
    simp only [subF]
    split <;> simp <;> omega
theorem subF_len2 (bits : List Int) : ∀ (l m : List Int) (i : Int), l.length = m.length → (subF bits l i).length = (subF bits m i).length
  | [], [], _, _ => rfl
  | [], _ :: _, _, h => by simp at h
  | _ :: _, [], _, h => by simp at h
  | x :: l, y :: m, i, h => by
    have := subF_len2 bits l m (i + 1) (by simpa using h)
    simp only [subF]
    split <;> simp [this]
theorem subF_mem (bits : List Int) : ∀ (l : List Int) (i : Int), ∀ x ∈ subF bits l i, x ∈ l
  | [], _, x, hx => by simp [subF] at hx
  | y :: l, i, x, hx => by
    simp only [subF] at hx
    split at hx
    · rcases List.mem_cons.1 hx with rfl | hx
      · exact List.mem_cons_self ..
      · exact List.mem_cons_of_mem _ (subF_mem bits l _ x hx)
    · exact List.mem_cons_of_mem _ (subF_mem bits l _ x hx)
theorem subF_sum (bits : List Int) : ∀ (l : List Int) (i : Int), (∀ x ∈ l, 0 ≤ x) → 0 ≤ (subF bits l i).sum ∧ (subF bits l i).sum ≤ l.sum
  | [], _, _ => by simp [subF]
  | y :: l, i, h => by
    have h1 := subF_sum bits l (i + 1) fun x hx => h x (List.mem_cons_of_mem _ hx)
    have h2 := h y (List.mem_cons_self ..)
    simp only [subF]
    split <;> simp only [List.sum_cons] <;> omega
/-- Where some come from. -/
theorem subF_map (bits : List Int) : ∀ (w l : List Int) (i : Int), w.length = l.length → ∃ φ : Nat → Nat, (∀ j, j < (subF bits w i).length → φ j < w.length ∧ (subF bits w i).getD j 0 = w.getD (φ j) 0 ∧ (subF bits l i).getD j 0 = l.getD (φ j) 0) ∧ ∀ j k, j < k → φ j < φ k
  | [], [], _, _ => ⟨id, fun j hj => by simp [subF] at hj, fun j k h => h⟩
  | [], _ :: _, _, h => by simp at h
  | _ :: _, [], _, h => by simp at h
  | x :: w, y :: l, i, h => by
    obtain ⟨φ, h1, h2⟩ := subF_map bits w l (i + 1) (by simpa using h)
    simp only [subF]
    split
    · refine ⟨fun j => match j with | 0 => 0 | j + 1 => φ j + 1, fun j hj => ?_, fun j k hjk => ?_⟩
      · cases j with
        | zero => simp
        | succ j =>
          obtain ⟨g1, g2, g3⟩ := h1 j (by simpa using hj)
          exact ⟨by simp; omega, by simpa using g2, by simpa using g3⟩
      · cases k with
        | zero => omega
        | succ k => cases j with
          | zero => simp
          | succ j => have := h2 j k (by omega); simp; omega
    · refine ⟨fun j => φ j + 1, fun j hj => ?_, fun j k hjk => Nat.add_lt_add_right (h2 j k hjk) 1⟩
      obtain ⟨g1, g2, g3⟩ := h1 j hj
      exact ⟨by simp; omega, by simpa using g2, by simpa using g3⟩
theorem getD_out {l : List Int} {k : Nat} (h : ¬ k < l.length) : l.getD k 0 = 0 := by
  rw [List.getD_eq_getElem?_getD, List.getElem?_eq_none (by omega)]; rfl
theorem fairs_sub (bits : List Int) {w l : List Int} (h : fairs w l) : fairs (subF bits w 0) (subF bits l 0) := by
  obtain ⟨h1, h2, h3, h4⟩ := h
  obtain ⟨φ, g1, g2⟩ := subF_map bits w l 0 h1.symm
  have hlen := subF_len2 bits l w 0 h1
  refine ⟨hlen, fun k => ?_, fun k hk hz => ?_, fun i k hi hk hne hpos => ?_⟩
  · by_cases hk : k < (subF bits w 0).length
    · rw [(g1 k hk).2.2]; exact h2 _
    · rw [getD_out (by omega)]; omega
  · obtain ⟨a, b, c⟩ := g1 k hk
    rw [b] at hz; rw [c]; exact h3 _ a hz
  · obtain ⟨a1, b1, c1⟩ := g1 i hi
    obtain ⟨a2, b2, c2⟩ := g1 k hk
    rw [b1, c1, b2, c2]
    rw [c1] at hpos
    have hne' : φ i ≠ φ k := fun e => by
      rcases Nat.lt_or_gt_of_ne hne with hlt | hlt
      · have := g2 i k hlt; omega
      · have := g2 k i hlt; omega
    rcases h4 (φ i) (φ k) a1 a2 hne' hpos with hh | ⟨hh, hlt⟩
    · exact .inl hh
    · refine .inr ⟨hh, ?_⟩
      rcases Nat.lt_or_gt_of_ne hne with hlt' | hlt'
      · exact hlt'
      · have := g2 k i hlt'; omega

theorem h7L (w bits l some got : List Int) (i : Int) (Q : LQ) : s7L w bits l some got i Q → xloop Try.prog [(28, fcPick), (26, fcRing)] [] 5 7 0 lc7 (one sh7E) (fun x => mLen x.1 x.2.2.2.2.2.1) (w, bits, l, some, got, i, ()) Q := by
  intro ⟨⟨h1, h2, h3, h4, h5, h6, h7⟩, hQ⟩
  rw [v7L]
  simp only [fork_iff, req_iff, decide_eq_true_eq, decide_eq_false_iff_not, beq_iff_eq, beq_eq_false_iff_ne, seg_all, Nat.zero_add, List.length_singleton]
  refine ⟨fun hi => ?_, fun hi => ?_⟩
  · refine ⟨h3, fun r hr => ⟨by omega, fun r1 hr1 => ?_⟩⟩
    rw [drop_step 0 h4 hi, drop_step 0 h4 (by omega : i < l.length)] at hQ
    have hof : isOf bits i = (r1 == 1) := by rw [hr1, hr]; rfl
    simp only [subF] at hQ
    rw [hof] at hQ
    generalize w.getD i.toNat 0 = wi at *
    generalize l.getD i.toNat 0 = li at *
    refine ⟨fun h => ?_, fun h => ?_⟩
    · rw [if_pos (by simp [h]), if_pos (by simp [h])] at hQ
      refine ⟨⟨h4, hi⟩, ⟨h4, by omega⟩, Nat.le_refl _, fits8 (by omega), trivial, Nat.le_refl _, fits8 (by omega), inR_i64.2 (by omega), by simp, by simp, mLen_lt hi, ?_⟩
      rw [seg_len _ _ (by simp), seg_len _ _ (by simp)]
      exact ⟨⟨h1, h2, h3, by omega, by omega, by simp; omega, by simp; omega⟩, fun a b ha hb => hQ a b (by rw [ha]; simp) (by rw [hb]; simp)⟩
    · rw [if_neg (by simp [h]), if_neg (by simp [h])] at hQ
      exact ⟨inR_i64.2 (by omega), Nat.le_refl _, Nat.le_refl _, mLen_lt hi, show s7L w bits l some got (i + 1) Q from ⟨⟨h1, h2, h3, by omega, by omega, by omega, by omega⟩, hQ⟩⟩
  · rw [drop_end hi, drop_end (by omega : ¬ i < l.length)] at hQ
    exact ⟨Nat.le_refl _, Nat.le_refl _, hQ some got (by simp [subF]) (by simp [subF])⟩
theorem ok7L : LpOk Try.prog 7 0 lc7 := lp_of (n := 5) (ex := one sh7E) (m := fun x => mLen x.1 x.2.2.2.2.2.1) (((good_nil _).addF ok26).addF ok28) fun (w, bits, l, a, b, i, ()) Q hx => h7L w bits l a b i Q hx

theorem sum_zero {w l : List Int} (h : fairs w l) (h0 : ∀ x ∈ w, 0 ≤ x) (hs : w.sum = 0) : l.sum = 0 := by
  have hz : ∀ x ∈ w, x = 0 := fun x hx => by have := elem_le_sum h0 x hx; have := h0 x hx; omega
  have hl : ∀ x ∈ l, x = 0 := fun x hx => by
    obtain ⟨i, hi, hxi⟩ := List.mem_iff_getElem.1 hx
    have hw := h.2.2.1 i (by rw [← h.1]; exact hi) (by rw [List.getD_eq_getElem?_getD, List.getElem?_eq_getElem (by rw [← h.1]; exact hi)]; exact hz _ (List.getElem_mem _))
    rw [List.getD_eq_getElem?_getD, List.getElem?_eq_getElem hi, hxi] at hw
    exact hw
  have : ∀ l : List Int, (∀ x ∈ l, x = 0) → l.sum = 0 := by
    intro l
    induction l with
    | nil => intro _; rfl
    | cons a l ih => intro h; rw [List.sum_cons, h a (List.mem_cons_self ..), ih fun x hx => h x (List.mem_cons_of_mem _ hx)]; rfl
  exact this l hl

theorem h7F (w : List Int) (s : Int) (bits : List Int) (K : dens [.b] → Prop) : sAlone w bits (fun r => K (r, ())) → xfn Try.prog [(14, fcSh), (16, fcSame), (23, fcSum), (19, fcWorks)] [(7, 0, lc7)] 5 7 fc7 (w, s, bits, ()) K := by
  intro ⟨⟨h1, hb⟩, hK⟩
  rw [v7F]
  simp only [fork_iff, req_iff, decide_eq_true_eq, decide_eq_false_iff_not, bne_iff_ne, ne_eq, beq_iff_eq, bne_eq_false_iff_eq, beq_eq_false_iff_ne, seg_all, Nat.zero_add, List.nil_append, List.drop_zero]
  refine ⟨h1, fun r e hre => ?_⟩
  rcases shareR_cases hre with ⟨rfl, hv, h2, h3, hr⟩ | ⟨he, rfl⟩
  rotate_left
  · exact ⟨fun _ => ⟨fun _ => hK, fun h => absurd h he⟩, fun h => absurd h he⟩
  have hp : p5 w s r w.sum := ⟨hv, h2, h3, hr, rfl⟩
  obtain ⟨f1, f2, f3, f4, f5, f6, f7, f8⟩ := p5_facts hp
  obtain ⟨⟨w1, w2⟩, w3, w4⟩ := validW_iff.1 hv
  have r3 : ∀ x ∈ r, 0 ≤ x ∧ x ≤ s := fun x hx => by
    obtain ⟨i, hi, hxi⟩ := List.mem_iff_getElem.1 hx
    have := f5 i
    rw [List.getD_eq_getElem?_getD, List.getElem?_eq_getElem hi, hxi] at this
    exact this
  refine ⟨fun h => absurd rfl h, fun _ => ⟨fun h => absurd (by omega) h, fun _ => ⟨⟨w2, f1, hb, by omega, by omega, by omega, by omega⟩, fun a b ha hbb => ?_⟩⟩⟩
  have la := subF_len bits w 0
  have lb := subF_len bits r 0
  have ma : ∀ x ∈ a, 0 ≤ x ∧ x ≤ 67108864 := fun x hx => w3 x (subF_mem bits w 0 x (by rw [← ha]; exact hx))
  have mb : ∀ x ∈ b, 0 ≤ x ∧ x ≤ s := fun x hx => r3 x (subF_mem bits r 0 x (by rw [← hbb]; exact hx))
  have fab : fairs a b := by rw [ha, hbb]; exact fairs_sub bits f6
  have sb := subF_sum bits r 0 fun x hx => (r3 x hx).1
  have sa := subF_sum bits w 0 fun x hx => (w3 x hx).1
  rw [← ha] at la sa
  rw [← hbb] at lb sb
  have fa : fitS 0 a := fitS_of (B := 67108864) ma (by omega) (by omega) (by omega)
  have fb : fitS 0 b := by
    refine fitS_of (B := s) mb (by omega) ?_ h2
    have : (b.length : Int) * s ≤ 24 * 34359738368 := Int.mul_le_mul (by omega) h3 h2 (by omega)
    omega
  refine ⟨Nat.le_refl _, ⟨by omega, fa⟩, fun hz => ⟨Nat.le_refl _, ⟨by omega, fb⟩, fun _ => hK, fun h => absurd (sum_zero fab (fun x hx => (ma x hx).1) hz) h⟩, fun hz => ⟨Nat.le_refl _, ⟨by omega, fb⟩, Nat.le_refl _, by omega, fun r2 e2 hre2 => ?_⟩⟩
  have va : validW a = true := validW_iff.2 ⟨⟨?_, by omega⟩, ma, by omega⟩
  rotate_left
  · cases a with
    | nil => exact absurd rfl hz
    | cons x a => simp
  rw [shareR_ok va ⟨sb.1, by omega⟩] at hre2
  injection hre2 with hr2 he2
  obtain ⟨g1, g2, g3⟩ := share_law va sb.1
  have : r2 = b := by rw [← hr2]; exact uniq g1 fab (fun k => getD_all (p := fun x => 0 ≤ x) (fun x hx => (ma x hx).1) (Int.le_refl _) k) g3
  exact ⟨fun _ => ⟨Nat.le_refl _, by rw [this]; omega, fun _ => hK, fun h => absurd this h⟩, fun h => absurd he2.symm h⟩
theorem ok7 : FnOk Try.prog 7 fc7 := fn_of (n := 5) ((((((good_nil _).addL ok7L).addF okWorks').addF okSum).addF okSame).addF ok14) fun (w, s, bits, ()) K hx => h7F w s bits K hx
end Go.P7
