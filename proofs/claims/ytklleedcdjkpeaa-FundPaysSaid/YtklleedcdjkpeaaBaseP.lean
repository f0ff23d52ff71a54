/- Funds: small functions keep their contracts. No conditions. -/
import Derived.Test.YtklleedcdjkpeaaBaseS
set_option linter.constructorNameAsVariable false
set_option linter.unusedVariables false
set_option linter.unusedSimpArgs false
set_option maxRecDepth 100000
namespace Go.P9
open Go.Lom Go.Proofs Go

theorem drop_step {α : Type} (d : α) {l : List α} {i : Int} (h0 : 0 ≤ i) (h1 : i < l.length) : l.drop i.toNat = l.getD i.toNat d :: l.drop (i + 1).toNat := by
  have h : i.toNat < l.length := by omega
  rw [List.drop_eq_getElem_cons h, show (i + 1).toNat = i.toNat + 1 from by omega]
  simp [List.getD_eq_getElem?_getD, h]
theorem drop_end {α : Type} {l : List α} {i : Int} (h1 : ¬ i < l.length) : l.drop i.toNat = [] := List.drop_eq_nil_of_le (by omega)
theorem mL_lt {α : Type} {l : List α} {i : Int} (h : i < l.length) : mL l (i + 1) < mL l i := by unfold mL; omega
theorem fitS_self {n : Int} {l : List Int} (h : fitS n l) : inR .i64 n = true := by cases l <;> simp only [fitS] at h <;> first | exact h | exact h.1

theorem h30F (a n b : Int) (K : dens [.b] → Prop) : sFrom a n b (fun r => K (r, ())) → xfn1 Try.prog {} 5 30 fcFrom (a, n, b, ()) K := by
  intro h
  unfold sFrom at h
  rw [v30F]
  simp only [fork_iff, decide_eq_true_eq, decide_eq_false_iff_not]
  refine ⟨fun h1 => ?_, fun h1 => ?_⟩
  · rw [show decide (a ≤ n ∧ n ≤ b) = decide (n ≤ b) from by simp [h1]] at h; exact h
  · rw [show decide (a ≤ n ∧ n ≤ b) = false from by simp [h1]] at h; exact h
theorem ok30 : FnOk Try.prog 30 fcFrom := fn1_of (n := 5) (good2_nil _) fun (a, n, b, ()) K hx => h30F a n b K hx
theorem h71F (n a b : Int) (K : dens [.b] → Prop) : sFrom a n b (fun r => K (r, ())) → xfn1 Try.prog {} 5 71 fcWith (n, a, b, ()) K := by
  intro h
  unfold sFrom at h
  rw [v71F]
  simp only [fork_iff, decide_eq_true_eq, decide_eq_false_iff_not]
  refine ⟨fun h1 => ?_, fun h1 => ?_⟩
  · rw [show decide (a ≤ n ∧ n ≤ b) = decide (n ≤ b) from by simp [show a ≤ n from h1]] at h; exact h
  · rw [show decide (a ≤ n ∧ n ≤ b) = false from by simp [show ¬ a ≤ n from h1]] at h; exact h
theorem ok71 : FnOk Try.prog 71 fcWith := fn1_of (n := 5) (good2_nil _) fun (n, a, b, ()) K hx => h71F n a b K hx
theorem spanF {s : Int × Int} {h : Int} {K : dens [.b] → Prop} (hK : K (spanB s h, ())) : Go.Lom.fork (decide (s.1 ≥ 0)) (Go.Lom.fork (decide (s.1 ≤ s.2)) (K (decide (s.2 ≤ h), ())) (K (false, ()))) (K (false, ())) := by
  unfold spanB at hK
  simp only [fork_iff, decide_eq_true_eq, decide_eq_false_iff_not]
  refine ⟨fun h1 => ⟨fun h2 => ?_, fun h2 => ?_⟩, fun h1 => ?_⟩
  · rw [show decide (0 ≤ s.1 ∧ s.1 ≤ s.2 ∧ s.2 ≤ h) = decide (s.2 ≤ h) from by simp [show 0 ≤ s.1 from h1, h2]] at hK; exact hK
  · rw [show decide (0 ≤ s.1 ∧ s.1 ≤ s.2 ∧ s.2 ≤ h) = false from by simp [h2]] at hK; exact hK
  · rw [show decide (0 ≤ s.1 ∧ s.1 ≤ s.2 ∧ s.2 ≤ h) = false from by simp [show ¬ 0 ≤ s.1 from h1]] at hK; exact hK
theorem ok70 : FnOk Try.prog 70 fcSpan := fn1_of (n := 5) (good2_nil _) fun (s, h, ()) K hx => by rw [v70F]; exact spanF hx
theorem ok78 : FnOk Try.prog 78 fcSpan := fn1_of (n := 5) (good2_nil _) fun (s, h, ()) K hx => by rw [v78F]; exact spanF hx

theorem h67F (l : List Int) (K : dens [L] → Prop) : (l.length ≤ 1000000 ∧ K (l, ())) → xfn1 Try.prog {} 5 67 fcClone (l, ()) K := by
  intro ⟨h1, h2⟩
  rw [v67F]
  intro b hb
  simp only [fork_iff, req_iff, decide_eq_true_eq]
  refine ⟨fun h => ?_, fun _ => ⟨?_, by simp [seg], ?_⟩⟩
  · have := List.eq_nil_of_length_eq_zero (hb h); rw [← this]; exact h2
  · simp only [fitsN, Bool.and_eq_true, Nat.ble_eq]
    have : maxLen = 9223372036854775807 := rfl
    omega
  · have e : seg 0 (0 + l.length) (seg 0 0 [] ++ l) = l := by simp [seg]
    rw [e]; exact h2

theorem h27L (l : List Int) (n i : Int) (Q : LQ) : sSumL l n i Q → xloop2 Try.prog {} 5 27 0 lcSum (ex1 (S [(3, .v I)])) (fun x => mL x.1 x.2.2.1) (l, n, i, ()) Q := by
  intro ⟨⟨h0, h1, h2, h3⟩, hQ⟩
  rw [v27L]
  simp only [fork_iff, req_iff, decide_eq_true_eq, decide_eq_false_iff_not]
  refine ⟨fun hi => ?_, fun hi => ?_⟩
  · rw [drop_step 0 h0 hi] at h3 hQ
    refine ⟨⟨h0, hi⟩, fitS_self h3.2, inR_i64.2 (by omega), mL_lt hi, ⟨by omega, by omega, h2, h3.2⟩, ?_⟩
    rw [List.sum_cons, ← Int.add_assoc] at hQ
    exact hQ
  · rw [drop_end hi] at hQ
    simpa using hQ
theorem ok27L : Lp2Ok Try.prog 27 0 lcSum := lp2_of (n := 5) (ex := ex1 (S [(3, .v I)])) (m := fun x => mL x.1 x.2.2.1) (good2_nil _) fun (l, n, i, ()) Q hx => h27L l n i Q hx
theorem h27F (l : List Int) (K : dens [I] → Prop) : sSum l (fun r => K (r, ())) → xfn1 Try.prog { l2 := [(27, 0, lcSum)] } 5 27 fcSum (l, ()) K := by
  intro ⟨⟨h1, h2⟩, hK⟩
  rw [v27F]
  exact ⟨⟨by omega, by omega, h1, h2⟩, by simpa using hK⟩
theorem ok27 : FnOk Try.prog 27 fcSum := fn1_of (n := 5) ((good2_nil _).addL2 ok27L) fun (l, ()) K hx => h27F l K hx
theorem h74L (n : Int) (l : List Int) (m i : Int) (Q : LQ) : sTotL n l m i Q → xloop2 Try.prog {} 5 74 0 lcTot (ex1 (S [(3, .v I)])) (fun x => mL x.2.1 x.2.2.2.1) (n, l, m, i, ()) Q := by
  intro ⟨⟨h0, h1, hm, h2, h3⟩, hQ⟩
  rw [v74L]
  subst hm
  simp only [fork_iff, req_iff, decide_eq_true_eq, decide_eq_false_iff_not]
  refine ⟨fun hi => ?_, fun hi => ?_⟩
  · rw [drop_step 0 h0 hi] at h3 hQ
    refine ⟨⟨h0, hi⟩, fitS_self h3.2, inR_i64.2 (by omega), mL_lt hi, ⟨by omega, by omega, rfl, h2, h3.2⟩, ?_⟩
    rw [List.sum_cons, ← Int.add_assoc] at hQ
    exact hQ
  · rw [drop_end hi] at hQ
    simpa using hQ
theorem ok74L : Lp2Ok Try.prog 74 0 lcTot := lp2_of (n := 5) (ex := ex1 (S [(3, .v I)])) (m := fun x => mL x.2.1 x.2.2.2.1) (good2_nil _) fun (n, l, m, i, ()) Q hx => h74L n l m i Q hx
theorem h74F (l : List Int) (K : dens [I] → Prop) : sSum l (fun r => K (r, ())) → xfn1 Try.prog { l2 := [(74, 0, lcTot)] } 5 74 fcSum (l, ()) K := by
  intro ⟨⟨h1, h2⟩, hK⟩
  rw [v74F]
  exact ⟨⟨by omega, by omega, rfl, h1, h2⟩, by simpa using hK⟩
theorem ok74 : FnOk Try.prog 74 fcSum := fn1_of (n := 5) ((good2_nil _).addL2 ok74L) fun (l, ()) K hx => h74F l K hx

theorem h16L (a b : List Int) (ok : Bool) (i : Int) (Q : LQ) : sSameL a b ok i Q → xloop2 Try.prog {} 5 16 0 lcSame (ex1 shSameE) (fun x => (x.1.length + 1 - x.2.2.2.1).toNat) (a, b, ok, i, ()) Q := by
  intro ⟨⟨h0, h1, h2⟩, hQ⟩
  rw [v16L]
  simp only [fork_iff, req_iff, decide_eq_true_eq, decide_eq_false_iff_not]
  refine ⟨fun hok => ⟨fun hi => ?_, fun hi => ?_⟩, fun hok => ?_⟩
  · obtain ⟨g1, g2⟩ := h2 hok
    have hb : i < b.length := by omega
    refine ⟨⟨h0, hi⟩, ⟨h0, hb⟩, inR_i64.2 (by omega), by omega, ⟨by omega, h1, fun _ => ⟨g1, by omega⟩⟩, ?_⟩
    rw [drop_step 0 h0 hi, drop_step 0 h0 hb, hok] at hQ
    have e : (true && decide (a.getD i.toNat 0 :: a.drop (i + 1).toNat = b.getD i.toNat 0 :: b.drop (i + 1).toNat)) = (a.getD i.toNat 0 == b.getD i.toNat 0 && decide (a.drop (i + 1).toNat = b.drop (i + 1).toNat)) := by
      rw [Bool.true_and, Bool.eq_iff_iff]; simp
    rw [e] at hQ
    exact hQ
  · obtain ⟨g1, g2⟩ := h2 hok
    rw [drop_end hi, drop_end (show ¬ i < b.length by omega)] at hQ
    simpa using hQ
  · simpa [hok] using hQ
theorem ok16L : Lp2Ok Try.prog 16 0 lcSame := lp2_of (n := 5) (ex := ex1 shSameE) (m := fun x => (x.1.length + 1 - x.2.2.2.1).toNat) (good2_nil _) fun (a, b, ok, i, ()) Q hx => h16L a b ok i Q hx
theorem h16F (a b : List Int) (K : dens [.b] → Prop) : sSame a b (fun r => K (r, ())) → xfn1 Try.prog { l2 := [(16, 0, lcSame)] } 5 16 fcSame (a, b, ()) K := by
  intro ⟨h1, hK⟩
  rw [v16F]
  refine ⟨⟨by omega, h1, fun h => ⟨by have := eq_of_beq h; omega, by omega⟩⟩, ?_⟩
  have e : (((a.length : Int) == b.length) && decide (a.drop 0 = b.drop 0)) = decide (a = b) := by
    rw [Bool.eq_iff_iff]; simp; intro h; rw [h]
  rw [e]; exact hK
theorem ok16 : FnOk Try.prog 16 fcSame := fn1_of (n := 5) ((good2_nil _).addL2 ok16L) fun (a, b, ()) K hx => h16F a b K hx

theorem seekI_cases : ∀ (l : List Int) (n i : Int), 0 ≤ i → (seekI l n i = -1 ∧ n ∉ l) ∨ (i ≤ seekI l n i ∧ seekI l n i < i + l.length ∧ n ∈ l)
  | [], n, i, h => .inl ⟨rfl, by simp⟩
  | x :: l, n, i, h => by
    simp only [seekI]
    by_cases hx : x = n
    · rw [if_pos hx]; exact .inr ⟨Int.le_refl _, by simp; omega, by simp [hx]⟩
    · rw [if_neg hx]
      rcases seekI_cases l n (i + 1) (by omega) with ⟨h1, h2⟩ | ⟨h1, h2, h3⟩
      · exact .inl ⟨h1, by simp [h2, Ne.symm hx]⟩
      · exact .inr ⟨by omega, by simp; omega, by simp [h3]⟩
theorem seekI_ge {l : List Int} {n i : Int} (h : 0 ≤ i) : 0 ≤ seekI l n i ↔ n ∈ l := by
  rcases seekI_cases l n i h with ⟨h1, h2⟩ | ⟨h1, h2, h3⟩
  · rw [h1]; simp [h2]
  · simp only [h3, iff_true]; omega
theorem h32L (l : List Int) (n i : Int) (Q : LQ) : sSeekL l n i Q → xloop2 Try.prog {} 5 32 0 lcSeek exSeek (fun x => mL x.1 x.2.2.1) (l, n, i, ()) Q := by
  intro ⟨⟨h0, h1, h2⟩, hQ1, hQ2⟩
  rw [v32L]
  simp only [fork_iff, req_iff, decide_eq_true_eq, decide_eq_false_iff_not, beq_iff_eq, beq_eq_false_iff_ne, ne_eq]
  refine ⟨fun hi => ?_, fun hi => ?_⟩
  · rw [drop_step 0 h0 hi] at hQ1 hQ2
    simp only [seekI] at hQ1 hQ2
    refine ⟨⟨h0, hi⟩, fun h => ?_, fun h => ?_⟩
    · rw [if_pos h] at hQ2; exact hQ2 (by omega)
    · rw [if_neg h] at hQ1 hQ2
      exact ⟨inR_i64.2 (by omega), mL_lt hi, ⟨by omega, by omega, h2⟩, hQ1, hQ2⟩
  · rw [drop_end hi] at hQ1
    exact hQ1 rfl
theorem ok32L : Lp2Ok Try.prog 32 0 lcSeek := lp2_of (n := 5) (ex := exSeek) (m := fun x => mL x.1 x.2.2.1) (good2_nil _) fun (l, n, i, ()) Q hx => h32L l n i Q hx
theorem h32F (l : List Int) (n : Int) (K : dens [I] → Prop) : sSeek l n (fun r => K (r, ())) → xfn1 Try.prog { l2 := [(32, 0, lcSeek)] } 5 32 fcSeek (l, n, ()) K := by
  intro ⟨h1, hK⟩
  rw [v32F]
  refine ⟨⟨by omega, by omega, h1⟩, fun h => ?_, fun h => hK⟩
  have h : seekI l n 0 = -1 := h
  rw [h] at hK; exact hK
theorem ok32 : FnOk Try.prog 32 fcSeek := fn1_of (n := 5) ((good2_nil _).addL2 ok32L) fun (l, n, ()) K hx => h32F l n K hx
end Go.P9
