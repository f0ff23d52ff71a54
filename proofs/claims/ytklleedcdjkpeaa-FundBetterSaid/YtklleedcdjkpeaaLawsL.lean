/- Funds: sound plans are walks; the laws of the least plan, of the capital, of pay: plain laws. No conditions. -/
import Derived.Test.YtklleedcdjkpeaaBearsL
import Derived.Test.YtklleedcdjkpeaaFollowP
import Derived.Test.YtklleedcdjkpeaaFollowS
import Derived.Test.YtklleedcdjkpeaaNeedsS
import Derived.Test.YtklleedcdjkpeaaNeedsP
set_option linter.constructorNameAsVariable false
set_option linter.unusedVariables false
set_option linter.unusedSimpArgs false
set_option maxRecDepth 100000
namespace Go.P9
open Go.Lom Go.Proofs Go

theorem walk_len {pr sl : Int → Int} : ∀ {ns : List Int} {t m : Int} {l : List Int}, walkP pr sl ns t m l → l.length = ns.length
  | [], _, _, [], _ => rfl
  | [], _, _, _ :: _, h => h.elim
  | _ :: _, _, _, [], h => h.elim
  | n :: ns, t, m, c :: l, h => by simp only [List.length_cons]; rw [walk_len h.2]
theorem soundN_walk {f : Fd} {l : List Int} : ∀ (ns : List Int) (i m : Int), 0 ≤ i → l.length = i.toNat + ns.length → ((planC f l i && soundN f l ns i m) = true ↔ walkP (prF f) (slF f) ns i m (l.drop i.toNat))
  | [], i, m, h0, hl => by
    simp only [List.length_nil] at hl
    rw [planC_end (by omega), List.drop_eq_nil_of_le (by omega)]
    simp [soundN, walkP]
  | n :: ns, i, m, h0, hl => by
    simp only [List.length_cons] at hl
    rw [planC_step h0 (by omega), drop_step (l := l) 0 h0 (by omega)]
    simp only [soundN, walkP]
    have ih := soundN_walk (f := f) (l := l) ns (i + 1) (monI f l i m) (by omega) (by omega)
    have hm : monI f l i m = m + l.getD i.toNat 0 * prF f i := rfl
    rw [← hm, ← ih]
    generalize monI f l i m = v
    generalize l.getD i.toNat 0 = c
    simp only [Bool.and_eq_true, decide_eq_true_eq]
    by_cases h : v < n
    · rw [if_pos h]
      constructor
      · intro h2; simp at h2
      · intro h2; omega
    · rw [if_neg h]
      constructor
      · rintro ⟨⟨⟨a, b⟩, d⟩, e⟩; exact ⟨⟨a, b, by omega⟩, d, e⟩
      · rintro ⟨⟨a, b, _⟩, d, e⟩; exact ⟨⟨⟨a, b⟩, d⟩, e⟩
theorem sound_iff {f : Fd} {l : List Int} : (planB f l = true ∧ soundB f l = true) ↔ (walkP (prF f) (slF f) (needsL f) 0 0 l ∧ l.sum ≤ fBars f) := by
  have hn : (needsL f).length = (fIn f).length := needsK_len _ _ _
  constructor
  · rintro ⟨h1, h2⟩
    obtain ⟨p1, p2, p3⟩ := planB_parts h1
    have := (soundN_walk (f := f) (l := l) (needsL f) 0 0 (by omega) (by simp; omega)).1 (by rw [p2]; exact h2)
    exact ⟨this, p3⟩
  · rintro ⟨h1, h2⟩
    have hl := walk_len h1
    have := (soundN_walk (f := f) (l := l) (needsL f) 0 0 (by omega) (by simp; omega)).2 h1
    simp only [Bool.and_eq_true] at this
    refine ⟨?_, this.2⟩
    unfold planB
    rw [this.1, decide_eq_true (show l.length = (fIn f).length by omega), decide_eq_true h2]; rfl

/-! the least plan -/
theorem least_walk {f : Fd} (hf : okF f = true) (h : ¬ fewN f (needsL f) < 0) : walkP (prF f) (slF f) (needsL f) 0 0 (plK f (needsL f) (fewN f (needsL f)) 0 0 0) ∧ (plK f (needsL f) (fewN f (needsL f)) 0 0 0).sum = fewN f (needsL f) ∧ 0 ≤ fewN f (needsL f) ∧ fewN f (needsL f) ≤ fBars f := by
  have hN := needsL_B hf
  rcases few_cases (f := f) (ns := needsL f) with h1 | ⟨h1, h2, h3, _⟩
  · omega
  · have h4 := (ask0_iff (needB_le hN h1 h2) (ex := true) (by omega) (by omega)).1 h3
    have hl : (needsL f).length ≤ 12 := hN.2.1
    obtain ⟨w1, w2⟩ := plan_walk (bdF hf) (B := fewN f (needsL f)) (ns := needsL f) (t := 0) (k := 0) (m := 0) (by omega) (by omega) h4
    have e : plK f (needsL f) (fewN f (needsL f)) 0 0 0 = planK (prF f) (slF f) (fewN f (needsL f)) (needsL f) 0 0 0 := rfl
    rw [e]
    exact ⟨w1, by omega, h1, h2⟩

/-! other cash -/

/-! the capital -/
theorem lackF_nonneg (f : Fd) : 0 ≤ lackF f := by unfold lackF maxI; split <;> omega
theorem lackF_le {f : Fd} (hf : okF f = true) : lackF f ≤ 562949953421312 := by
  have hH := needsL_H hf
  have := (ask_all_iff hH.1 (m := 562949953421312) (by omega) (by omega)).2 (feas_zero (pr := prF f) (fin := finB (fBars f) false) (fun t => (slF_bd hf t).1) (show (0 : Int) ≤ fBars f from hH.1.2.2.2.1) fun x hx => (hH.2 x hx).2)
  unfold lackF maxI
  split <;> omega

/-! the shop can pay -/
theorem sum_map_le {α : Type} {g h : α → Int} : ∀ {l : List α}, (∀ x ∈ l, g x ≤ h x) → (l.map g).sum ≤ (l.map h).sum
  | [], _ => Int.le_refl _
  | x :: l, e => by
    have := e x (List.mem_cons_self ..)
    have := sum_map_le (l := l) fun y hy => e y (List.mem_cons_of_mem _ hy)
    simp only [List.map_cons, List.sum_cons]; omega
end Go.P9
