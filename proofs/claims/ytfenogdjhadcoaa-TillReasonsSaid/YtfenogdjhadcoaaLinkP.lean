/- TillLinks: with more links whatever had to be reported must be reported. No conditions. -/
import Derived.Test.YtfenogdjhadcoaaLinkS
import Derived.Test.YtfenogdjhadcoaaWatP5
import Derived.Test.YtfenogdjhadcoaaFewP
set_option linter.constructorNameAsVariable false
set_option linter.unusedVariables false
set_option linter.unusedSimpArgs false
set_option maxRecDepth 100000
set_option maxHeartbeats 4000000
namespace Go.P8
open Go.Lom Go.Proofs Go


/-! Reasons, of which the error alone is wanted -/

/-! the law -/
theorem sum_sub {l : List Dl} {a b : List Int} (h : a.Sublist b) (hp : ∀ i ∈ b, 0 ≤ amt l i) : sumOf l a ≤ sumOf l b := by
  induction h with
  | slnil => exact Int.le_refl _
  | cons x _ ih =>
    have h1 := ih fun i hi => hp i (List.mem_cons_of_mem _ hi)
    have h2 := hp x (by simp)
    simp only [sumOf, List.map_cons, List.sum_cons] at *
    omega
  | cons_cons x _ ih =>
    have h1 := ih fun i hi => hp i (List.mem_cons_of_mem _ hi)
    simp only [sumOf, List.map_cons, List.sum_cons] at *
    omega
theorem reas_zero {l : List Dl} {ls : List Lk} {w : Wt} {k : Int} : (reasonsF l ls w k).2 = 0 ↔ watOk l ls w = true ∧ (0 ≤ k ∧ k ≤ (l.length : Int) - 1) ∧ repB w l (headOf ls) k = true := by
  unfold reasonsF
  by_cases h1 : watOk l ls w = true
  · by_cases h2 : 0 ≤ k ∧ k ≤ (l.length : Int) - 1
    · by_cases h3 : repB w l (headOf ls) k = true
      · rw [if_pos h1, if_pos h2, if_pos h3]
        constructor
        · intro _; exact ⟨h1, h2, h3⟩
        · intro _; split <;> rfl
      · rw [if_pos h1, if_pos h2, if_neg h3]; simp [h3]
    · rw [if_pos h1, if_neg h2]; constructor
      · intro h; simp at h
      · intro h; exact absurd h.2.1 h2
  · rw [if_neg h1]; constructor
    · intro h; simp at h
    · intro h; exact absurd h.1 h1
theorem amt_pos {l : List Dl} {ls : List Lk} {w : Wt} {k : Int} {hs : List Int} (h : watOk l ls w = true) (k0 : 0 ≤ k) (k1 : k < l.length) : ∀ i ∈ allI w l hs k, 0 ≤ amt l i := fun i hi => by
  have gw := watP_of (ofL 23 []) h
  have := all_idx (hs := hs) gw k0 k1
  have := amt_bd gw (this.2 i hi).1 (this.2 i hi).2
  exact Int.le_trans (by decide) this.1
end Go.P8
