/- TillLinks: with more links whatever had to be reported must be reported. No conditions. -/
import Derived.Test.YtfenogdjhadcoaaLinkS
import Derived.Test.YtfenogdjhadcoaaWatP5
import Derived.Test.YtfenogdjhadcoaaFewP
set_option linter.constructorNameAsVariable false
set_option linter.unusedVariables false
set_option linter.unusedSimpArgs false
set_option maxRecDepth 100000
set_option maxHeartbeats 4000000
namespace Go.P8
open Go.Lom Go.Proofs Go

theorem ring_mod (n : Int) {m : Int} (h : 0 < m) : (n.tmod m + m).tmod m = n % m := by
  have h1 := Int.lt_tmod_of_pos n h
  rw [Int.tmod_eq_emod_of_nonneg (by omega), Int.add_emod_right]
  rw [Int.tmod_def, Int.sub_mul_emod_self_left]
theorem h33F (n m : Int) (K : dens [I] → Prop) (h0 : 0 < m) (h1 : m ≤ 4611686018427387904) (hK : ∀ r : Int, r = n % m → K (r, ())) : xfn1 Try.prog {} 5 33 fcRing (n, m, ()) K := by
  rw [v33F]
  simp only [fork_iff, req_iff, decide_eq_true_eq, decide_eq_false_iff_not, beq_iff_eq, beq_eq_false_iff_ne, ne_eq]
  have a1 := Int.lt_tmod_of_pos n h0
  have a2 := Int.tmod_lt_of_pos n h0
  repeat' (first | exact hK _ (ring_mod n h0) | (exfalso; omega) | exact inR_i64.2 (by omega) | omega | intro _ | refine And.intro ?_ ?_)
theorem ok33 : FnOk Try.prog 33 fcRing := fn1_of (n := 5) (good2_nil _) fun (n, m, ()) K hx => h33F n m K hx.1.1 hx.1.2 hx.2

/-! Reasons, of which the error alone is wanted -/

/-! the law -/
theorem reas_zero {l : List Dl} {ls : List Lk} {w : Wt} {k : Int} : (reasonsF l ls w k).2 = 0 ↔ watOk l ls w = true ∧ (0 ≤ k ∧ k ≤ (l.length : Int) - 1) ∧ repB w l (headOf ls) k = true := by
  unfold reasonsF
  by_cases h1 : watOk l ls w = true
  · by_cases h2 : 0 ≤ k ∧ k ≤ (l.length : Int) - 1
    · by_cases h3 : repB w l (headOf ls) k = true
      · rw [if_pos h1, if_pos h2, if_pos h3]
        constructor
        · intro _; exact ⟨h1, h2, h3⟩
        · intro _; split <;> rfl
      · rw [if_pos h1, if_pos h2, if_neg h3]; simp [h3]
    · rw [if_pos h1, if_neg h2]; constructor
      · intro h; simp at h
      · intro h; exact absurd h.2.1 h2
  · rw [if_neg h1]; constructor
    · intro h; simp at h
    · intro h; exact absurd h.1 h1
end Go.P8
