/- Share of both sides; the law of the cents: the code answers true. No conditions. -/
import Derived.Test.YtnjaebjhfilljaaShareP3
import Derived.Test.YtnjaebjhfilljaaFairS
import Derived.Test.YtnjaebjhfilljaaFairL
import Derived.Test.YtnjaebjhfilljaaWorks
set_option linter.constructorNameAsVariable false
set_option linter.unusedVariables false
set_option linter.unusedSimpArgs false
set_option maxRecDepth 100000
namespace Go.P7
open Go.Lom Go.Proofs Go

theorem shareR_bad {w : List Int} {s : Int} (h : validW w = false) : shareR w s = ([], 70) := by unfold shareR; rw [if_neg (by rw [h]; simp)]
theorem shareR_out {w : List Int} {s : Int} (h : validW w = true) (h1 : ¬ (0 ≤ s ∧ s ≤ 34359738368)) : shareR w s = ([], 7) := by unfold shareR; rw [if_pos h, if_neg h1]
theorem shareR_ok {w : List Int} {s : Int} (h : validW w = true) (h1 : 0 ≤ s ∧ s ≤ 34359738368) : shareR w s = (shareL w s, 0) := by unfold shareR; rw [if_pos h, if_pos h1]

theorem h14F (w : List Int) (s : Int) (K : dens [L, E] → Prop) : sSh w s (fun r e => K (r, e, ())) → xfn Try.prog [(47, fc47), (49, fcShare)] [] 5 14 fcSh (w, s, ()) K := by
  intro ⟨h1, h2⟩
  rw [v14F]
  simp only [fork_iff, decide_eq_true_eq, decide_eq_false_iff_not, Bool.not_eq_true', Bool.not_eq_false']
  refine ⟨h1, fun h => h2 _ _ (shareR_bad h), fun h => ⟨fun h3 => ⟨fun h4 => h2 _ _ (shareR_out h (by omega)), fun h4 => ⟨⟨h, h3, h4⟩, fun r hr => ?_⟩⟩, fun h3 => h2 _ _ (shareR_out h (by omega))⟩⟩
  rw [hr]; exact h2 _ _ (shareR_ok h ⟨h3, h4⟩)

theorem h24F (a n b : Int) (K : dens [.b] → Prop) : sFrom a n b (fun r => K (r, ())) → xfn Try.prog [] [] 5 24 fcFrom (a, n, b, ()) K := by
  intro h
  unfold sFrom at h
  rw [v24F]
  simp only [fork_iff, decide_eq_true_eq, decide_eq_false_iff_not]
  refine ⟨fun h1 => ?_, fun h1 => ?_⟩
  · rw [show decide (a ≤ n ∧ n ≤ b) = decide (n ≤ b) from by simp [h1]] at h; exact h
  · rw [show decide (a ≤ n ∧ n ≤ b) = false from by simp [h1]] at h; exact h
theorem ok24 : FnOk Try.prog 24 fcFrom := fn_of (n := 5) (good_nil _) fun (a, n, b, ()) K hx => h24F a n b K hx
theorem okWorks' : FnOk Try.prog 19 fcWorks := okWorks


end Go.P7
