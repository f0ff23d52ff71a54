/- Share of both sides; the law of the cents: the code answers true. No conditions. -/
import Derived.Test.YtfbpaonmegmcgaaGreatTbShareP3
import Derived.Test.YtfbpaonmegmcgaaGreatTbFairS
import Derived.Test.YtfbpaonmegmcgaaGreatTbFairL
set_option linter.all false
set_option maxRecDepth 100000
namespace Go.P7
open Go.Lom Go.Proofs Go
theorem shareR_bad {w : List Int} {s : Int} (h : validW w = false) : shareR w s = ([], 70) := by unfold shareR; rw [if_neg (by rw [h]; simp)]
theorem shareR_out {w : List Int} {s : Int} (h : validW w = true) (h1 : ¬ (0 <= s /\ s <= 34359738368)) : shareR w s = ([], 7) := by unfold shareR; rw [if_pos h, if_neg h1]
theorem shareR_ok {w : List Int} {s : Int} (h : validW w = true) (h1 : 0 <= s /\ s <= 34359738368) : shareR w s = (shareL w s, 0) := by unfold shareR; rw [if_pos h, if_pos h1]
theorem h14F (w : List Int) (s : Int) (K : dens [L, E] -> Prop) : sSh w s (fun r e => K (r, e, ())) -> xfn Tryz.prog [(12, fc47), (14, fcShare)] [] 5 5 fcSh (w, s, ()) K := by
 intro ⟨h1, h2⟩
 rw [v14F]
 simp only [fork_iff, decide_eq_true_eq, decide_eq_false_iff_not, Bool.not_eq_true', Bool.not_eq_false']
 refine ⟨h1, fun h => h2 _ _ (shareR_bad h), fun h => ⟨fun h3 => ⟨fun h4 => h2 _ _ (shareR_out h (by omega)), fun h4 => ⟨⟨h, h3, h4⟩, fun r hr => ?_⟩⟩, fun h3 => h2 _ _ (shareR_out h (by omega))⟩⟩
 rw [hr]; exact h2 _ _ (shareR_ok h ⟨h3, h4⟩)
theorem ok14 : FnOk Tryz.prog 5 fcSh := fn_of (n := 5) (((good_nil _).addF ok49).addF ok47) fun (w, s, ()) K hx => h14F w s K hx
end Go.P7
