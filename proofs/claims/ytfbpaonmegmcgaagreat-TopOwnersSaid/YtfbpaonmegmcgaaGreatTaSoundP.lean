/- Funds: sound plans: the code keeps its contracts. No conditions. -/
import Derived.Test.YtfbpaonmegmcgaaGreatTaPlanP
set_option linter.all false
set_option maxRecDepth 100000
namespace Go.P9
open Go.Lom Go.Proofs Go
theorem planB_parts {f : Fd} {l : List Int} (h : planB f l = true) : l.length = (fIn f).length /\ planC f l 0 = true /\ l.sum <= fBars f := by
 unfold planB at h
 simp only [Bool.and_eq_true, decide_eq_true_eq] at h
 exact h
theorem price_bd {f : Fd} (hf : okF f = true) {i : Int} (h0 : 0 <= i) (h1 : i < (fIn f).length) : 0 <= ((fPrices f).getD i.toNat (0, 0)).1 /\ ((fPrices f).getD i.toNat (0, 0)).1 <= ((fPrices f).getD i.toNat (0, 0)).2 /\ ((fPrices f).getD i.toNat (0, 0)).2 <= 1048576 := by
 have h := (dayOk_iff.1 (day_at hf h0 h1)).2.2.2
 unfold spanB at h
 exact of_decide_eq_true h
theorem needsK_len {f : Fd} : ∀ (k : Nat) (i due : Int), (needsK f k i due).length = k
 | 0, _, _ => rfl
 | k + 1, i, due => by simp only [needsK, List.length_cons, needsK_len k]
end Go.P9
