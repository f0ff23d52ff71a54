/- Days: the reference: balances, what a posting may really have been: the code keeps its contracts. No conditions. -/
import Derived.Test.YtfenogdjhadcoaaDayP7
set_option linter.all false
set_option maxRecDepth 100000
set_option maxHeartbeats 4000000
namespace Go.P8
open Go.Lom Go.Proofs Go
theorem ok62 : F2Ok Try.prog 62 fc62 := fn2_of (n := 5) (good2_nil _) fun (l, ()) K hx => by
 obtain ⟨hl, hK⟩ := hx
 have hl : l.length <= 1000 := hl
 show xfn2 Try.prog {} 5 62 fc62 (l, ()) K
 rw [v62F]
 simp only [req_iff, decide_eq_true_eq, Nat.zero_add, List.nil_append, Nat.le_refl, seg_all, true_and]
 refine ⟨?_, hK _ rfl⟩
 simp only [fitsN, Bool.and_eq_true, Nat.ble_eq]; unfold maxLen; omega
theorem swK_fuel {s : Int} : ∀ (k : Nat) (t : Int), 0 < t -> s < 10 ^ k * t -> swK s (k + 1) t = swK s k t
 | 0, t, h, hs => by
  unfold swK
  rw [if_neg (by omega)]
 | k + 1, t, h, hs => by
  unfold swK
  split
  ·rw [swK_fuel k (10 * t) (by omega) (by rw [Int.pow_succ, Int.mul_assoc] at hs; exact hs)]
  ·rfl
theorem swI_td {s t : Int} (hs : 0 <= s) (ht : 1 <= t) : s.tdiv t = s / t /\ s.tdiv (10 * t) = s / (10 * t) /\ (s.tdiv t).tmod 10 = s / t % 10 /\ (s.tdiv (10 * t)).tmod 10 = s / (10 * t) % 10 := by
 have e1 : s.tdiv t = s / t := Int.tdiv_eq_ediv_of_nonneg hs
 have e2 : s.tdiv (10 * t) = s / (10 * t) := Int.tdiv_eq_ediv_of_nonneg hs
 refine ⟨e1, e2, ?_, ?_⟩
 ·rw [e1]; exact Int.tmod_eq_emod_of_nonneg (Int.ediv_nonneg hs (by omega))
 ·rw [e2]; exact Int.tmod_eq_emod_of_nonneg (Int.ediv_nonneg hs (by omega))
end Go.P8
