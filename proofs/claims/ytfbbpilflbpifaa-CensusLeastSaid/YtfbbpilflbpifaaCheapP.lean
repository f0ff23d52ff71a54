/- CensusCheapest returns true. No conditions. -/
import Derived.Test.YtfbbpilflbpifaaAuditL
set_option linter.constructorNameAsVariable false
set_option linter.unusedVariables false
set_option linter.unusedSimpArgs false
set_option maxRecDepth 100000
set_option maxHeartbeats 4000000
namespace Go.P10
open Go.Lom Go.Proofs Go


theorem h6 (a : Au) (sa lo : List Int) (K : dens [.b] → Prop) (h1 : bigs a) (h2 : sa.length ≤ big) (h3 : lo.length ≤ big) (hK : K (true, ())) : xfn1 Try.prog { nm := true, f := [(16, fcLeast), (19, fcWorks), (20, fc20), (24, fc24w), (31, fc31), (33, fc33), (34, fcAhead)] } 5 6 fc6 (a, (sa, lo), ()) K := by
  rw [v6F]
  refine ⟨h1, fun s c e hv => ?_⟩
  unfold leastV at hv
  split at hv
  · rename_i hA
    have hL := least_spec hA
    injection hv with g1 g2
    injection g2 with g2 g3
    rw [← g1, ← g2] at hL
    clear g1 g2
    subst g3
    have hsl := (each_at hL.each).1
    have h4 := hA.1.1.2
    have hfs : findsV a s = (true, 0) := by rw [findsV, if_pos hA, if_pos hL.each, hL.finds]
    have hw := worst_spec hA hL.each
    have hsu := hA.2.2.2.2
    have tail : (bigs a ∧ sa.length ≤ 9223372036854775807) ∧ ∀ (b : Bool) (e : Int), (b, e) = findsV a sa →
        fork (e != 0) (fork (e == 0) (K (true, ())) (fork (e == 101) (K (true, ())) (K (false, ()))))
          (fork (!b) (fork (e == 0) (K (true, ())) (fork (e == 101) (K (true, ())) (K (false, ()))))
            ((okA a ∧ eachB a.1 sa = true) ∧ ∀ r : Int, r = costF sa a.2.1 → fork (decide (r > c)) (K (true, ()))
              (fork (r == c) (sa.length ≤ 9223372036854775807 ∧ fork (!aheadI sa s) (K (true, ())) (K (false, ()))) (K (false, ()))))) := by
      refine ⟨⟨h1, h2⟩, fun b e hbe => ?_⟩
      unfold findsV at hbe
      rw [if_pos hA] at hbe
      split at hbe
      · rename_i hE
        injection hbe with g1 g2
        subst g2
        refine fork_iff.2 ⟨fun c => absurd c (by decide), fun _ => fork_not (fun _ => fork_iff.2 ⟨fun _ => hK, fun c => absurd c (by decide)⟩) fun hb => ⟨⟨hA, hE⟩, fun r hr => ?_⟩⟩
        have hbst := hL.best sa hE (by rw [← g1]; exact hb)
        rw [← hr] at hbst
        refine fork_iff.2 ⟨fun _ => hK, fun d => fork_iff.2 ⟨fun q => ⟨h2, fork_not (fun _ => hK) fun q2 => ?_⟩, fun q => ?_⟩⟩
        · exfalso
          have q : r = c := by simpa using q
          rcases hbst with h | ⟨_, h | h⟩
          · omega
          · rw [h, ahead_irr] at q2; cases q2
          · rw [ahead_asymm h] at q2; cases q2
        · exfalso
          have d := of_decide_eq_false d
          have q : r ≠ c := by simpa using q
          omega
      · injection hbe with g1 g2
        subst g2
        exact fork_iff.2 ⟨fun _ => fork_iff.2 ⟨fun _ => hK, fun _ => fork_iff.2 ⟨fun _ => hK, fun c => absurd c (by decide)⟩⟩, fun c => absurd c (by decide)⟩
    refine fork_iff.2 ⟨fun c => absurd c (by decide), fun _ => ⟨⟨h1, by omega⟩, fun b e hbe => ?_⟩⟩
    rw [hfs] at hbe
    injection hbe with g1 g2
    subst g1 g2
    refine fork_not (fun c => by cases c) fun _ => fork_iff.2 ⟨fun c => absurd c (by decide), fun _ => ⟨⟨hA, hL.each⟩, fun r hr => ?_⟩⟩
    rw [← hL.cost] at hr
    subst hr
    refine fork_iff.2 ⟨fun c => by simp at c, fun _ => ⟨⟨h1, by omega, h3⟩, fun n m e hm => ?_⟩⟩
    unfold missF at hm
    rw [if_pos hA, if_pos hL.each] at hm
    split at hm
    · rename_i hE
      injection hm with g1 g2
      injection g2 with g2 g3
      subst g3
      have hel := each_at hE
      refine fork_iff.2 ⟨fun _ => ⟨h3, fun (r : Int) hr => ⟨rfl, ?_⟩⟩, fun c => absurd c (by decide)⟩
      have hr : r = lo.sum := hr (by omega) (by
        rw [List.all_eq_true]
        intro x hx
        obtain ⟨k, hk, rfl⟩ := List.mem_iff_getElem.1 hx
        have q1 := hel.2 k (by omega)
        have q2 := hA.1.2 _ (getD_mem (show k < a.1.length by omega) 0)
        rw [List.getD_eq_getElem?_getD, List.getElem?_eq_getElem hk] at q1
        exact inW_iff.2 ⟨q1.1, by have := q1.2; dsimp only [Option.getD] at this; omega⟩)
      refine fork_iff.2 ⟨fun c => ?_, fun _ => tail⟩
      have c : r ≥ a.2.2.1 := of_decide_eq_true c
      have hp := prodM_bd (st := a.1) s lo
      have hq := allM_bd (st := a.1) s
      have h70 := pow70n h4
      rw [← g1] at hp
      rw [← g2] at hq
      have hmx := hw.max lo hE (by omega)
      have hf := hL.finds
      unfold findsF at hf
      have hf := of_decide_eq_true hf
      rw [hw.all, ← g2] at hf
      rw [← g1] at hmx
      have hb := mul_bd hq.1 (Int.le_trans hq.2 h70) (show 0 ≤ 1000 - a.2.2.2 by omega) (show 1000 - a.2.2.2 ≤ 1000 by omega)
      refine req_iff.2 ⟨inR_i64.2 (by omega), req_iff.2 ⟨inR_i64.2 (by omega), req_iff.2 ⟨inR_i64.2 (by omega), fork_iff.2 ⟨fun d => ?_, fun _ => tail⟩⟩⟩⟩
      exfalso
      have d := of_decide_eq_true d
      omega
    · injection hm with g1 g2
      injection g2 with g2 g3
      subst g3
      exact fork_iff.2 ⟨fun c => absurd c (by decide), fun _ => tail⟩
  · injection hv with g1 g2
    injection g2 with g2 g3
    subst g1 g2 g3
    exact fork_iff.2 ⟨fun _ => fork_iff.2 ⟨fun _ => fork_iff.2 ⟨fun _ => hK, fun c => absurd c (by decide)⟩, fun c => absurd c (by decide)⟩, fun c => absurd c (by decide)⟩
end Go.P10
