/- CensusKnown returns true. No conditions. -/
import Derived.Test.YtfbbpilflbpifaaKnowS
set_option linter.constructorNameAsVariable false
set_option linter.unusedVariables false
set_option linter.unusedSimpArgs false
set_option maxRecDepth 100000
set_option maxHeartbeats 4000000
namespace Go.P10
open Go.Lom Go.Proofs Go
theorem v52d (K : dens [L, I, E] → Prop) : xfn1 Try.prog { un := 1064 } 5 52 fcPat7 ([7], ()) K = K ([64], 0, 0, ()) := by kernel_rfl
theorem okPat7 : FnOk Try.prog 52 fcPat7 := fn1_of (n := 5) (good2_un 1064) fun x K hx => by
  obtain ⟨rfl, hK⟩ := hx
  rw [v52d]; exact hK
theorem never_of {ps : List Int} {n : Nat} (h : aliveB ps n zA = false) : ¬ Ever ps zA := fun he => by have := he n; rw [h] at this; cases this
theorem k_turns1 {l : List Int} {e : Int} (h : TurnsR [2, 3, 3] 1 l e) : e = 4 :=
  (turnsR_uniq h (.inr (.inr (.inl ⟨ok_ps2, ⟨by decide, by decide⟩, not_ever2, rfl, rfl⟩)))).2
theorem k_turns2 {l : List Int} {e : Int} (h : TurnsR [2] 65 l e) : e = 7 :=
  (turnsR_uniq h (.inr (.inl ⟨⟨by decide, by decide⟩, by decide, rfl, rfl⟩))).2
theorem k_lasts1 {n e : Int} (h : LastsR [2, 4, 4] n e) : e = 4 :=
  (lastsR_uniq h (.inr (.inl ⟨ok_ps1, ever1 zA (by decide), rfl, rfl⟩))).2
theorem k_lasts2 {n e : Int} (h : LastsR [9] n e) : e = 105 :=
  (lastsR_uniq h (.inl ⟨fun hp => absurd (hp.2 9 (by decide)) (by decide), rfl, rfl⟩)).2
theorem k_lasts3 {n e : Int} (h : LastsR [1, 1] n e) : n = 0 ∧ e = 0 := by
  have hd : aliveB [1, 1] 1 zA = false := by decide +kernel
  refine lastsR_uniq h (.inr (.inr ⟨⟨by decide, by decide⟩, never_of hd, by decide, fun k => ⟨fun hk => ?_, fun hk => ?_⟩, rfl⟩))
  · by_cases h1 : k ≤ 0
    · omega
    · have := alive_le (m := 1) (by omega) hk
      rw [hd] at this; cases this
  · have : k = 0 := by omega
    subst this; rfl
theorem k_turns3 {l : List Int} {e : Int} (h : TurnsR [1] 3 l e) : l = [0, 0, 0] ∧ e = 0 := by
  have hE : Ever [1] zA := ever_set (l := [zA]) (by
    intro a ha
    have : a = zA := by simpa using ha
    subst this
    exact ⟨zA, by simp, by decide +kernel⟩) zA (by simp)
  have g : Gr1 [1] zA 0 zA := ⟨by decide, by decide +kernel, hE, fun k hk => by omega⟩
  exact turnsR_uniq h (.inr (.inr (.inr ⟨⟨by decide, by decide⟩, ⟨by decide, by decide⟩, hE, .cons (r := 0) g (.cons (r := 0) g (.cons (r := 0) g (.nil _))), rfl⟩)))
theorem ok15 : FnOk Try.prog 15 fcWorks := fn1_of (n := 6) (((((((((((((((good2_nilF _ 1064).addF okWorks).addF ok18).addF ok46).addF ok44).addF okPat7).addF ok50).addF ok48).addF ok42).addF ok39).addF ok37).addF ok35).addF okLeast).addF ok31).addF ok20 |>.addF ok28) fun x K hK => by
  have hK : K (true, ()) := hK
  rw [v15]
  have no : ∀ {x : Int} {P Q : Prop}, Q → fork (x != x) P Q := fun h => fork_iff.2 ⟨fun c => by simp at c, fun _ => h⟩
  have ye : ∀ {x : Int} {P Q : Prop}, P → fork (x == x) P Q := fun h => fork_iff.2 ⟨fun _ => h, fun c => by simp at c⟩
  have tr : ∀ {P Q : Prop}, P → fork true P Q := fun h => fork_iff.2 ⟨fun _ => h, fun c => (by cases c)⟩
  have fa : ∀ {P Q : Prop}, Q → fork false P Q := fun h => fork_iff.2 ⟨fun c => (by cases c), fun _ => h⟩
  have nt : ∀ {P Q : Prop}, Q → fork (!true) P Q := fa
  have nf : ∀ {P Q : Prop}, P → fork (!false) P Q := tr
  refine ⟨⟨by decide, by decide⟩, fun e _ h => ?_⟩
  obtain rfl : e = (100 : Int) := h (by decide)
  refine no ?_
  refine ⟨⟨by decide, by decide⟩, fun e _ h => ?_⟩
  obtain rfl : e = (100 : Int) := h (by decide)
  refine no ?_
  refine ⟨⟨by decide, by decide⟩, fun e _ h => ?_⟩
  obtain rfl : e = (100 : Int) := h (by decide)
  refine no ?_
  refine ⟨⟨by decide, by decide⟩, fun e _ h => ?_⟩
  obtain rfl : e = (100 : Int) := h (by decide)
  refine no ?_
  refine ⟨⟨by decide, by decide⟩, fun e _ h => ?_⟩
  obtain rfl : e = (100 : Int) := h (by decide)
  refine no ?_
  refine ⟨⟨⟨by decide, by decide⟩, by decide, by decide⟩, fun n m e hv => ?_⟩
  have hv := hv.trans (show _ = ((0 : Int), (0 : Int), (101 : Int)) by decide +kernel)
  simp only [Prod.mk.injEq] at hv
  obtain ⟨rfl, rfl, rfl⟩ := hv
  refine ⟨⟨⟨by decide, by decide⟩, by decide, by decide⟩, fun n m e hv => ?_⟩
  have hv := hv.trans (show _ = ((0 : Int), (0 : Int), (102 : Int)) by decide +kernel)
  simp only [Prod.mk.injEq] at hv
  obtain ⟨rfl, rfl, rfl⟩ := hv
  refine ⟨⟨⟨by decide, by decide⟩, by decide, by decide⟩, fun n m e hv => ?_⟩
  have hv := hv.trans (show _ = ((0 : Int), (0 : Int), (101 : Int)) by decide +kernel)
  simp only [Prod.mk.injEq] at hv
  obtain ⟨rfl, rfl, rfl⟩ := hv
  refine ⟨⟨⟨by decide, by decide⟩, by decide, by decide⟩, fun n m e hv => ?_⟩
  have hv := hv.trans (show _ = ((6 : Int), (18 : Int), (0 : Int)) by decide +kernel)
  simp only [Prod.mk.injEq] at hv
  obtain ⟨rfl, rfl, rfl⟩ := hv
  refine ⟨⟨⟨by decide, by decide⟩, by decide⟩, fun b e hv => ?_⟩
  have hv := hv.trans (show _ = (false, (0 : Int)) by decide +kernel)
  simp only [Prod.mk.injEq] at hv
  obtain ⟨rfl, rfl⟩ := hv
  refine ⟨⟨⟨by decide, by decide⟩, by decide⟩, fun b e hv => ?_⟩
  have hv := hv.trans (show _ = (true, (0 : Int)) by decide +kernel)
  simp only [Prod.mk.injEq] at hv
  obtain ⟨rfl, rfl⟩ := hv
  refine ⟨⟨by decide, by decide⟩, fun s c e hv => ?_⟩
  have hv := hv.trans (show _ = (([4, 2] : List Int), (14 : Int), (0 : Int)) by decide +kernel)
  simp only [Prod.mk.injEq] at hv
  obtain ⟨rfl, rfl, rfl⟩ := hv
  refine ⟨⟨by decide, by decide⟩, fun s c e hv => ?_⟩
  have hv := hv.trans (show _ = (([0, 0] : List Int), (0 : Int), (0 : Int)) by decide +kernel)
  simp only [Prod.mk.injEq] at hv
  obtain ⟨rfl, rfl, rfl⟩ := hv
  refine no (no (no (no (no (no (no (fa (no (nt (no ⟨by decide, fun r hr => ?_⟩))))))))))
  rw [decide_eq_true rfl] at hr
  subst hr
  refine nt (no (no ⟨by decide, fun r hr => ?_⟩))
  rw [decide_eq_true rfl] at hr
  subst hr
  refine nt (no ?_)
  refine ⟨⟨by decide, by decide⟩, fun n e hv => ?_⟩
  have hv := hv.trans (show _ = ((540 : Int), (0 : Int)) by decide +kernel)
  simp only [Prod.mk.injEq] at hv
  obtain ⟨rfl, rfl⟩ := hv
  refine ⟨⟨by decide, by decide⟩, fun n e hv => ?_⟩
  have hv := hv.trans (show _ = ((0 : Int), (103 : Int)) by decide +kernel)
  simp only [Prod.mk.injEq] at hv
  obtain ⟨rfl, rfl⟩ := hv
  refine ⟨⟨by decide, by decide⟩, fun n e hv => ?_⟩
  have hv := hv.trans (show _ = ((0 : Int), (103 : Int)) by decide +kernel)
  simp only [Prod.mk.injEq] at hv
  obtain ⟨rfl, rfl⟩ := hv
  refine ⟨⟨by decide, by decide⟩, fun n e hv => ?_⟩
  have hv := hv.trans (show _ = ((66 : Int), (0 : Int)) by decide +kernel)
  simp only [Prod.mk.injEq] at hv
  obtain ⟨rfl, rfl⟩ := hv
  refine ⟨⟨by decide, by decide⟩, fun n e hv => ?_⟩
  have hv := hv.trans (show _ = ((0 : Int), (7 : Int)) by decide +kernel)
  simp only [Prod.mk.injEq] at hv
  obtain ⟨rfl, rfl⟩ := hv
  refine ⟨rfl, no (no (no (no (no (no (no ⟨by decide, fun r hr => ?_⟩))))))⟩
  rw [decide_eq_true rfl] at hr
  subst hr
  refine nt ?_
  refine ⟨by decide, fun r e hv => ?_⟩
  have hv := hv.trans (show _ = ((0 : Int), (104 : Int)) by decide +kernel)
  simp only [Prod.mk.injEq] at hv
  obtain ⟨rfl, rfl⟩ := hv
  refine ⟨by decide, fun r e hv => ?_⟩
  have hv := hv.trans (show _ = ((0 : Int), (104 : Int)) by decide +kernel)
  simp only [Prod.mk.injEq] at hv
  obtain ⟨rfl, rfl⟩ := hv
  refine ⟨by decide, fun l e hv => ?_⟩
  have hv := hv.trans (show _ = (([2, 1, 0] : List Int), (0 : Int)) by decide +kernel)
  simp only [Prod.mk.injEq] at hv
  obtain ⟨rfl, rfl⟩ := hv
  refine ⟨by decide, fun l e hv => ?_⟩
  have hv := hv.trans (show _ = (([] : List Int), (7 : Int)) by decide +kernel)
  simp only [Prod.mk.injEq] at hv
  obtain ⟨rfl, rfl⟩ := hv
  refine ⟨by decide, fun l e hv => ?_⟩
  have hv := hv.trans (show _ = (([] : List Int), (104 : Int)) by decide +kernel)
  simp only [Prod.mk.injEq] at hv
  obtain ⟨rfl, rfl⟩ := hv
  refine ⟨by decide, fun l e hv => ?_⟩
  have hv := hv.trans (show _ = (([] : List Int), (7 : Int)) by decide +kernel)
  simp only [Prod.mk.injEq] at hv
  obtain ⟨rfl, rfl⟩ := hv
  refine ⟨by decide, fun l e hv => ?_⟩
  have hv := hv.trans (show _ = (([] : List Int), (104 : Int)) by decide +kernel)
  simp only [Prod.mk.injEq] at hv
  obtain ⟨rfl, rfl⟩ := hv
  refine ⟨by decide, fun l e hv => ?_⟩
  have hv := hv.trans (show _ = (([] : List Int), (104 : Int)) by decide +kernel)
  simp only [Prod.mk.injEq] at hv
  obtain ⟨rfl, rfl⟩ := hv
  refine no (no (no ⟨by decide, fun r hr => ?_⟩))
  rw [decide_eq_true rfl] at hr
  subst hr
  refine nt (no (no (no (no (no ?_)))))
  refine ⟨⟨by decide, by decide⟩, fun b e hv => ?_⟩
  have hv := hv.trans (show _ = (true, (0 : Int)) by decide +kernel)
  simp only [Prod.mk.injEq] at hv
  obtain ⟨rfl, rfl⟩ := hv
  refine ⟨⟨by decide, by decide⟩, fun b e hv => ?_⟩
  have hv := hv.trans (show _ = (false, (0 : Int)) by decide +kernel)
  simp only [Prod.mk.injEq] at hv
  obtain ⟨rfl, rfl⟩ := hv
  refine ⟨⟨by decide, by decide⟩, fun b e hv => ?_⟩
  have hv := hv.trans (show _ = (false, (105 : Int)) by decide +kernel)
  simp only [Prod.mk.injEq] at hv
  obtain ⟨rfl, rfl⟩ := hv
  refine ⟨by decide, fun l e h => ?_⟩
  obtain rfl := k_turns1 h
  refine ⟨by decide, fun l e h => ?_⟩
  obtain rfl := k_turns2 h
  refine ⟨by decide, fun n e h => ?_⟩
  obtain rfl := k_lasts1 h
  refine ⟨by decide, fun n e h => ?_⟩
  obtain rfl := k_lasts2 h
  refine ⟨by decide, fun n e h => ?_⟩
  obtain ⟨rfl, rfl⟩ := k_lasts3 h
  refine ⟨by decide, fun l e h => ?_⟩
  obtain ⟨rfl, rfl⟩ := k_turns3 h
  refine ye (tr (ye (nf (ye (ye (ye (ye (ye (ye (ye (ye ⟨by decide, fun r hr => ?_⟩)))))))))))
  rw [decide_eq_true rfl] at hr
  subst hr
  exact tr hK
end Go.P10
