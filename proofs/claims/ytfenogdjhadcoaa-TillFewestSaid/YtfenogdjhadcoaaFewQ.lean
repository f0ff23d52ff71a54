/- TillFewest: the code keeps its contract. No conditions. -/
import Derived.Test.YtfenogdjhadcoaaFewP
set_option linter.constructorNameAsVariable false
set_option linter.unusedVariables false
set_option linter.unusedSimpArgs false
set_option maxRecDepth 100000
set_option maxHeartbeats 8000000
namespace Go.P8
open Go.Lom Go.Proofs Go

theorem h5F (d : Dr) (g o : List Int) (p : Int) (K : dens [.b] → Prop) (g1 : d.1.length ≤ big) (g2 : d.2.length ≤ big) (g3 : g.length ≤ big) (g4 : o.length ≤ big) (hK : K (true, ())) :
    xfn1 Try.prog { nm := true, f := [(12, fcPayE), (15, fcCheck'), (17, fcChange), (19, fcWorks), (25, fcValue), (26, fcFrom'), (27, fcSum), (28, fcAhead)], l2 := [(5, 0, lc5)] } 5 5 fcFew (d, g, o, p, ()) K := by
  have tl := tail_ok d g p K g1 g2 g3 hK
  rw [v5F]
  unfold tailP at tl
  simp only [fork_iff, req_iff, decide_eq_true_eq, decide_eq_false_iff_not, bne_iff_ne, bne_eq_false_iff_eq, beq_iff_eq, beq_eq_false_iff_ne, ne_eq, Nat.zero_add, seg_self, Nat.le_refl, true_and, List.drop_zero, List.nil_append, Bool.not_eq_true', Bool.not_eq_false', gt_iff_lt] at tl ⊢
  refine ⟨g4, fun n b hb hin hn => ⟨⟨g1, g2⟩, fun r e he => ⟨fun hbt => fun b2 hb2 => ⟨fun hbt2 => ⟨⟨g1, g2⟩, fun e1 he1 => ⟨fun hc => ?_, fun _ => tl⟩⟩, fun _ => tl⟩, fun _ => tl⟩⟩⟩
  rw [hbt] at hb
  have hb := hb.symm
  rw [Bool.and_eq_true, decide_eq_true_eq] at hb
  obtain ⟨hg, hl⟩ := hb
  rw [hbt2] at hb2
  have hr := of_decide_eq_true hb2.symm
  have hc0 : checkE d = 0 := by rw [← he1]; exact hc
  obtain ⟨o1, o2, o3⟩ := check0 hc0
  have hn := hn o1.len.2 hg
  rw [hn] at hr he
  obtain ⟨b1, b2, b3⟩ := best_pay o1 hl hg hr.1
  obtain ⟨p1, p2, p3, p4, p5⟩ := payR_ok o1 hr.1 b1
  have hpe : payE d (valueN d.1 o) = (payL (d.1.zip d.2) (valueN d.1 o), 0) := by
    unfold payE; rw [if_neg (fun e => e hc0), if_pos hr]; exact p1
  rw [hpe] at he
  simp only [Prod.mk.injEq] at he
  obtain ⟨hre, hee⟩ := he
  have h8 := o1.len
  have l1 : r.length ≤ 8 := by rw [hre, p2]; exact h8.2
  have m1 : ∀ y ∈ r, 0 ≤ y ∧ y ≤ 1000000 := fun y hy => by
    rw [hre] at hy; have := good_rng p4 y hy; omega
  have m2 : ∀ y ∈ o, 0 ≤ y ∧ y ≤ 1000000 := fun y hy => by have := good_rng hg y hy; omega
  have l100 : r.length ≤ 100 := by omega
  have lo100 : o.length ≤ 100 := by omega
  refine ⟨Nat.le_trans l1 (by decide), fun n1 b4 hb4 hi4 hn4 => ⟨fun h => absurd hee h, fun _ => ⟨fun h => ?_, fun _ => ⟨fun h => ?_, fun _ => ⟨⟨l100, m1⟩, fun r1 hr1 => ⟨⟨lo100, m2⟩, fun r2 hr2 => ⟨fun h => ?_, fun _ => ⟨⟨l100, m1⟩, fun r3 hr3 => ⟨⟨lo100, m2⟩, fun r4 hr4 => ⟨fun heq => ⟨Nat.le_trans l1 (by decide), fun r5 hr5 => ⟨fun h => ?_, fun _ => tl⟩⟩, fun _ => tl⟩⟩⟩⟩⟩⟩⟩⟩⟩⟩
  · rw [hb4, hre, p4, decide_eq_true p2] at h; cases h
  · rw [hre] at hn4
    have := hn4 h8.2 p4
    rw [p3] at this
    exact absurd (this.trans hn.symm) h
  · rw [hr1, hr2, hre, p5] at h; omega
  · rw [hr3, hr4, hre, p5] at heq
    have := b3 heq.symm
    rw [hr5, hre, this] at h; cases h
theorem ok5 : FnOk Try.prog 5 fcFew := fn1_of (n := 5) ((((((((((good2_nilN _).addL2 ok5L).addF ok28).addF ok27).addF ok26').addF ok25).addF okWorks').addF ok17).addF ok15').addF ok12) fun (d, g, o, p, ()) K hx => by
  obtain ⟨⟨⟨g1, g2⟩, g3, g4⟩, hK⟩ := hx
  exact h5F d g o p K g1 g2 g3 g4 hK
end Go.P8
