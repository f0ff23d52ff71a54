/- TillReasons: the law holds. No conditions. -/
import Derived.Test.YtfenogdjhadcoaaReasP
set_option linter.constructorNameAsVariable false
set_option linter.unusedVariables false
set_option linter.unusedSimpArgs false
set_option maxRecDepth 100000
set_option maxHeartbeats 4000000
namespace Go.P8
open Go.Lom Go.Proofs Go

theorem reas_err {l : List Dl} {ls : List Lk} {w : Wt} {k : Int} (h : (reasonsF l ls w k).2 ≠ 0) : (reasonsF l ls w k).1 = [] := by
  have hn := fun z => h (reas_zero.2 z)
  unfold reasonsF
  split
  · rename_i h1
    split
    · rename_i h2
      split
      · rename_i h3; exact absurd ⟨h1, h2, h3⟩ hn
      · rfl
    · rfl
  · rfl
structure RF (w : Wt) (l : List Dl) (h : List Int) (k : Int) (r : List Int) : Prop where
  sub : r.Sublist (allI w l h k)
  ne : r ≠ []
  either : (w.2.1 ≤ sumOf l r ∧ ∀ os : List Int, os.Sublist (allI w l h k) → w.2.1 ≤ sumOf l os → r.length ≤ os.length ∧ (os.length = r.length → aheadB os r = false)) ∨
    (sumOf l r < w.2.1 ∧ (∀ j ∈ r, smallB w l j = true) ∧ (r.length : Int) = w.2.2.2)
theorem reas_facts {l : List Dl} {ls : List Lk} {w : Wt} {k : Int} (h0 : (reasonsF l ls w k).2 = 0) : RF w l (headOf ls) k (reasonsF l ls w k).1 := by
  obtain ⟨hw, hk, hr⟩ := reas_zero.1 h0
  have gW := wtOk_iff.1 (wat_iff.1 hw).2.2.2
  have h64 := (wat_iff.1 hw).2.1
  have hpos := amt_pos (hs := headOf ls) hw hk.1 (show k < l.length by omega)
  have e : (reasonsF l ls w k).1 = if sumOf l (allI w l (headOf ls) k) < w.2.1 then (smallI w l (headOf ls) k).take w.2.2.2.toNat else fewestF w l (allI w l (headOf ls) k) := by
    unfold reasonsF
    rw [if_pos hw, if_pos hk, if_pos hr]
    split <;> rfl
  rw [e]
  split
  · rename_i hlt
    have hm : w.2.2.2 ≤ ((smallI w l (headOf ls) k).length : Int) := by
      unfold repB at hr
      rw [decide_eq_false (by omega), Bool.false_or, decide_eq_true_eq] at hr
      exact hr
    have hsub : ((smallI w l (headOf ls) k).take w.2.2.2.toNat).Sublist (allI w l (headOf ls) k) := (List.take_sublist _ _).trans List.filter_sublist
    have hlen : (((smallI w l (headOf ls) k).take w.2.2.2.toNat).length : Int) = w.2.2.2 := by rw [List.length_take]; omega
    refine ⟨hsub, fun z => ?_, .inr ⟨Int.lt_of_le_of_lt (sum_sub hsub hpos) hlt, fun j hj => ?_, hlen⟩⟩
    · rw [z] at hlen; simp at hlen; omega
    · exact (List.mem_filter.1 (List.mem_of_mem_take hj)).2
  · rename_i hge
    generalize hA : allI w l (headOf ls) k = A at *
    have hasc : A.Pairwise (· < ·) := by rw [← hA]; exact win_asc _ _
    have hA1 : 1 ≤ A.length := by
      rcases Nat.eq_zero_or_pos A.length with z | z
      · have : A = [] := List.length_eq_zero_iff.1 z
        subst this
        simp [sumOf] at hge; omega
      · exact z
    have hg : w.2.1 ≤ grt l A (1 + (A.length - 1)) := by rw [show 1 + (A.length - 1) = A.length by omega, grt_all]; omega
    obtain ⟨m1, m2, m3⟩ := many_ok (l := l) (is := A) (s := w.2.1) (A.length - 1) 1 hg
    obtain ⟨p1, p2, p3⟩ := pick_ok (l := l) (s := w.2.1) A (manyF l A w.2.1 (A.length - 1) 1) 0 (by omega) (by omega)
    have hf : fewestF w l A = pickF l w.2.1 A (manyF l A w.2.1 (A.length - 1) 1) 0 := rfl
    rw [← hf] at p1 p2 p3
    refine ⟨by rw [hA]; exact p2, fun z => by rw [z] at p1; simp at p1; omega, .inl ⟨by omega, fun os hos hs => ?_⟩⟩
    rw [hA] at hos
    refine ⟨?_, fun hl => ?_⟩
    · rw [p1]
      rcases Nat.lt_or_ge os.length (manyF l A w.2.1 (A.length - 1) 1) with z | z
      · exfalso
        have hsg := sub_grt (l := l) hos
        rcases Nat.eq_zero_or_pos os.length with y | y
        · have : os = [] := List.length_eq_zero_iff.1 y
          subst this
          simp [sumOf] at hs; omega
        · have := many_min (l := l) (is := A) (s := w.2.1) (A.length - 1) 1 os.length y z
          omega
      · exact z
    · rw [hf]
      exact pick_lex A _ 0 os hasc hos (by rw [hl, p1]) (by omega)
theorem h9F (ld : List Dl) (ls : List Lk) (w : Wt) (k : Int) (ot : List Int) (K : dens [.b] → Prop) (g1 : ld.length ≤ big) (g2 : ls.length ≤ big) (g3 : ot.length ≤ big) (hK : K (true, ())) :
    xfn1 Try.prog { nm := true, f := [(36, fcIns), (34, fcReas), (32, fcAlarms), (31, fcLinked), (28, fcAhead), (26, fcFrom'), (19, fcWorks)], l2 := [(9, 0, lc9a), (9, 1, lc9b)] } 5 9 fc9 ((ld, ls, w), k, ot, ()) K := by
  rw [v9F]
  refine ⟨⟨g1, g2⟩, fun r e hr => fk (fun z => fk (fun _ => hK) fun z2 => ?_) fun z => ⟨g2, fun r1 e1 hr1 ho => ?_⟩⟩
  · exfalso
    simp only [bne_iff_ne, ne_eq, beq_eq_false_iff_ne] at z z2
    have h1 := reas_err (l := ld) (ls := ls) (w := w) (k := k) (by rw [← hr]; exact z)
    rw [← hr] at h1
    have h1 : r = [] := h1
    subst h1; exact z2 rfl
  simp only [bne_eq_false_iff_eq] at z
  have z0 : (reasonsF ld ls w k).2 = 0 := by rw [← hr]; exact z
  obtain ⟨hw, hk, hrep⟩ := reas_zero.1 z0
  have rf := reas_facts z0
  rw [← hr] at rf
  have rf : RF w ld (headOf ls) k r := rf
  obtain ⟨w1, w2, w3, w4⟩ := wat_iff.1 hw
  have gd : ∀ d ∈ ld, dayOk d := dls_all ld 0 (by omega) w3
  have gW := wtOk_iff.1 w4
  have p := ho w1
  have r1e : r1 = headOf ls ∧ e1 = 0 := by
    unfold linkedR at hr1; rw [if_pos w1] at hr1
    exact ⟨congrArg Prod.fst hr1, congrArg Prod.snd hr1⟩
  obtain ⟨rfl, rfl⟩ := r1e
  have h24 := p.len
  have k1 : k < (ld.length : Int) := by omega
  have gp : insP (ld, ls, w) (headOf ls) k := ⟨w4, w2, gd, h24, hk.1, k1⟩
  have dk : dayOk (dlAt ld k) := gd _ (dl_in hk.1 k1)
  have hlA : (allI w ld (headOf ls) k).length ≤ 64 := by
    have := winF_len (w := w) (l := ld) (hs := headOf ls) (k := k) (k + 1).toNat 0
    unfold allI; omega
  have hlr : r.length ≤ 64 := Nat.le_trans rf.sub.length_le hlA
  have hins : insF w ld (headOf ls) k r (-1) 0 = (0 + sumOf ld r, true) := ins_sub (k + 1).toNat 0 (-1) 0 r (by omega) (by omega) (by omega) rf.sub
  have tail : (ld.length ≤ 9223372036854775807 ∧ ls.length ≤ 9223372036854775807) ∧ ∀ (a : List Dl) (e : Int), (a, e) = alarmsR ld ls w → fork (e != (0 : Int)) (K (false, ())) ((insP (ld, ls, w) (headOf ls) k ∧ a.length ≤ 64 ∧ (0 : Int) ≤ 0 ∧ (0 : Int) ≤ (a.length : Int) ∧ firstOk (at' (headOf ls) (dlAt ld k).2.1) k (a.drop 0) = true) ∧ K (true, ())) := by
    refine ⟨⟨g1, g2⟩, fun a e ha => ?_⟩
    have hae : a = alarmsF w ld (headOf ls) 24 0 ∧ e = 0 := by
      unfold alarmsR at ha; rw [if_pos hw] at ha
      exact ⟨congrArg Prod.fst ha, congrArg Prod.snd ha⟩
    obtain ⟨rfl, rfl⟩ := hae
    have hal := alarms_len (w := w) (l := ld) (h := headOf ls) 24 0
    refine fk (fun q => by cases q) fun _ => ⟨⟨gp, by omega, Int.le_refl _, by omega, ?_⟩, hK⟩
    have hP := p.bd (dlAt ld k).2.1 ⟨dk.2.2.1, by have := dk.2.2.2.1; omega⟩
    have hra : repAt w ld (headOf ls) (at' (headOf ls) (dlAt ld k).2.1) k = true := by
      unfold repAt; rw [decide_eq_true rfl, hrep]; rfl
    have hal2 : alarmK w ld (headOf ls) (at' (headOf ls) (dlAt ld k).2.1) ≤ k := firstRep_le hra _ _ hk.1 (by omega)
    rw [List.drop_zero]
    exact alarms_first hal2 k1 24 0 hP.1 (by have := dk.2.2.2.1; omega)
  refine fk (fun q => by cases q) fun _ => fk (fun q => ?_) fun _ => rq (inR_i64.2 (by omega)) fun b hb => fk (fun q => ?_) fun _ => ⟨⟨gp, show r.length ≤ 9223372036854775807 by omega⟩, fun m b1 hm => ?_⟩
  · exfalso
    simp only [bne_iff_ne, ne_eq] at q
    exact q (by omega)
  · exfalso
    simp only [Bool.not_eq_true'] at q
    rw [hb, decide_eq_false_iff_not] at q; exact q hk
  rw [hins] at hm
  have hm1 : m = sumOf ld r := by have := congrArg Prod.fst hm; simpa using this
  have hb1 : b1 = true := congrArg Prod.snd hm
  subst hb1
  refine fk (fun q => by cases q) fun _ => fk (fun q => ?_) fun _ => fk (fun q => ⟨⟨gp, g3⟩, fun m2 b2 hm2 => fk (fun q2 => fk (fun q3 => fk (fun q4 => ?_) fun q4 => fk (fun q5 => ⟨g3, fun b3 hb3 => fk (fun q6 => ?_) fun _ => tail⟩) fun _ => tail) fun _ => tail) fun _ => tail⟩) fun q => ?_
  · exfalso
    simp only [beq_iff_eq] at q
    exact rf.ne (List.length_eq_zero_iff.1 (by omega))
  · exfalso
    simp only [decide_eq_true_eq] at q q3 q4
    subst q2
    obtain ⟨s1, s2⟩ := ins_true ot (-1) 0 m2 (by omega) hm2.symm
    rw [show (k - -1).toNat = (k + 1).toNat by omega, show (-1 : Int) + 1 = 0 by omega] at s1
    rcases rf.either with ⟨a, b⟩ | ⟨a, b, c⟩
    · have := (b ot s1 (by have : m2 ≥ w.2.1 := q3; omega)).1
      omega
    · have : m ≥ w.2.1 := q
      omega
  · exfalso
    simp only [decide_eq_true_eq, beq_iff_eq] at q q3 q5
    subst q2
    obtain ⟨s1, s2⟩ := ins_true ot (-1) 0 m2 (by omega) hm2.symm
    rw [show (k - -1).toNat = (k + 1).toNat by omega, show (-1 : Int) + 1 = 0 by omega] at s1
    rcases rf.either with ⟨a, b⟩ | ⟨a, b, c⟩
    · have := (b ot s1 (by have : m2 ≥ w.2.1 := q3; omega)).2 (by omega)
      rw [hb3, this] at q6; cases q6
    · have : m ≥ w.2.1 := q
      omega
  · simp only [decide_eq_false_iff_not, ge_iff_le] at q
    have q : ¬ w.2.1 ≤ m := q
    rcases rf.either with ⟨a, b⟩ | ⟨a, b, c⟩
    · exact absurd (by omega) q
    · have hidx := all_idx (h := ofL 23 []) (hs := headOf ls) (watP_of (ofL 23 []) hw) hk.1 k1
      refine ⟨⟨w4, hlr, fun j hj => ⟨hidx.2 j (rf.sub.subset hj), b j hj⟩, Int.le_refl (0 : Int), show (0 : Int) ≤ (r.length : Int) by omega⟩, fk (fun q2 => ?_) fun _ => tail⟩
      exfalso
      simp only [bne_iff_ne, ne_eq] at q2
      exact q2 c
theorem ok9 : FnOk Try.prog 9 fc9 := fn1_of (n := 5) (((((((((good2_nilN _).addL2 ok9B).addL2 ok9A).addF okWorks').addF ok26').addF ok28).addF ok31).addF ok32).addF ok34 |>.addF ok36) fun ((ld, ls, w), k, ot, ()) K hx => h9F ld ls w k ot K hx.1.1 hx.1.2.1 hx.1.2.2 hx.2
end Go.P8
