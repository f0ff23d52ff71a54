/- The reference's Alarms: the code keeps its contract. No conditions. -/
import Derived.Test.YtfenogdjhadcoaaGreatRefZU
set_option linter.constructorNameAsVariable false
set_option linter.unusedVariables false
set_option linter.unusedSimpArgs false
set_option maxRecDepth 100000
set_option maxHeartbeats 4000000
namespace Go.P8
open Go.Lom Go.Proofs Go

theorem h8ZB (l : List Dl) (w : Wt) (h : List Int) (o : List Dl) (p k : Int) (Q : AX → St → Prop) (g : dlP w l) (h24 : h.length = 24) (k0 : 0 ≤ k) (k1 : k ≤ l.length) (p0 : 0 ≤ p) (p1 : p ≤ 24) (ho : (o.length : Int) ≤ p)
    (hQ : ∀ o1 : List Dl, o1 = (if firstRep w l h p (l.length - k.toNat) k < l.length then o ++ [(p, firstRep w l h p (l.length - k.toNat) k, sumOf l (allI w l h (firstRep w l h p (l.length - k.toNat) k)))] else o) → Q (.exit 2) (stS 2 sh8zbe (l, w, h, o1, p, ()))) :
    xloop2 Tryz.prog { nm := true, f := [(23, fc23z), (24, fc24z), (25, fc25z)] } 5 8 1 lc8zb (fun _ => some (sh8zbe, 2)) (fun (l, _, _, _, _, k, _) => mL l k) (l, w, h, o, p, k, ()) Q := by
  rw [v8ZB]
  simp only [fork_iff, req_iff, decide_eq_true_eq, decide_eq_false_iff_not, bne_iff_ne, ne_eq, bne_eq_false_iff_eq, Nat.zero_add, Nat.le_refl, seg_self, true_and]
  have h64 := g.2.1
  refine ⟨fun hk => ?_, fun hk => hQ o (by rw [show l.length - k.toNat = 0 by omega, if_neg (by simp only [firstRep]; omega)])⟩
  have dx : dayOk (l.getD k.toNat ((0, 0, 0) : Dl)) := g.2.2 _ (dl_in k0 hk)
  have x3 := dx.2.2.1
  have x4 := dx.2.2.2.1
  rw [show l.length - k.toNat = (l.length - (k + 1).toNat) + 1 by omega] at hQ
  have fno : repAt w l h p k = false → firstRep w l h p ((l.length - (k + 1).toNat) + 1) k = firstRep w l h p (l.length - (k + 1).toNat) (k + 1) := fun e => by simp only [firstRep]; rw [if_neg (by rw [e]; simp)]
  have fyes : repAt w l h p k = true → firstRep w l h p ((l.length - (k + 1).toNat) + 1) k = k := fun e => by simp only [firstRep]; rw [if_pos e]
  have hra : repAt w l h p k = (decide (h.getD (l.getD k.toNat ((0, 0, 0) : Dl)).2.1.toNat 0 = p) && repB w l h k) := rfl
  have x3 : 0 ≤ (l.getD k.toNat ((0 : Int), (0 : Int), (0 : Int))).2.1 := x3
  have x4 : (l.getD k.toNat ((0 : Int), (0 : Int), (0 : Int))).2.1 ≤ 23 := x4
  have go : repAt w l h p k = false → inR .i64 (k + 1) = true ∧ mL l (k + 1) < mL l k ∧ (dlP w l ∧ h.length = 24 ∧ 0 ≤ k + 1 ∧ k + 1 ≤ (l.length : Int) ∧ 0 ≤ p ∧ p ≤ 24 ∧ (o.length : Int) ≤ p) ∧ ∀ o1 : List Dl, o1 = (if firstRep w l h p (l.length - (k + 1).toNat) (k + 1) < l.length then o ++ [(p, firstRep w l h p (l.length - (k + 1).toNat) (k + 1), sumOf l (allI w l h (firstRep w l h p (l.length - (k + 1).toNat) (k + 1))))] else o) → Q (.exit 2) (stS 2 sh8zbe (l, w, h, o1, p, ())) := fun e => by
    rw [fno e] at hQ
    exact ⟨inR_i64.2 (by omega), mL_lt hk, ⟨g, h24, by omega, by omega, p0, p1, ho⟩, hQ⟩
  refine ⟨⟨k0, hk⟩, ⟨x3, by omega⟩, fun e => go (by rw [hra, decide_eq_false e, Bool.false_and]), fun e => ⟨⟨g, h24, k0, hk⟩, fun r hr => ?_⟩⟩
  have ix : ixP l r := by rw [hr]; exact ix_all g k0 hk
  have hrep : repB w l h k = (decide (w.2.1 ≤ sumOf l r) || decide (w.2.2.2 ≤ ((r.filter (smallB w l)).length : Int))) := by rw [hr]; rfl
  refine ⟨⟨g.1, ix⟩, fun b hb => ⟨fun z => ⟨ix, fun n hn => ⟨fits100 (by omega), fun ys hys => ?_⟩⟩, fun z => go (by rw [hra, decide_eq_true e, Bool.true_and, hrep, ← hb, z])⟩⟩
  subst hys
  have e1 : (o ++ [((p, k, n) : Dl)]).length = o.length + 1 := by simp
  rw [← e1, seg_self]
  have hrt : repAt w l h p k = true := by rw [hra, decide_eq_true e, Bool.true_and, hrep, ← hb, z]
  rw [fyes hrt, if_pos hk] at hQ
  exact ⟨Nat.le_refl _, hQ _ (by rw [← hr, ← hn])⟩
theorem ok8ZB : Lp2Ok Tryz.prog 8 1 lc8zb := lp2_of (n := 5) (ex := fun _ => some (sh8zbe, 2)) (m := fun (l, _, _, _, _, k, _) => mL l k) ((((good2_nilN _).addF ok25z).addF ok24z).addF ok23z) fun (l, w, h, o, p, k, ()) Q hx => by
  obtain ⟨⟨g1, g2, g3, g4, g5, g6, g7⟩, hQ⟩ := hx
  exact h8ZB l w h o p k Q g1 g2 g3 g4 g5 g6 g7 hQ
theorem h8ZA (l : List Dl) (w : Wt) (h : List Int) (o : List Dl) (p : Int) (Q : AX → St → Prop) (g : dlP w l) (h24 : h.length = 24) (p0 : 0 ≤ p) (p1 : p ≤ 24) (ho : (o.length : Int) ≤ p) (hQ : ∀ o1 : List Dl, o1 = o ++ alarmsF w l h (24 - p.toNat) p → Q (.exit 0) (stS 2 sh8zae (o1, ()))) :
    xloop2 Tryz.prog { nm := true, l2 := [(8, 1, lc8zb)] } 5 8 0 lc8za (fun _ => some (sh8zae, 2)) (fun (_, _, _, _, p, _) => (24 - p).toNat) (l, w, h, o, p, ()) Q := by
  rw [v8ZA]
  simp only [fork_iff, req_iff, decide_eq_true_eq, decide_eq_false_iff_not, Nat.zero_add, Nat.le_refl, seg_self, true_and]
  refine ⟨fun hp => ⟨⟨g, h24, Int.le_refl (0 : Int), show (0 : Int) ≤ (l.length : Int) by omega, p0, p1, ho⟩, fun o1 ho1 => ?_⟩, fun hp => hQ o (by rw [show 24 - p.toNat = 0 by omega]; simp [alarmsF])⟩
  rw [show 24 - p.toNat = (24 - (p + 1).toNat) + 1 by omega] at hQ
  simp only [alarmsF] at hQ
  have hl1 : (o1.length : Int) ≤ p + 1 := by rw [ho1]; split <;> (try simp) <;> omega
  refine ⟨inR_i64.2 (by omega), show (24 - (p + 1)).toNat < (24 - p).toNat by omega, ⟨g, h24, show (0 : Int) ≤ p + 1 by omega, show p + 1 ≤ (24 : Int) by omega, hl1⟩, fun o2 ho2 => hQ o2 ?_⟩
  have ho2 : o2 = o1 ++ alarmsF w l h (24 - (p + 1).toNat) (p + 1) := ho2
  rw [ho2, ho1]
  unfold alarmK
  split <;> simp
theorem ok8ZA : Lp2Ok Tryz.prog 8 0 lc8za := lp2_of (n := 5) (ex := fun _ => some (sh8zae, 2)) (m := fun (_, _, _, _, p, _) => (24 - p).toNat) ((good2_nilN _).addL2 ok8ZB) fun (l, w, h, o, p, ()) Q hx => h8ZA l w h o p Q hx.1.1 hx.1.2.1 hx.1.2.2.1 hx.1.2.2.2.1 hx.1.2.2.2.2 hx.2
theorem ok8z : FnOk Tryz.prog 8 fcAlarms := fn1_of (n := 5) ((((good2_nil _).addL2 ok8ZA).addF ok16z).addF ok22z) fun (l, ls, w, ()) K hx => by
  obtain ⟨⟨g1, g2⟩, hK⟩ := hx
  have hK : ∀ (r : List Dl) (e : Int), (r, e) = alarmsR l ls w → K (r, e, ()) := hK
  rw [v8ZF]
  refine ⟨⟨g1, g2⟩, fun b hb => ?_⟩
  simp only [fork_iff, Bool.not_eq_true', Bool.not_eq_false']
  refine ⟨fun z => hK _ _ (by unfold alarmsR; rw [← hb, z]; rfl), fun z => ?_⟩
  have hw : watOk l ls w = true := by rw [← hb]; exact z
  refine ⟨lks_of (wat_iff.1 hw).1, fun h hh => ⟨⟨dlP_of hw, hh.len, Int.le_refl (0 : Int), show (0 : Int) ≤ 24 by decide, Int.le_refl (0 : Int)⟩, fun o1 ho1 => ?_⟩⟩
  simp only [req_iff, decide_eq_true_eq, Nat.zero_add, Nat.le_refl, seg_self, true_and]
  have ho1 : o1 = alarmsF w l h 24 0 := ho1
  exact hK _ _ (by unfold alarmsR; rw [if_pos hw, (headOf_eq hh).2, ho1])
end Go.P8
