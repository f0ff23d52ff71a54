/- The reference's Reasons: the code keeps its contract. No conditions. -/
import Derived.Test.YtfenogdjhadcoaaGreatRefZT
set_option linter.constructorNameAsVariable false
set_option linter.unusedVariables false
set_option linter.unusedSimpArgs false
set_option maxRecDepth 100000
set_option maxHeartbeats 4000000
namespace Go.P8
open Go.Lom Go.Proofs Go

theorem h29F (l : List Dl) (is : List Int) (s : Int) (K : dens [L] → Prop) (g : ixP l is) (hl : 1 ≤ is.length) (s1 : 1 ≤ s) (s2 : s ≤ 1073741824) (hs : s ≤ sumOf l is) (hK : ∀ r : List Int, r = pickF l s is (manyF l is s (is.length - 1) 1) 0 → K (r, ())) :
    xfn1 Tryz.prog { l2 := [(29, 0, lc29a), (29, 1, lc29b)] } 5 29 fcLeastZ (l, is, s, ()) K := by
  rw [v29F]
  refine ⟨⟨g, Int.le_refl (0 : Int), show (0 : Int) ≤ (is.length : Int) by omega, by rw [grt_all]; exact hs⟩, fun m1 e1 e2 e3 e4 => ⟨⟨g, Int.le_refl (0 : Int), show (0 : Int) ≤ (is.length : Int) by omega, Int.le_refl (0 : Int), e2, show m1 ≤ (is.length : Int) - 0 by have : m1 ≤ (is.length : Int) := e3; omega, s2, show (0 : Int) ≤ s + 0 * 1073741824 by omega, e4⟩, fun r hr => ?_⟩⟩
  simp only [req_iff, decide_eq_true_eq, Nat.zero_add, Nat.le_refl, seg_self, true_and]
  refine hK r ?_
  have hr : r = pickF l s is m1.toNat 0 := hr
  have e1 : m1 = (manyF l is s ((is.length : Int) - 0).toNat 0 : Nat) := e1
  rw [hr, e1, Int.toNat_natCast, show ((is.length : Int) - 0).toNat = (is.length - 1) + 1 by omega]
  have : manyF l is s (is.length - 1 + 1) 0 = manyF l is s (is.length - 1) 1 := by
    simp only [manyF]
    rw [grt_zero, if_pos (by omega)]
  rw [this]
theorem ok29z : FnOk Tryz.prog 29 fcLeastZ := fn1_of (n := 5) (((good2_nil _).addL2 ok29B).addL2 ok29A) fun (l, is, s, ()) K hx => h29F l is s K hx.1.1 hx.1.2.1 hx.1.2.2.1 hx.1.2.2.2.1 hx.1.2.2.2.2 hx.2
theorem dlP_of {l : List Dl} {ls : List Lk} {w : Wt} (g : watOk l ls w = true) : dlP w l := by
  obtain ⟨_, h2, h3, h4⟩ := wat_iff.1 g
  exact ⟨h4, h2, dls_all l 0 (by omega) h3⟩
theorem ix_all {w : Wt} {l : List Dl} {h : List Int} {k : Int} (g : dlP w l) (k0 : 0 ≤ k) (k1 : k < l.length) : ixP l (allI w l h k) := by
  refine ⟨g.2.1, g.2.2, ?_, fun i hi => ?_⟩
  · have := winF_len (w := w) (l := l) (hs := h) (k := k) (k + 1).toNat 0
    have := g.2.1
    unfold allI; omega
  · have := (winF_mem _ _ _).1 hi
    omega
theorem h10ZF (l : List Dl) (ls : List Lk) (w : Wt) (k : Int) (K : dens [L, E] → Prop) (g1 : l.length ≤ big) (g2 : ls.length ≤ big) (hK : ∀ (r : List Int) (e : Int), (r, e) = reasonsF l ls w k → K (r, e, ())) :
    xfn1 Tryz.prog { f := [(22, fc22z), (28, fcFromZ), (16, fc16z), (23, fc23z), (24, fc24z), (25, fc25z), (29, fcLeastZ), (30, fc30z)] } 5 10 fcReas (l, ls, w, k, ()) K := by
  rw [v10ZF]
  refine ⟨⟨g1, g2⟩, fun b hb => ?_⟩
  simp only [fork_iff, req_iff, decide_eq_true_eq, decide_eq_false_iff_not, Bool.not_eq_true', Bool.not_eq_false', ge_iff_le, List.drop_zero, true_and, Int.le_refl]
  refine ⟨fun z => hK _ _ (by unfold reasonsF; rw [← hb, z]; rfl), fun z => ?_⟩
  have hw : watOk l ls w = true := by rw [← hb]; exact z
  have gd := dlP_of hw
  have h64 := gd.2.1
  have gW := wtOk_iff.1 gd.1
  have hR : reasonsF l ls w k = if 0 ≤ k ∧ k ≤ (l.length : Int) - 1 then if repB w l (headOf ls) k = true then if sumOf l (allI w l (headOf ls) k) < w.2.1 then ((smallI w l (headOf ls) k).take w.2.2.2.toNat, 0) else (fewestF w l (allI w l (headOf ls) k), 0) else ([], 4) else ([], 7) := by
    unfold reasonsF; rw [if_pos hw]
  refine ⟨inR_i64.2 (by omega), fun b1 hb1 => ⟨fun q => hK _ _ ?_, fun q => ⟨lks_of (wat_iff.1 hw).1, fun h hh => ?_⟩⟩⟩
  · rw [hb1, decide_eq_false_iff_not] at q
    rw [hR, if_neg q]
  rw [hb1, decide_eq_true_eq] at q
  obtain ⟨_, e2⟩ := headOf_eq hh
  rw [if_pos q, e2] at hR
  have k1 : k < (l.length : Int) := by omega
  refine ⟨⟨gd, hh.len, q.1, k1⟩, fun r hr => ?_⟩
  have ix : ixP l r := by rw [hr]; exact ix_all gd q.1 k1
  have hrep : repB w l h k = (decide (w.2.1 ≤ sumOf l r) || decide (w.2.2.2 ≤ ((r.filter (smallB w l)).length : Int))) := by rw [hr]; rfl
  have hsm : smallI w l h k = r.filter (smallB w l) := by rw [hr]; rfl
  rw [hrep, hsm, ← hr] at hR
  refine ⟨⟨gd.1, ix⟩, fun b2 hb2 => ⟨fun z2 => hK _ _ (by rw [hR, ← hb2, z2]; rfl), fun z2 => ⟨ix, fun n hn => ⟨fun z3 => ⟨⟨ix, ?_, gW.2.1.1, gW.2.1.2, by rw [← hn]; exact z3⟩, fun r2 hr2 => hK _ _ ?_⟩, fun z3 => ⟨⟨gd.1, ix⟩, fun r2 hr2 => ⟨⟨by have := gW.2.2.2.1; omega, ?_⟩, hK _ _ ?_⟩⟩⟩⟩⟩⟩
  · rcases Nat.eq_zero_or_pos r.length with y | y
    · have : r = [] := List.length_eq_zero_iff.1 y
      rw [this] at hn
      have hn : n = 0 := hn
      have := gW.2.1.1
      omega
    · exact y
  · rw [hR, ← hb2, z2, if_pos rfl, if_neg (by omega), hr2]; rfl
  · rw [← hb2] at hR
    rw [z2, decide_eq_false (by omega), Bool.false_or] at hb2
    rw [hr2]; exact of_decide_eq_true hb2.symm
  · rw [hR, ← hb2, z2, if_pos rfl, if_pos (by omega), hr2]
theorem ok10z : FnOk Tryz.prog 10 fcReas := fn1_of (n := 5) ((((((((good2_nil _).addF ok30z).addF ok29z).addF ok25z).addF ok24z).addF ok23z).addF ok16z).addF ok28z |>.addF ok22z) fun (l, ls, w, k, ()) K hx => h10ZF l ls w k K hx.1.1 hx.1.2 hx.2
end Go.P8
