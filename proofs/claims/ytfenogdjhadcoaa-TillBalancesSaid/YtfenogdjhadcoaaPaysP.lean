/- TillPays: the code keeps its contract. No conditions. -/
import Derived.Test.YtfenogdjhadcoaaRefQ8
set_option linter.all false
set_option maxRecDepth 100000
set_option maxHeartbeats 4000000
namespace Go.P8
open Go.Lom Go.Proofs Go
theorem h51L (cs l : List Int) (n i : Int) (Q : AX -> St -> Prop) (h0 : 0 <= i) (h1 : i <= l.length) (hl : l.length = cs.length) (h8 : l.length <= 8) (hx : ∀ x ∈ l, 0 <= x /\ x <= 50) (hc : ∀ c ∈ cs, 1 <= c /\ c <= 50000) (n0 : 0 <= n) (n1 : n <= i * 2500000)
  (hQ : ∀ r : Int, r = n + valueN (cs.drop i.toNat) (l.drop i.toNat) -> Q (.exit 0) (stS 0 sh51e (r, ()))) :
  xloop2 Try.prog {} 5 51 0 lc51 (fun _ => some (sh51e, 0)) (fun (_, l, _, i, _) => mL l i) (cs, l, n, i, ()) Q := by
 rw [v51L]
 simp only [fork_iff, req_iff, decide_eq_true_eq, decide_eq_false_iff_not]
 refine ⟨fun hi => ⟨fun hj => ⟨⟨h0, hi⟩, ⟨h0, hj⟩, ?_⟩, fun hj => by omega⟩, fun hi => hQ _ (by rw [drop_end hi, valueN_nil']; omega)⟩
 rw [drop_step 0 h0 hi, drop_step 0 (l := cs) h0 (by omega)] at hQ
 simp only [valueN] at hQ
 have hxi := hx _ (getD_in (show i.toNat < l.length by omega))
 have hci := hc _ (getD_in (show i.toNat < cs.length by omega))
 generalize l.getD i.toNat 0 = x at *
 generalize cs.getD i.toNat 0 = c at *
 have hm0 : 0 <= x * c := Int.mul_nonneg hxi.1 (by omega)
 have hm1 : x * c <= 50 * 50000 := Int.mul_le_mul hxi.2 hci.2 (by omega) (by decide)
 exact ⟨inR_i64.2 (by omega), inR_i64.2 (by omega), inR_i64.2 (by omega), mL_lt hi, ⟨⟨show (0 : Int) <= i + 1 by omega, show i + 1 <= (l.length : Int) by omega, hl, h8, hx, hc, show (0 : Int) <= n + x * c by omega, show n + x * c <= (i + 1) * 2500000 by omega⟩, fun r hr => hQ r (hr.trans (Int.add_assoc _ _ _))⟩⟩
theorem same_step {a b : List Int} {i : Int} (h0 : 0 <= i) (h1 : i < a.length) (h2 : i < b.length) : decide (a.drop i.toNat = b.drop i.toNat) = ((a.getD i.toNat 0 == b.getD i.toNat 0) && decide (a.drop (i + 1).toNat = b.drop (i + 1).toNat)) := by
 rw [drop_step 0 h0 h1, drop_step 0 h0 h2]
 by_cases h : a.getD i.toNat 0 = b.getD i.toNat 0
 ·rw [h, beq_self_eq_true, Bool.true_and]
  exact decide_eq_decide.2 ⟨fun e => (List.cons.inj e).2, fun e => by rw [e]⟩
 ·rw [decide_eq_false (fun e => h (List.cons.inj e).1)]
  rw [show (a.getD i.toNat 0 == b.getD i.toNat 0) = false from beq_eq_false_iff_ne.2 h]; rfl
theorem h14L (a b : List Int) (ok : Bool) (i : Int) (Q : AX -> St -> Prop) (h0 : 0 <= i) (hb : a.length <= big) (ho : ok = true -> a.length = b.length /\ i <= a.length) (hQ : ∀ r : Bool, r = (ok && decide (a.drop i.toNat = b.drop i.toNat)) -> Q (.exit 0) (stS 0 sh14e (r, ()))) :
  xloop2 Try.prog {} 5 14 0 lc14 (fun _ => some (sh14e, 0)) (fun (a, _, _, i, _) => (a.length + 1 - i).toNat) (a, b, ok, i, ()) Q := by
 rw [v14L]
 have hbig : (big : Int) = 9223372036854775807 := rfl
 simp only [fork_iff, req_iff, decide_eq_true_eq, decide_eq_false_iff_not]
 refine ⟨fun hk => ?_, fun hk => hQ ok (by rw [hk]; rfl)⟩
 obtain ⟨o1, o2⟩ := ho hk
 refine ⟨fun hi => ⟨⟨h0, hi⟩, ⟨h0, by omega⟩, inR_i64.2 (by omega), ?_, ⟨⟨show (0 : Int) <= i + 1 by omega, hb, fun _ => ⟨o1, show i + 1 <= (a.length : Int) by omega⟩⟩, fun r hr => hQ r ?_⟩⟩, fun hi => hQ ok (by rw [drop_end hi, drop_end (l := b) (by omega)]; simp)⟩
 ·show ((a.length : Int) + 1 - (i + 1)).toNat < ((a.length : Int) + 1 - i).toNat
  omega
 ·rw [hk, Bool.true_and, same_step h0 hi (by omega)]; exact hr
theorem ok14L : Lp2Ok Try.prog 14 0 lc14 := lp2_of (n := 5) (ex := fun _ => some (sh14e, 0)) (m := fun (a, _, _, i, _) => (a.length + 1 - i).toNat) (good2_nil _) fun (a, b, ok, i, ()) Q hx => by
 obtain ⟨⟨g1, g2, g3⟩, hQ⟩ := hx
 exact h14L a b ok i Q g1 g2 g3 hQ
theorem ok14 : FnOk Try.prog 14 fcSame := fn1_of (n := 5) ((good2_nil _).addL2 ok14L) fun (a, b, ()) K hx => by
 obtain ⟨g1, hK⟩ := hx
 show xfn1 Try.prog { l2 := [(14, 0, lc14)] } 5 14 fcSame (a, b, ()) K
 rw [v14F]
 refine ⟨⟨Int.le_refl (0 : Int), g1, fun h => ?_⟩, fun r hr => hK r ?_⟩
 ·have h : (a.length : Int) = b.length := by simpa using h
  exact ⟨by omega, Int.natCast_nonneg _⟩
 ·rw [hr]
  simp only [List.drop_zero]
  show _ = decide (a = b)
  by_cases h : a = b
  ·subst h; simp
  ·rw [decide_eq_false h, Bool.and_false]
theorem okWorks' : FnOk Try.prog 19 fcWorks := okWorks
end Go.P8
