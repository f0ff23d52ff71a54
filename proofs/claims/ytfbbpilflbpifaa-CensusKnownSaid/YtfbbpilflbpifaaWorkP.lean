/- The chapter's examples hold. No conditions. -/
import Derived.Test.YtfbbpilflbpifaaRankQ
set_option linter.constructorNameAsVariable false
set_option linter.unusedVariables false
set_option linter.unusedSimpArgs false
set_option maxRecDepth 100000
set_option maxHeartbeats 4000000
namespace Go.P10
open Go.Lom Go.Proofs Go
theorem same_step {a b : List Int} {i : Int} (h0 : 0 ≤ i) (h1 : i < a.length) (h2 : i < b.length) : decide (a.drop i.toNat = b.drop i.toNat) = ((a.getD i.toNat 0 == b.getD i.toNat 0) && decide (a.drop (i + 1).toNat = b.drop (i + 1).toNat)) := by
  rw [drop_step 0 h0 h1, drop_step 0 h0 h2]
  by_cases h : a.getD i.toNat 0 = b.getD i.toNat 0
  · rw [h]; simp
  · rw [decide_eq_false (fun e => h (List.cons.inj e).1), beq_eq_false_iff_ne.2 h]; rfl
theorem h18L (a b : List Int) (ok : Bool) (i : Int) (Q : AX → St → Prop) (h0 : 0 ≤ i) (hb : a.length ≤ big) (ho : ok = true → a.length = b.length ∧ i ≤ a.length) (hQ : ∀ r : Bool, r = (ok && decide (a.drop i.toNat = b.drop i.toNat)) → Q (.exit 0) (stS 0 sh18e (r, ()))) :
    xloop2 Try.prog {} 5 18 0 lc18 (fun _ => some (sh18e, 0)) (fun (a, _, _, i, _) => (a.length + 1 - i).toNat) (a, b, ok, i, ()) Q := by
  rw [v18L]
  have hbig : (big : Int) = 9223372036854775807 := rfl
  simp only [fork_iff, req_iff, decide_eq_true_eq, decide_eq_false_iff_not]
  refine ⟨fun hk => ?_, fun hk => hQ ok (by rw [hk]; rfl)⟩
  obtain ⟨o1, o2⟩ := ho hk
  refine ⟨fun hi => ⟨⟨h0, hi⟩, ⟨h0, by omega⟩, inR_i64.2 (by omega), ?_, ⟨⟨show (0 : Int) ≤ i + 1 by omega, hb, fun _ => ⟨o1, show i + 1 ≤ (a.length : Int) by omega⟩⟩, fun r hr => hQ r ?_⟩⟩, fun hi => hQ ok (by rw [drop_end hi, drop_end (l := b) (by omega)]; simp)⟩
  · show ((a.length : Int) + 1 - (i + 1)).toNat < ((a.length : Int) + 1 - i).toNat
    omega
  · rw [hk, Bool.true_and, same_step h0 hi (by omega)]; exact hr
theorem ok18L : Lp2Ok Try.prog 18 0 lc18 := lp2_of (n := 5) (ex := fun _ => some (sh18e, 0)) (m := fun (a, _, _, i, _) => (a.length + 1 - i).toNat) (good2_nil _) fun (a, b, ok, i, ()) Q hx => by
  obtain ⟨⟨g1, g2, g3⟩, hQ⟩ := hx
  exact h18L a b ok i Q g1 g2 g3 hQ
theorem ok18 : FnOk Try.prog 18 fcSame := fn1_of (n := 5) ((good2_nil _).addL2 ok18L) fun (a, b, ()) K hx => by
  obtain ⟨g1, hK⟩ := hx
  have hK : ∀ r : Bool, r = decide (a = b) → K (r, ()) := hK
  rw [v18F]
  refine ⟨⟨Int.le_refl (0 : Int), g1, fun h => ?_⟩, fun r hr => hK r ?_⟩
  · have h : (a.length : Int) = b.length := by simpa using h
    exact ⟨by omega, Int.natCast_nonneg _⟩
  · rw [hr]
    simp only [List.drop_zero]
    by_cases h : a = b
    · subst h; simp
    · rw [decide_eq_false h, Bool.and_false]
theorem okLeast : FnOk Try.prog 16 fcLeast := fun x K hx => ok16 x K ⟨hx.1, fun s c e h => hx.2 s c e (leastV_of h)⟩
theorem v52c (K : dens [L, I, E] → Prop) : xfn1 Try.prog { un := 1064 } 5 52 fcPat1 ([10, 30], ()) K = K ([16, 48], 480, 0, ()) := by kernel_rfl
theorem okPat1 : FnOk Try.prog 52 fcPat1 := fn1_of (n := 5) (good2_un 1064) fun x K hx => by
  obtain ⟨rfl, hK⟩ := hx
  rw [v52c]; exact hK
theorem okRank1 : FnOk Try.prog 35 fcRank1 := fun x K hx => by
  obtain ⟨rfl, hK⟩ := hx
  refine ok35 _ K ⟨show 3 ≤ big by decide, fun r e h => ?_⟩
  have h : (r, e) = ((4 : Int), (0 : Int)) := h.trans (by kernel_rfl)
  injection h with h1 h2
  rw [h1, h2]; exact hK
theorem okDraw1 : FnOk Try.prog 39 fcDraw1 := fun x K hx => by
  obtain ⟨rfl, hK⟩ := hx
  refine ok39 _ K ⟨show 3 ≤ big by decide, fun r e h => ?_⟩
  have h : (r, e) = (([2, 0] : List Int), (0 : Int)) := h.trans (by kernel_rfl)
  injection h with h1 h2
  rw [h1, h2]; exact hK
def auE : Au := ([4, 3], [2, 3], 2, 700)
def ps1 : List Int := [2, 4, 4]
def ps2 : List Int := [2, 3, 3]
theorem ok_ps1 : okPs ps1 := ⟨by decide, by decide⟩
theorem ok_ps2 : okPs ps2 := ⟨by decide, by decide⟩
def set1 : List Ag := [zA, (0, 1, 1, 0, 0), (1, 0, 2, 0, 0), (0, 1, 3, 0, 0), (1, 2, 0, 0, 0), (0, 3, 1, 0, 0)]
theorem ever1 : ∀ a ∈ set1, Ever ps1 a := ever_set (by
  intro a ha
  have : ∀ a ∈ set1, set1.any (fun b => (sucL ps1 a 0).contains b) = true := by decide +kernel
  obtain ⟨b, hb, h⟩ := List.any_eq_true.1 (this a ha)
  exact ⟨b, hb, by simpa using h⟩)
theorem dead_of {ps : List Int} {a b : Ag} {k n : Nat} (h : nextR ps a k = some b) (hd : aliveB ps n b = false) : ¬ goodR ps a k := fun ⟨c, h1, h2⟩ => by
  rw [h] at h1; injection h1 with h1; subst h1
  rw [h2 n] at hd; cases hd
theorem none_of {ps : List Int} {a : Ag} {k : Nat} (h : nextR ps a k = none) : ¬ goodR ps a k := fun ⟨c, h1, h2⟩ => by rw [h] at h1; cases h1
theorem gr_ex : Gr ps1 6 zA [0, 1, 0, 2, 0, 1] := by
  have m : ∀ a, set1.contains a = true → Ever ps1 a := fun a h => ever1 a (by simpa using h)
  refine .cons (r := 0) (b := (0, 1, 1, 0, 0)) ⟨by decide, by decide +kernel, m _ (by decide), fun k hk => by omega⟩ ?_
  refine .cons (r := 1) (b := (1, 0, 2, 0, 0)) ⟨by decide, by decide +kernel, m _ (by decide), fun k hk => ?_⟩ ?_
  · obtain rfl : k = 0 := by omega
    exact dead_of (b := (0, 2, 2, 0, 0)) (n := 8) (by decide +kernel) (by decide +kernel)
  refine .cons (r := 0) (b := (0, 1, 3, 0, 0)) ⟨by decide, by decide +kernel, m _ (by decide), fun k hk => by omega⟩ ?_
  refine .cons (r := 2) (b := (1, 2, 0, 0, 0)) ⟨by decide, by decide +kernel, m _ (by decide), fun k hk => ?_⟩ ?_
  · have : k = 0 ∨ k = 1 := by omega
    rcases this with rfl | rfl
    · exact none_of (by decide +kernel)
    · exact none_of (by decide +kernel)
  refine .cons (r := 0) (b := (0, 3, 1, 0, 0)) ⟨by decide, by decide +kernel, m _ (by decide), fun k hk => by omega⟩ ?_
  refine .cons (r := 1) (b := (1, 0, 2, 0, 0)) ⟨by decide, by decide +kernel, m _ (by decide), fun k hk => ?_⟩ (.nil _)
  obtain rfl : k = 0 := by omega
  exact none_of (by decide +kernel)
theorem turns_ex {l : List Int} {e : Int} (h : TurnsR ps1 6 l e) : l = [0, 1, 0, 2, 0, 1] ∧ e = 0 :=
  turnsR_uniq h (.inr (.inr (.inr ⟨ok_ps1, ⟨by decide, by decide⟩, ever1 zA (by decide), gr_ex, rfl⟩)))
theorem dead4 : aliveB ps2 4 zA = false := by decide +kernel
theorem alive3 : aliveB ps2 3 zA = true := by decide +kernel
theorem not_ever2 : ¬ Ever ps2 zA := fun he => by have := he 4; rw [dead4] at this; cases this
theorem alive_ex (k : Nat) : aliveB ps2 k zA = true ↔ (k : Int) ≤ 3 := by
  constructor
  · intro hk
    by_cases h4 : k ≤ 3
    · omega
    · have := alive_le (m := 4) (by omega) hk
      rw [dead4] at this; cases this
  · intro hk
    exact alive_le (n := 3) (by omega) alive3
theorem lasts_ex {n e : Int} (h : LastsR ps2 n e) : n = 3 ∧ e = 0 :=
  lastsR_uniq h (.inr (.inr ⟨ok_ps2, not_ever2, by decide, alive_ex, rfl⟩))
theorem okWorks : FnOk Try.prog 19 fcWorks := fn1_of (n := 5) (((((((((good2_nilN _).addF ok18).addF ok46).addF ok44).addF okDraw1).addF okRank1).addF okPat1).addF okLeast).addF ok23 |>.addF ok20) fun x K hK => by
  have hK : K (true, ()) := hK
  rw [v19]
  have hb : bigs auE := ⟨by decide, by decide⟩
  refine ⟨⟨hb, by decide, by decide⟩, fun n m e h1 => ⟨⟨hb, by decide⟩, fun l n2 m2 e2 h2 => ⟨hb, fun s c e3 h3 => ⟨rfl, ?_⟩⟩⟩⟩
  have h1 : (n, m, e) = ((3 : Int), (18 : Int), (0 : Int)) := h1.trans (by decide +kernel)
  have h2 : (l, n2, m2, e2) = (([0, 2] : List Int), (6 : Int), (18 : Int), (0 : Int)) := h2.trans (by decide +kernel)
  have h3 : (s, c, e3) = (([2, 2] : List Int), (10 : Int), (0 : Int)) := h3.trans (by decide +kernel)
  simp only [Prod.mk.injEq] at h1 h2 h3
  obtain ⟨rfl, rfl, rfl⟩ := h1
  obtain ⟨rfl, rfl, rfl, rfl⟩ := h2
  obtain ⟨rfl, rfl, rfl⟩ := h3
  refine ⟨by decide, fun r hr => ?_⟩
  subst hr
  refine ⟨by decide, fun r hr => ?_⟩
  subst hr
  refine ⟨by decide, fun r hr => ?_⟩
  subst hr
  refine ⟨rfl, rfl, by decide, fun t e4 h4 => ⟨by decide, fun n5 e5 h5 => ?_⟩⟩
  obtain ⟨rfl, rfl⟩ := turns_ex h4
  obtain ⟨rfl, rfl⟩ := lasts_ex h5
  refine ⟨by decide, fun r hr => ?_⟩
  subst hr
  refine ⟨by decide, fun r hr => ?_⟩
  subst hr
  exact hK
end Go.P10
