/- Spread of both sides; the laws of shares and of ranks: the code answers true. No conditions. -/
import Derived.Test.YtnjaebjhfilljaaRanksS
import Derived.Test.YtnjaebjhfilljaaAloneP
import Derived.Test.YtnjaebjhfilljaaRanksL
set_option linter.constructorNameAsVariable false
set_option linter.unusedVariables false
set_option linter.unusedSimpArgs false
set_option maxRecDepth 100000
namespace Go.P7
open Go.Lom Go.Proofs Go

theorem spreadR_bad {l : List (Int × Int)} {s : Int} (h : validD l = false) : spreadR l s = ([], 0, 71) := by unfold spreadR; rw [if_neg (by rw [h]; simp)]
theorem spreadR_out {l : List (Int × Int)} {s : Int} (h : validD l = true) (h1 : ¬ (0 ≤ s ∧ s ≤ 34359738368)) : spreadR l s = ([], 0, 7) := by unfold spreadR; rw [if_pos h, if_neg h1]
theorem spreadR_ok {l : List (Int × Int)} {s : Int} (h : validD l = true) (h1 : 0 ≤ s ∧ s ≤ 34359738368) : spreadR l s = ((spreadL l s).1, (spreadL l s).2, 0) := by unfold spreadR; rw [if_pos h, if_pos h1]
theorem spreadR_cases {l : List (Int × Int)} {s : Int} {r : List Int} {n e : Int} (h : spreadR l s = (r, n, e)) : (e = 0 ∧ validD l = true ∧ 0 ≤ s ∧ s ≤ 34359738368 ∧ r = (spreadL l s).1 ∧ n = (spreadL l s).2) ∨ (e ≠ 0 ∧ r = [] ∧ n = 0) := by
  unfold spreadR at h
  split at h
  · rename_i hv
    split at h
    · rename_i hs; simp only [Prod.mk.injEq] at h; exact .inl ⟨h.2.2.symm, hv, hs.1, hs.2, h.1.symm, h.2.1.symm⟩
    · simp only [Prod.mk.injEq] at h; exact .inr ⟨by omega, h.1.symm, h.2.1.symm⟩
  · simp only [Prod.mk.injEq] at h; exact .inr ⟨by omega, h.1.symm, h.2.1.symm⟩
theorem spread_upto {l : List (Int × Int)} {s : Int} (hv : validD l = true) (h0 : 0 ≤ s) (h1 : s ≤ 34359738368) : Upto l s 10 (spreadL l s).1 (spreadL l s).2 :=
  upto_all hv 10 0 s _ _ _ (upto_start hv h0 h1) rfl

theorem h17F (l : List (Int × Int)) (s : Int) (K : dens [L, I, E] → Prop) : sSp l s (fun r n e => K (r, n, e, ())) → xfn Try.prog [(52, fcDues), (53, fcSpread)] [] 5 17 fcSp (l, s, ()) K := by
  intro ⟨h1, h2⟩
  rw [v17F]
  simp only [fork_iff, decide_eq_true_eq, decide_eq_false_iff_not, Bool.not_eq_true', Bool.not_eq_false']
  refine ⟨h1, fun h => h2 _ _ _ (spreadR_bad h), fun h => ⟨fun h3 => ⟨fun h4 => h2 _ _ _ (spreadR_out h (by omega)), fun h4 => ⟨⟨h, h3, h4⟩, fun o s' hs => ?_⟩⟩, fun h3 => h2 _ _ _ (spreadR_out h (by omega))⟩⟩
  refine h2 _ _ _ ?_
  rw [spreadR_ok h ⟨h3, h4⟩]; unfold spreadL; rw [hs]
theorem ok17 : FnOk Try.prog 17 fcSp := fn_of (n := 5) (((good_nil _).addF ok53).addF ok52) fun (l, s, ()) K hx => h17F l s K hx
theorem h18F (l : List (Int × Int)) (s : Int) (K : dens [L, I, E] → Prop) : sSp l s (fun r n e => K (r, n, e, ())) → xfn Try.prog [(54, fcDues), (55, fcSpread), (24, fcFrom)] [] 5 18 fcSp (l, s, ()) K := by
  intro ⟨h1, h2⟩
  rw [v18F]
  simp only [fork_iff, decide_eq_true_eq, decide_eq_false_iff_not, Bool.not_eq_true', Bool.not_eq_false']
  refine ⟨h1, fun h => h2 _ _ _ (spreadR_bad h), fun h => ⟨fun h3 => h2 _ _ _ (spreadR_out h h3), fun h3 => ⟨⟨h, h3.1, h3.2⟩, fun o s' hs => ?_⟩⟩⟩
  refine h2 _ _ _ ?_
  rw [spreadR_ok h h3]; unfold spreadL; rw [hs]
theorem ok18 : FnOk Try.prog 18 fcSp := fn_of (n := 5) ((((good_nil _).addF ok24).addF ok55).addF ok54) fun (l, s, ()) K hx => h18F l s K hx

theorem h3F (w : List Int) (l : List (Int × Int)) (s : Int) (K : dens [.b] → Prop) : sLaw3 w l (fun r => K (r, ())) → xfn Try.prog [(14, fcSh), (15, fcSh), (16, fcSame), (17, fcSp), (18, fcSp), (19, fcWorks)] [] 5 3 fc3 (w, l, s, ()) K := by
  intro ⟨⟨h1, h2⟩, hK⟩
  rw [v3F]
  simp only [fork_iff, decide_eq_true_eq, decide_eq_false_iff_not, Bool.not_eq_true', Bool.not_eq_false', bne_iff_ne, ne_eq, beq_iff_eq, bne_eq_false_iff_eq, beq_eq_false_iff_ne]
  refine ⟨h1, fun r e hre => ⟨h1, fun r1 e1 hre1 => ?_⟩⟩
  rw [hre] at hre1
  injection hre1 with a b
  subst a b
  have hlr : r.length ≤ 9223372036854775807 := by
    rcases shareR_cases hre with ⟨_, hv, h2, h3, rfl⟩ | ⟨_, rfl⟩
    · rw [(share_law hv h2).1.1]; exact h1
    · simp
  refine ⟨hlr, fun h => absurd rfl h, fun _ => ⟨fun h => absurd rfl h, fun _ => ⟨h2, fun r n e hre => ⟨h2, fun r1 n1 e1 hre1 => ?_⟩⟩⟩⟩
  rw [hre] at hre1
  simp only [Prod.mk.injEq] at hre1
  obtain ⟨a, b, c⟩ := hre1
  subst a b c
  have hlr : r.length ≤ 9223372036854775807 := by
    rcases spreadR_cases hre with ⟨_, hv, h3, h4, rfl, rfl⟩ | ⟨_, rfl, rfl⟩
    · rw [(spread_upto hv h3 h4).len]; exact h2
    · simp
  exact ⟨hlr, fun _ => ⟨fun _ => ⟨fun _ => hK, fun h => absurd rfl h⟩, fun h => absurd rfl h⟩, fun h => absurd rfl h⟩
theorem ok3 : FnOk Try.prog 3 fc3 := fn_of (n := 5) (((((((good_nil _).addF okWorks').addF ok18).addF ok17).addF okSame).addF ok15).addF ok14) fun (w, l, s, ()) K hx => h3F w l s K hx

theorem h8b (l : List (Int × Int)) (paid : List Int) (left : Int) (k : List Int) (i j : Int) (Q : LQ) : s8b l paid left k i j Q → xloop Try.prog [] [] 5 8 1 lc8b ex8b (fun x => mLenD x.1 x.2.2.2.2.2.1) (l, paid, left, k, i, j, ()) Q := by
  intro ⟨⟨hp, hi0, hi1, hj0, hj1⟩, hQ⟩
  rw [v8b]
  obtain ⟨hv, ⟨s, u⟩, hkl, hkp⟩ := id hp
  have hl := (ownR_range hv 0).2.1
  have ul := u.len
  simp only [fork_iff, req_iff, decide_eq_true_eq, decide_eq_false_iff_not]
  refine ⟨fun hj => ?_, fun hj => hQ⟩
  have go : inR .i64 (j + 1) = true ∧ mLenD l (j + 1) < mLenD l j ∧ LC.spec lc8b (l, paid, left, k, i, j + 1, ()) Q := ⟨inR_i64.2 (by omega), mLenD_lt hj, show s8b l paid left k i (j + 1) Q from ⟨⟨hp, hi0, hi1, by omega, by omega⟩, hQ⟩⟩
  have or := u.order i.toNat j.toNat (by omega) (by omega)
  have r1 := (validD_amt hv i.toNat (by omega)).1
  simp only [rk, am] at or r1
  refine ⟨by omega, by omega, fun h1 => ⟨by omega, by omega, fun h2 => ⟨by omega, fun h3 => ?_, fun _ => go⟩, fun _ => go⟩, fun _ => go⟩
  have := or h1 (by omega) h2
  omega
theorem ok8b : LpOk Try.prog 8 1 lc8b := lp_of (n := 5) (ex := ex8b) (m := fun x => mLenD x.1 x.2.2.2.2.2.1) (good_nil _) fun (l, paid, left, k, i, j, ()) Q hx => h8b l paid left k i j Q hx
theorem h8a (l : List (Int × Int)) (paid : List Int) (left : Int) (k : List Int) (i : Int) (Q : LQ) : s8a l paid left k i Q → xloop Try.prog [(24, fcFrom)] [(8, 1, lc8b)] 5 8 0 lc8a ex8a (fun x => mLenD x.1 x.2.2.2.2.1) (l, paid, left, k, i, ()) Q := by
  intro ⟨⟨hp, hi0, hi1⟩, hQ⟩
  rw [v8a]
  obtain ⟨hv, ⟨s, u⟩, hkl, hkp⟩ := id hp
  have hl := (ownR_range hv 0).2.1
  have ul := u.len
  have ul0 := u.left0
  simp only [fork_iff, req_iff, decide_eq_true_eq, decide_eq_false_iff_not, Bool.not_eq_true', Bool.not_eq_false']
  refine ⟨fun hi => ?_, fun hi => hQ⟩
  have go : (p8 l paid left k ∧ (0 : Int) ≤ i ∧ i < (↑(List.length l) : Int) ∧ (0 : Int) ≤ (0 : Int) ∧ (0 : Int) ≤ (↑(List.length l) : Int)) ∧ inR .i64 (i + 1) = true ∧ mLenD l (i + 1) < mLenD l i ∧ LC.spec lc8a (l, paid, left, k, i + 1, ()) Q :=
    ⟨⟨hp, hi0, hi, by omega, by omega⟩, inR_i64.2 (by omega), mLenD_lt hi, show s8a l paid left k (i + 1) Q from ⟨⟨hp, by omega, by omega⟩, hQ⟩⟩
  have rg := u.rng i.toNat (by omega)
  have fu := u.full i.toNat (by omega)
  have r1 := (validD_amt hv i.toNat (by omega)).1
  have kp := hkp i.toNat (by omega)
  simp only [rk, am] at rg fu r1
  refine ⟨by omega, by omega, fun h => absurd rg h, fun _ => ⟨by omega, by omega, fun h1 => ⟨fun h2 => ?_, fun _ => ⟨by omega, by omega, fun h3 => by omega, fun _ => go⟩⟩, fun _ => ⟨by omega, by omega, fun h3 => by omega, fun _ => go⟩⟩⟩
  have := fu (by omega) h1; omega
theorem ok8a : LpOk Try.prog 8 0 lc8a := lp_of (n := 5) (ex := ex8a) (m := fun x => mLenD x.1 x.2.2.2.2.1) (((good_nil _).addL ok8b).addF ok24) fun (l, paid, left, k, i, ()) Q hx => h8a l paid left k i Q hx
theorem ringI_range {n m : Int} (h : 0 < m) : 0 ≤ ringI n m ∧ ringI n m < m := by
  unfold ringI
  rw [if_neg (by omega)]
  have h1 := Int.lt_tmod_of_pos n h
  have h2 := Int.tmod_lt_of_pos n h
  rw [Int.tmod_eq_emod_of_nonneg (by omega : 0 ≤ n.tmod m + m)]
  exact ⟨Int.emod_nonneg _ (by omega), Int.emod_lt_of_pos _ h⟩
theorem h8F (l : List (Int × Int)) (s more : Int) (K : dens [.b] → Prop) : sLaw8 l (fun r => K (r, ())) → xfn Try.prog [(17, fcSp), (23, fcSum), (26, fcRing), (19, fcWorks)] [(8, 0, lc8a)] 5 8 fc8 (l, s, more, ()) K := by
  intro ⟨h1, hK⟩
  rw [v8F]
  simp only [fork_iff, req_iff, decide_eq_true_eq, decide_eq_false_iff_not, Bool.not_eq_true', Bool.not_eq_false', bne_iff_ne, ne_eq, beq_iff_eq, bne_eq_false_iff_eq, beq_eq_false_iff_ne]
  refine ⟨h1, fun r n e hre => ?_⟩
  rcases spreadR_cases hre with ⟨rfl, hv, h2, h3, rfl, rfl⟩ | ⟨he, rfl, rfl⟩
  · have u := spread_upto hv h2 h3
    have hl := (ownR_range hv 0).2.1
    have ul := u.len
    have ul0 := u.left0
    have us := u.sum
    have rb : ∀ x ∈ (spreadL l s).1, 0 ≤ x ∧ x ≤ 67108864 := fun x hx => by
      obtain ⟨i, hi, hxi⟩ := List.mem_iff_getElem.1 hx
      have := u.rng i (by omega)
      have := (validD_amt hv i (by omega)).2
      rw [List.getD_eq_getElem?_getD, List.getElem?_eq_getElem hi, hxi] at *
      simp only [Option.getD_some] at *
      omega
    refine ⟨fun h => absurd rfl h, fun _ => ⟨fun h => absurd (by omega) h, fun _ => ⟨⟨by omega, fitS_of rb (by omega) (by omega) (by omega)⟩, inR_i64.2 (by omega), fun h => absurd us h, fun _ => ⟨fun h => by omega, fun _ => ⟨by omega, fun r1 hr1 => ?_⟩⟩⟩⟩⟩
    have hr := ringI_range (n := more) (m := 1000) (by omega)
    rw [← hr1] at hr
    refine ⟨inR_i64.2 (by omega), h1, fun r2 n2 e2 hre2 => ?_⟩
    generalize ht : (if s + r1 < 34359738368 then s + r1 else 34359738368) = t at hre2
    have ht2 : s ≤ t ∧ t ≤ 34359738368 := by subst ht; split <;> omega
    rw [spreadR_ok hv ⟨by omega, ht2.2⟩] at hre2
    simp only [Prod.mk.injEq] at hre2
    obtain ⟨rfl, rfl, rfl⟩ := hre2
    have u2 := spread_upto hv (by omega : 0 ≤ t) ht2.2
    have ul2 := u2.len
    have mo := spread_more hv 10 0 s t _ _ (by simp : (l.map fun _ => (0 : Int)).length = l.length) (by simp : (l.map fun _ => (0 : Int)).length = l.length) h2 ht2.1 ht2.2 (fun k _ => Int.le_refl _)
    refine ⟨fun h => absurd rfl h, fun _ => ⟨fun h => absurd (by omega) h, fun _ => ⟨fun h => ?_, fun _ => ⟨⟨⟨hv, ⟨s, u⟩, ul2, mo.2⟩, by omega, by omega⟩, hK⟩⟩⟩⟩
    have := mo.1
    unfold spreadL at h
    omega
  · exact ⟨fun _ => ⟨fun _ => ⟨fun _ => hK, fun h => absurd rfl h⟩, fun h => absurd rfl h⟩, fun h => absurd h he⟩
theorem ok8 : FnOk Try.prog 8 fc8 := fn_of (n := 5) (((((good_nil _).addL ok8a).addF okWorks').addF ok26).addF okSum |>.addF ok17) fun (l, s, more, ()) K hx => h8F l s more K hx
end Go.P7
