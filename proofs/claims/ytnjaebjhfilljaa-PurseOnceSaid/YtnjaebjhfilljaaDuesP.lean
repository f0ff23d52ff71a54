/- Dues: the code of both sides tells valid ones. No conditions. -/
import Derived.Test.YtnjaebjhfilljaaDuesS
import Derived.Test.YtnjaebjhfilljaaFairP
set_option linter.unusedSimpArgs false
set_option linter.unusedVariables false
set_option linter.constructorNameAsVariable false
set_option maxRecDepth 100000
namespace Go.P7
open Go.Lom Go.Proofs Go

theorem okD_iff {d : Int × Int} : okD d = true ↔ (0 ≤ d.1 ∧ d.1 ≤ 9) ∧ 0 ≤ d.2 ∧ d.2 ≤ 67108864 := by simp [okD]
theorem okD_not {d : Int × Int} (h : ¬ ((0 ≤ d.1 ∧ d.1 ≤ 9) ∧ 0 ≤ d.2 ∧ d.2 ≤ 67108864)) : okD d = false := by rw [Bool.eq_false_iff]; exact fun e => h (okD_iff.1 e)
theorem firstNo_ge (p : Int × Int → Bool) : ∀ (l : List (Int × Int)) (i : Int), 0 ≤ i → ((l.all p = true → firstNo p l i = -1) ∧ (l.all p = false → 0 ≤ firstNo p l i))
  | [], i, _ => ⟨fun _ => rfl, fun h => by simp at h⟩
  | x :: l, i, h => by
    obtain ⟨h1, h2⟩ := firstNo_ge p l (i + 1) (by omega)
    simp only [firstNo, List.all_cons]
    by_cases hp : p x = true
    · rw [if_pos hp, hp, Bool.true_and]; exact ⟨h1, h2⟩
    · rw [if_neg hp]; simp [hp, h]
theorem mLenD_lt {l : List (Int × Int)} {i : Int} (h : i < l.length) : mLenD l (i + 1) < mLenD l i := by unfold mLenD; omega

theorem h95L (l : List (Int × Int)) (m i : Int) (Q : LQ) : s95L l m i Q → xloop Try.prog [] [] 5 95 0 lc95 ex95 (fun x => mLenD x.1 x.2.2.2.1) (l, ((), ()), m, i, ()) Q := by
  intro ⟨⟨h0, h1, hm, h2⟩, hQ1, hQ2⟩
  rw [v95L]
  subst hm
  simp only [fork_iff, req_iff, decide_eq_true_eq, decide_eq_false_iff_not, Bool.not_eq_true', Bool.not_eq_false']
  have hbig : (big : Int) = 9223372036854775807 := rfl
  refine ⟨fun hi => ?_, fun hi => ?_⟩
  · rw [drop_step ((0 : Int), (0 : Int)) h0 hi] at hQ1 hQ2
    simp only [List.all_cons, firstNo] at hQ1 hQ2
    generalize l.getD i.toNat ((0 : Int), (0 : Int)) = y at *
    have bad : okD y = false → Q .ret (shSt shR4 (i, ())) := fun h => by rw [h] at hQ2; exact hQ2 rfl
    refine ⟨⟨h0, hi⟩, fun g1 => ⟨fun g2 => bad (okD_not (by omega)), fun g2 => ⟨fun g3 => ⟨fun g4 => bad (okD_not (by omega)), fun g4 => ?_⟩, fun g3 => bad (okD_not (by omega))⟩⟩, fun g1 => bad (okD_not (by omega))⟩
    have hx : okD y = true := okD_iff.2 ⟨⟨g1, g2⟩, g3, g4⟩
    rw [hx] at hQ1 hQ2
    exact ⟨inR_i64.2 (by omega), mLenD_lt hi, ⟨by omega, by omega, rfl, h2⟩, fun h => hQ1 h, fun h => hQ2 h⟩
  · rw [drop_end hi] at hQ1
    exact hQ1 rfl
theorem ok95L : LpOk Try.prog 95 0 lc95 := lp_of (n := 5) (ex := ex95) (m := fun x => mLenD x.1 x.2.2.2.1) (good_nil _) fun (l, ((), ()), m, i, ()) Q hx => h95L l m i Q hx
theorem h95F (l : List (Int × Int)) (K : dens [I] → Prop) : s95 l (fun r => K (r, ())) → xfn Try.prog [] [(95, 0, lc95)] 5 95 fc95 (l, ((), ()), ()) K := by
  intro ⟨h1, hK⟩
  rw [v95F]
  obtain ⟨g1, g2⟩ := firstNo_ge okD l 0 (by omega)
  refine ⟨⟨by omega, by omega, rfl, h1⟩, fun h => ?_, fun h => hK⟩
  rw [g1 h] at hK; exact hK
theorem ok95 : FnOk Try.prog 95 fc95 := fn_of (n := 5) ((good_nil _).addL ok95L) fun (l, ((), ()), ()) K hx => h95F l K hx
theorem h52F (l : List (Int × Int)) (K : dens [.b] → Prop) : sDues l (fun r => K (r, ())) → xfn Try.prog [(95, fc95)] [] 5 52 fcDues (l, ()) K := by
  intro ⟨h1, hK⟩
  rw [v52F]
  obtain ⟨g1, g2⟩ := firstNo_ge okD l 0 (by omega)
  simp only [fork_iff, decide_eq_true_eq, decide_eq_false_iff_not, validD] at hK ⊢
  refine ⟨fun a1 => ⟨h1, ?_⟩, fun a1 => ?_⟩
  · have e1 : decide (l.length ≤ 24) = true := decide_eq_true (by omega)
    rw [e1] at hK
    cases hc : l.all okD with
    | true => have := g1 hc; rw [this]; rw [hc] at hK; exact hK
    | false =>
      have := g2 hc
      rw [hc] at hK
      rw [show decide (firstNo okD l 0 ≥ 0) = true from decide_eq_true this]
      exact hK
  · have e1 : decide (l.length ≤ 24) = false := decide_eq_false (by omega)
    rw [e1] at hK; exact hK
theorem ok52 : FnOk Try.prog 52 fcDues := fn_of (n := 5) ((good_nil _).addF ok95) fun (l, ()) K hx => h52F l K hx

theorem h54L (l : List (Int × Int)) (i : Int) (Q : LQ) : s54L l i Q → xloop Try.prog [(24, fcFrom)] [] 5 54 0 lc54 ex54 (fun x => mLenD x.1 x.2.1) (l, i, ()) Q := by
  intro ⟨⟨h0, h1, h2⟩, hQ1, hQ2⟩
  rw [v54L]
  simp only [fork_iff, req_iff, decide_eq_true_eq, decide_eq_false_iff_not, Bool.not_eq_true', Bool.not_eq_false']
  have hbig : (big : Int) = 9223372036854775807 := rfl
  refine ⟨fun hi => ?_, fun hi => ?_⟩
  · rw [drop_step ((0 : Int), (0 : Int)) h0 hi] at hQ1 hQ2
    simp only [List.all_cons] at hQ1 hQ2
    generalize l.getD i.toNat ((0 : Int), (0 : Int)) = y at *
    have bad : okD y = false → Q .ret (shSt sh50R (false, ())) := fun h => by rw [h] at hQ2; exact hQ2 rfl
    refine ⟨⟨h0, hi⟩, fun g1 => bad (okD_not fun h => g1 h.1), fun g1 => ⟨⟨h0, hi⟩, fun g2 => bad (okD_not fun h => g2 h.2), fun g2 => ?_⟩⟩
    have hx : okD y = true := okD_iff.2 ⟨g1, g2⟩
    rw [hx] at hQ1 hQ2
    exact ⟨inR_i64.2 (by omega), mLenD_lt hi, ⟨by omega, by omega, h2⟩, fun h => hQ1 h, fun h => hQ2 h⟩
  · rw [drop_end hi] at hQ1
    exact hQ1 rfl
theorem ok54L : LpOk Try.prog 54 0 lc54 := lp_of (n := 5) (ex := ex54) (m := fun x => mLenD x.1 x.2.1) ((good_nil _).addF ok24) fun (l, i, ()) Q hx => h54L l i Q hx
theorem h54F (l : List (Int × Int)) (K : dens [.b] → Prop) : sDues l (fun r => K (r, ())) → xfn Try.prog [] [(54, 0, lc54)] 5 54 fcDues (l, ()) K := by
  intro ⟨h1, hK⟩
  rw [v54F]
  simp only [validD, List.drop_zero] at hK ⊢
  refine ⟨⟨by omega, by omega, h1⟩, fun hall => ?_, fun hall => ?_⟩
  · rw [hall] at hK
    rw [show decide (((l.length : Nat) : Int) ≤ 24) = decide (l.length ≤ 24) from by congr 1; exact propext (by omega)]
    simpa using hK
  · rw [hall] at hK; simpa using hK
theorem ok54 : FnOk Try.prog 54 fcDues := fn_of (n := 5) ((good_nil _).addL ok54L) fun (l, ()) K hx => h54F l K hx
end Go.P7
