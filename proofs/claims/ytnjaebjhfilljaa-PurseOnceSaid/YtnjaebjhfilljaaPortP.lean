/- Lots: words, first places, names: the code keeps its contracts. No conditions. -/
import Derived.Test.YtnjaebjhfilljaaPortS
import Derived.Test.YtnjaebjhfilljaaRanksP
set_option linter.constructorNameAsVariable false
set_option linter.unusedVariables false
set_option linter.unusedSimpArgs false
set_option maxRecDepth 100000
namespace Go.P7
open Go.Lom Go.Proofs Go

theorem mL_lt {α : Type} {l : List α} {i : Int} (h : i < l.length) : mL l (i + 1) < mL l i := by unfold mL; omega
theorem letterB_iff {c : UInt8} : letterB c = true ↔ 97 ≤ (c.toNat : Int) ∧ (c.toNat : Int) ≤ 122 := by simp only [letterB, decide_eq_true_eq]
theorem charB_iff {c : UInt8} : charB c = true ↔ (97 ≤ (c.toNat : Int) ∧ (c.toNat : Int) ≤ 122) ∨ (48 ≤ (c.toNat : Int) ∧ (c.toNat : Int) ≤ 57) ∨ (c.toNat : Int) = 45 := by
  simp only [charB, letterB, Bool.or_eq_true, decide_eq_true_eq, or_assoc]
theorem charB_not {c : UInt8} (h : ¬ ((97 ≤ (c.toNat : Int) ∧ (c.toNat : Int) ≤ 122) ∨ (48 ≤ (c.toNat : Int) ∧ (c.toNat : Int) ≤ 57) ∨ (c.toNat : Int) = 45)) : charB c = false := by
  rw [Bool.eq_false_iff]; exact fun e => h (charB_iff.1 e)
theorem letterB_not {c : UInt8} (h : ¬ (97 ≤ (c.toNat : Int) ∧ (c.toNat : Int) ≤ 122)) : letterB c = false := by
  rw [Bool.eq_false_iff]; exact fun e => h (letterB_iff.1 e)

theorem h56L (s : Tx) (m i : Int) (Q : LQ) : s56L s m i Q → xloop Try.prog [] [] 5 56 0 lc56 ex56 (fun x => mL x.1 x.2.2.1) (s, m, i, ()) Q := by
  intro ⟨⟨h0, h1, hm, h2⟩, hQ1, hQ2⟩
  rw [v56L]
  subst hm
  simp only [fork_iff, req_iff, decide_eq_true_eq, decide_eq_false_iff_not, bne_iff_ne, ne_eq, bne_eq_false_iff_eq]
  refine ⟨fun hi => ?_, fun hi => ?_⟩
  · rw [drop_step (0 : UInt8) h0 hi] at hQ1 hQ2
    simp only [List.all_cons] at hQ1 hQ2
    generalize s.getD i.toNat (0 : UInt8) = c at *
    have bad : charB c = false → Q .ret (shSt shR2 (false, ())) := fun h => by rw [h] at hQ2; exact hQ2 rfl
    have go : charB c = true → inR .i64 (i + 1) = true ∧ mL s (i + 1) < mL s i ∧ LC.spec lc56 (s, (s.length : Int), i + 1, ()) Q := fun h => by
      rw [h] at hQ1 hQ2
      exact ⟨inR_i64.2 (by omega), mL_lt hi, show s56L s s.length (i + 1) Q from ⟨⟨by omega, by omega, rfl, h2⟩, hQ1, hQ2⟩⟩
    refine ⟨⟨h0, hi⟩, ?_⟩
    repeat' (first | exact bad (charB_not (by omega)) | exact go (charB_iff.2 (by omega)) | intro _ | refine And.intro ?_ ?_)
  · rw [drop_end hi] at hQ1
    exact hQ1 rfl
theorem ok56L : LpOk Try.prog 56 0 lc56 := lp_of (n := 5) (ex := ex56) (m := fun x => mL x.1 x.2.2.1) (good_nil _) fun (s, m, i, ()) Q hx => h56L s m i Q hx
theorem h56F (s : Tx) (K : dens [.b] → Prop) : sWord s (fun r => K (r, ())) → xfn Try.prog [] [(56, 0, lc56)] 5 56 fcWord (s, ()) K := by
  intro ⟨h1, hK⟩
  rw [v56F]
  simp only [fork_iff, req_iff, decide_eq_true_eq, decide_eq_false_iff_not, beq_iff_eq, beq_eq_false_iff_ne, ne_eq, List.drop_zero]
  simp only [wordB] at hK
  have no : decide (1 ≤ s.length ∧ s.length ≤ 16) = false ∨ letterB (s.getD 0 0) = false → K (false, ()) := fun h => by
    rcases h with h | h <;> rw [h] at hK <;> simpa using hK
  refine ⟨fun h => no (.inl (decide_eq_false (by omega))), fun h2 => ⟨fun h => no (.inl (decide_eq_false (by omega))), fun h3 => ⟨by omega, fun h => no (.inr (letterB_not (by omega))), fun h4 => ⟨by omega, fun h => no (.inr (letterB_not (by omega))), fun h5 => ⟨⟨by omega, by omega, trivial, by omega⟩, fun h => ?_, fun h => ?_⟩⟩⟩⟩⟩
  all_goals
    rw [decide_eq_true (show 1 ≤ s.length ∧ s.length ≤ 16 by omega), letterB_iff.2 (by omega), h] at hK
    exact hK
theorem ok56 : FnOk Try.prog 56 fcWord := fn_of (n := 5) ((good_nil _).addL ok56L) fun (s, ()) K hx => h56F s K hx
theorem h60L (s : Tx) (i : Int) (Q : LQ) : s60L s i Q → xloop Try.prog [] [] 5 60 0 lc60 ex60 (fun x => mL x.1 x.2.1) (s, i, ()) Q := by
  intro ⟨⟨h0, h1, h2⟩, hQ1, hQ2⟩
  rw [v60L]
  have hbig : (big : Int) = 9223372036854775807 := rfl
  simp only [fork_iff, req_iff, decide_eq_true_eq, decide_eq_false_iff_not, bne_iff_ne, ne_eq, bne_eq_false_iff_eq, beq_iff_eq, beq_eq_false_iff_ne, Bool.not_eq_true', Bool.not_eq_false']
  refine ⟨fun hi => ?_, fun hi => ?_⟩
  · have hd := drop_step (0 : UInt8) h0 hi
    have e0 : i = 0 → s.getD 0 0 = s.getD i.toNat 0 := fun e => by subst e; rfl
    have gf : goodFrom s i = (charB (s.getD i.toNat 0) && (s.drop (i + 1).toNat).all charB && (decide (0 < i ∨ s.length = 0) || letterB (s.getD 0 0))) := by
      unfold goodFrom; rw [hd, List.all_cons]
    have gn : goodFrom s (i + 1) = (s.drop (i + 1).toNat).all charB := by
      unfold goodFrom; rw [decide_eq_true (.inl (by omega))]; simp
    generalize s.getD i.toNat (0 : UInt8) = c at *
    have bad : charB c = false ∨ (i = 0 ∧ letterB c = false) → Q .ret (shSt shR2 (false, ())) := fun h => hQ2 (by
      rw [gf]
      rcases h with h | ⟨h, h'⟩
      · rw [h]; rfl
      · rw [e0 h, h', decide_eq_false (by omega)]; simp)
    have go : charB c = true → (i ≠ 0 ∨ letterB c = true) → inR .i64 (i + 1) = true ∧ mL s (i + 1) < mL s i ∧ LC.spec lc60 (s, i + 1, ()) Q := fun h h' => by
      have ge : goodFrom s i = goodFrom s (i + 1) := by
        rw [gf, gn, h, Bool.true_and]
        by_cases hi0 : i = 0
        · rw [e0 hi0]
          rcases h' with h' | h'
          · exact absurd hi0 h'
          · rw [h']; simp
        · rw [decide_eq_true (.inl (by omega))]; simp
      rw [ge] at hQ1 hQ2
      exact ⟨inR_i64.2 (by omega), mL_lt hi, show s60L s (i + 1) Q from ⟨⟨by omega, by omega, h2⟩, hQ1, hQ2⟩⟩
    refine ⟨⟨h0, hi⟩, ?_⟩
    repeat' (first
      | exact bad (.inl (charB_not (by omega)))
      | exact bad (.inr ⟨by omega, letterB_not (by omega)⟩)
      | exact go (charB_iff.2 (by omega)) (.inl (by omega))
      | exact go (charB_iff.2 (by omega)) (.inr (letterB_iff.2 (by omega)))
      | intro _
      | refine And.intro ?_ ?_)
  · refine hQ1 ?_
    unfold goodFrom
    rw [drop_end hi, decide_eq_true (by omega)]; rfl
theorem ok60L : LpOk Try.prog 60 0 lc60 := lp_of (n := 5) (ex := ex60) (m := fun x => mL x.1 x.2.1) (good_nil _) fun (s, i, ()) Q hx => h60L s i Q hx
theorem h60F (s : Tx) (K : dens [.b] → Prop) : sWord s (fun r => K (r, ())) → xfn Try.prog [(24, fcFrom)] [(60, 0, lc60)] 5 60 fcWord (s, ()) K := by
  intro ⟨h1, hK⟩
  rw [v60F]
  simp only [wordB] at hK
  have gf : goodFrom s 0 = (s.all charB && (decide (s.length = 0) || letterB (s.getD 0 0))) := by
    unfold goodFrom
    have e1 : decide ((0 : Int) < 0 ∨ s.length = 0) = decide (s.length = 0) := by congr 1; simp
    rw [e1]; simp
  refine ⟨⟨by omega, by omega, h1⟩, fun h => ?_, fun h => ?_⟩
  · rw [gf, Bool.and_eq_true, Bool.or_eq_true, decide_eq_true_eq] at h
    rw [h.1] at hK
    by_cases hz : s.length = 0
    · rw [decide_eq_false (by omega)] at hK ⊢; exact hK
    · rw [h.2.resolve_left hz] at hK
      rw [show decide ((1 : Int) ≤ s.length ∧ (s.length : Int) ≤ 16) = decide (1 ≤ s.length ∧ s.length ≤ 16) from by congr 1; exact propext (by omega)]
      simpa using hK
  · rw [gf] at h
    by_cases hz : s.length = 0
    · rw [decide_eq_false (show ¬ (1 ≤ s.length ∧ s.length ≤ 16) by omega)] at hK; exact hK
    · rw [decide_eq_false hz, Bool.false_or] at h
      rw [Bool.and_assoc, Bool.and_comm (letterB _), h] at hK
      simpa using hK
theorem ok60 : FnOk Try.prog 60 fcWord := fn_of (n := 5) (((good_nil _).addL ok60L).addF ok24) fun (s, ()) K hx => h60F s K hx

theorem firstIx_ge {α : Type} (p : α → Bool) : ∀ (l : List α) (i : Int), 0 ≤ i → ((l.any p = false → firstIx p l i = -1) ∧ (l.any p = true → 0 ≤ firstIx p l i))
  | [], i, _ => ⟨fun _ => rfl, fun h => by simp at h⟩
  | x :: l, i, h => by
    obtain ⟨h1, h2⟩ := firstIx_ge p l (i + 1) (by omega)
    simp only [firstIx, List.any_cons]
    by_cases hp : p x = true
    · rw [if_pos hp, hp]; simp [h]
    · rw [if_neg hp]; simp only [Bool.not_eq_true] at hp; rw [hp, Bool.false_or]; exact ⟨h1, h2⟩
theorem h87La (l : List Pa) (q : Pa) (m i : Int) (Q : LQ) : s87L (sameN q) l m i Q → xloop Try.prog [] [] 5 87 0 lc87a ex87 (fun x => mL x.1 x.2.2.2.1) (l, ((), (q, ())), m, i, ()) Q := by
  intro ⟨⟨h0, h1, hm, h2⟩, hQ1, hQ2⟩
  rw [v87La]
  subst hm
  simp only [fork_iff, req_iff, decide_eq_true_eq, decide_eq_false_iff_not, beq_iff_eq, beq_eq_false_iff_ne, ne_eq]
  refine ⟨fun hi => ?_, fun hi => ?_⟩
  · rw [drop_step (([], 0, []) : Pa) h0 hi] at hQ1 hQ2
    simp only [List.any_cons, firstIx] at hQ1 hQ2
    generalize l.getD i.toNat (([], 0, []) : Pa) = c at *
    refine ⟨⟨h0, hi⟩, fun h => ?_, fun h => ?_⟩
    · have e : sameN q c = true := decide_eq_true h
      rw [e] at hQ2
      exact hQ2 rfl
    · have e : sameN q c = false := decide_eq_false h
      rw [e] at hQ1 hQ2
      exact ⟨inR_i64.2 (by omega), mL_lt hi, show s87L (sameN q) l l.length (i + 1) Q from ⟨⟨by omega, by omega, rfl, h2⟩, hQ1, hQ2⟩⟩
  · rw [drop_end hi] at hQ1
    exact hQ1 rfl
theorem ok87La : LpOk Try.prog 87 0 lc87a := lp_of (n := 5) (ex := ex87) (m := fun x => mL x.1 x.2.2.2.1) (good_nil _) fun (l, ((), (q, ())), m, i, ()) Q hx => h87La l q m i Q hx
theorem h87Fa (l : List Pa) (q : Pa) (K : dens [I] → Prop) : s87 (sameN q) l (fun r => K (r, ())) → xfn Try.prog [] [(87, 0, lc87a)] 5 87 fc87a (l, ((), (q, ())), ()) K := by
  intro ⟨h1, hK⟩
  rw [v87Fa]
  refine ⟨⟨by omega, by omega, rfl, h1⟩, fun h => ?_, fun h => hK⟩
  rw [(firstIx_ge _ l 0 (by omega)).1 h] at hK; exact hK
theorem ok87a : FnOk Try.prog 87 fc87a := fn_of (n := 5) ((good_nil _).addL ok87La) fun (l, ((), (q, ())), ()) K hx => h87Fa l q K hx
theorem h87Lb (l : List Pa) (m i : Int) (Q : LQ) (hl : ∀ p ∈ l, p.2.2.length ≤ big) : s87L badDues l m i Q → xloop Try.prog [(52, fcDues)] [] 5 87 0 lc87b ex87 (fun x => mL x.1 x.2.2.2.1) (l, ((), ()), m, i, ()) Q := by
  intro ⟨⟨h0, h1, hm, h2⟩, hQ1, hQ2⟩
  rw [v87Lb]
  subst hm
  simp only [fork_iff, req_iff, decide_eq_true_eq, decide_eq_false_iff_not, Bool.not_eq_true', Bool.not_eq_false']
  refine ⟨fun hi => ?_, fun hi => ?_⟩
  · have hb : (l.getD i.toNat (([], 0, []) : Pa)).2.2.length ≤ big := by
      rw [List.getD_eq_getElem?_getD, List.getElem?_eq_getElem (by omega : i.toNat < l.length)]
      exact hl _ (List.getElem_mem _)
    rw [drop_step (([], 0, []) : Pa) h0 hi] at hQ1 hQ2
    simp only [List.any_cons, firstIx] at hQ1 hQ2
    generalize l.getD i.toNat (([], 0, []) : Pa) = c at *
    refine ⟨⟨h0, hi⟩, hb, fun h => ?_, fun h => ?_⟩
    · have e : badDues c = true := by unfold badDues; rw [h]; rfl
      rw [e] at hQ2
      exact hQ2 rfl
    · have e : badDues c = false := by unfold badDues; rw [h]; rfl
      rw [e] at hQ1 hQ2
      exact ⟨inR_i64.2 (by omega), mL_lt hi, hl, show s87L badDues l l.length (i + 1) Q from ⟨⟨by omega, by omega, rfl, h2⟩, hQ1, hQ2⟩⟩
  · rw [drop_end hi] at hQ1
    exact hQ1 rfl
theorem ok87Lb : LpOk Try.prog 87 0 lc87b := lp_of (n := 5) (ex := ex87) (m := fun x => mL x.1 x.2.2.2.1) ((good_nil _).addF ok52) fun (l, ((), ()), m, i, ()) Q hx => h87Lb l m i Q hx.1 hx.2
theorem h87Fb (l : List Pa) (K : dens [I] → Prop) : ((∀ p ∈ l, p.2.2.length ≤ big) ∧ s87 badDues l (fun r => K (r, ()))) → xfn Try.prog [] [(87, 0, lc87b)] 5 87 fc87b (l, ((), ()), ()) K := by
  intro ⟨h0, h1, hK⟩
  rw [v87Fb]
  refine ⟨h0, ⟨by omega, by omega, rfl, h1⟩, fun h => ?_, fun h => hK⟩
  rw [(firstIx_ge _ l 0 (by omega)).1 h] at hK; exact hK
theorem ok87b : FnOk Try.prog 87 fc87b := fn_of (n := 5) ((good_nil _).addL ok87Lb) fun (l, ((), ()), ()) K hx => h87Fb l K hx
theorem h61L (l : List Tx) (s : Tx) (i : Int) (Q : LQ) : s61L l s i Q → xloop Try.prog [] [] 5 61 0 lc61 ex61 (fun x => mL x.1 x.2.2.1) (l, s, i, ()) Q := by
  intro ⟨⟨h0, h1, h2⟩, hQ1, hQ2⟩
  rw [v61L]
  have hbig : (big : Int) = 9223372036854775807 := rfl
  simp only [fork_iff, req_iff, decide_eq_true_eq, decide_eq_false_iff_not, beq_iff_eq, beq_eq_false_iff_ne, ne_eq]
  refine ⟨fun hi => ?_, fun hi => ?_⟩
  · rw [drop_step ([] : Tx) h0 hi] at hQ1 hQ2
    simp only [List.any_cons, firstIx] at hQ1 hQ2
    generalize l.getD i.toNat ([] : Tx) = c at *
    refine ⟨⟨h0, hi⟩, fun h => ?_, fun h => ?_⟩
    · have e : eqT s c = true := decide_eq_true h
      rw [e] at hQ2
      exact hQ2 rfl
    · have e : eqT s c = false := decide_eq_false h
      rw [e] at hQ1 hQ2
      exact ⟨inR_i64.2 (by omega), mL_lt hi, show s61L l s (i + 1) Q from ⟨⟨by omega, by omega, h2⟩, hQ1, hQ2⟩⟩
  · rw [drop_end hi] at hQ1
    exact hQ1 rfl
theorem ok61L : LpOk Try.prog 61 0 lc61 := lp_of (n := 5) (ex := ex61) (m := fun x => mL x.1 x.2.2.1) (good_nil _) fun (l, s, i, ()) Q hx => h61L l s i Q hx
theorem h61F (l : List Tx) (s : Tx) (K : dens [I] → Prop) : sSeek l s (fun r => K (r, ())) → xfn Try.prog [] [(61, 0, lc61)] 5 61 fcSeekT (l, s, ()) K := by
  intro ⟨h1, hK⟩
  rw [v61F]
  refine ⟨⟨by omega, by omega, h1⟩, fun h => ?_, fun h => hK⟩
  rw [(firstIx_ge _ l 0 (by omega)).1 h] at hK; exact hK
theorem ok61 : FnOk Try.prog 61 fcSeekT := fn_of (n := 5) ((good_nil _).addL ok61L) fun (l, s, ()) K hx => h61F l s K hx
end Go.P7
