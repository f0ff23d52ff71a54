/- Funds: the worst run by the reference: the code keeps its contracts. No conditions. -/
import Derived.Test.YtklleedcdjkpeaaWorst2S
import Derived.Test.YtklleedcdjkpeaaWorstP
set_option linter.constructorNameAsVariable false
set_option linter.unusedVariables false
set_option linter.unusedSimpArgs false
set_option maxRecDepth 100000
namespace Go.P9
open Go.Lom Go.Proofs Go

theorem h34L (a b : List Int) (i : Int) (Q : LQ) : s34 a b i Q → xloop2 Try.prog {} 5 34 0 lc34 ex34 (fun (a, _, i, _) => mL a i) (a, b, i, ()) Q := by
  intro ⟨⟨h0, h1, h2, h3⟩, hQ1, hQ2⟩
  rw [v34L]
  simp only [fork_iff, req_iff, decide_eq_true_eq, decide_eq_false_iff_not, bne_iff_ne, ne_eq, bne_eq_false_iff_eq]
  refine ⟨fun hi => ⟨fun hj => ?_, fun hj => ?_⟩, fun hi => ?_⟩
  · rw [drop_step 0 h0 hi, drop_step 0 h0 hj] at hQ1 hQ2
    simp only [aheadI] at hQ1 hQ2
    refine ⟨⟨h0, hi⟩, ⟨h0, hj⟩, fun c => ⟨⟨h0, hi⟩, ⟨h0, hj⟩, ?_⟩, fun c => ⟨inR_i64.2 (by omega), mL_lt hi, ?_⟩⟩
    · rw [if_neg c] at hQ2; exact hQ2
    · rw [if_pos c] at hQ1 hQ2
      exact (show s34 a b (i + 1) Q from ⟨⟨by omega, h1, by omega, by omega⟩, hQ1, hQ2⟩)
  · apply hQ1
    rw [drop_step 0 h0 hi, drop_end hj]
    simp only [aheadI]
    rw [decide_eq_false (by omega)]
  · apply hQ1
    rw [drop_end hi]
    by_cases hj : i < b.length
    · rw [drop_step 0 h0 hj]; simp only [aheadI]; rw [decide_eq_true (by omega)]
    · rw [drop_end hj]; simp only [aheadI]; rw [decide_eq_false (by omega)]
theorem ok34L : Lp2Ok Try.prog 34 0 lc34 := lp2_of (n := 5) (ex := ex34) (m := fun (a, _, i, _) => mL a i) (good2_nil _) fun (a, b, i, ()) Q hx => h34L a b i Q hx
theorem h34F (a b : List Int) (K : dens [.b] → Prop) : ((a.length ≤ 9223372036854775807) ∧ K (aheadI a b, ())) → xfn1 Try.prog { l2 := [(34, 0, lc34)] } 5 34 fcAhead (a, b, ()) K := by
  intro ⟨h1, hK⟩
  rw [v34F]
  refine ⟨⟨by omega, h1, by omega, by omega⟩, fun h => ?_, hK⟩
  have h : aheadI a b = decide (a.length < b.length) := h
  have e : decide ((a.length : Int) < (b.length : Int)) = aheadI a b := by
    rw [h]
    by_cases c : a.length < b.length
    · rw [decide_eq_true c, decide_eq_true (by omega)]
    · rw [decide_eq_false c, decide_eq_false (by omega)]
  rw [e]; exact hK
theorem ok34 : FnOk Try.prog 34 fcAhead := fn1_of (n := 5) ((good2_nil _).addL2 ok34L) fun (a, b, ()) K hx => h34F a b K hx

theorem restT_step {g : Grp} {st day t : Int} (h : t ≤ day) : restT g st day t = mayI g st t + restT g st day (t + 1) := by
  unfold restT mayI
  by_cases h0 : 0 ≤ st
  · rw [if_pos h0, if_pos h0]
    by_cases h1 : t < st + g.2.2
    · rw [if_pos h1, if_pos (.inr h1), Int.zero_add]
      congr 2
      split <;> omega
    · rw [if_neg h1, if_neg (by omega), if_neg (by omega)]
      have e : posI (day + 1 - t) = 1 + posI (day + 1 - (t + 1)) := by unfold posI; split <;> split <;> omega
      rw [e, Int.mul_add, Int.mul_one]
  · rw [if_neg h0, if_neg h0, if_pos (.inl (by omega))]; rfl
theorem restT_end {g : Grp} {st day t : Int} (h : ¬ t ≤ day) : restT g st day t = 0 := by
  unfold restT
  split
  · have : posI (day + 1 - (if t < st + g.2.2 then st + g.2.2 else t)) = 0 := by unfold posI; split <;> split <;> omega
    rw [this, Int.mul_zero]
  · rfl
theorem h84L (st day : Int) (g : Grp) (n t : Int) (Q : LQ) : s84 st day g n t Q → xloop2 Try.prog { f := [(75, fc75)] } 5 84 0 lc84 (fun _ => some (sh84e, 1)) (fun (_, day, _, _, t, _) => (day + 1 - t).toNat) (st, day, g, n, t, ()) Q := by
  intro ⟨⟨h0, h1, h2, h3, h4, h5, h6, h7, h8⟩, hQ⟩
  rw [v84L]
  have hg := grpOk_iff.1 h0
  simp only [fork_iff, req_iff, decide_eq_true_eq, decide_eq_false_iff_not]
  refine ⟨fun hi => ?_, fun hi => ?_⟩
  · have hm : 0 ≤ mayI g st t ∧ mayI g st t ≤ 1073741824 := by unfold mayI; split <;> omega
    rw [restT_step hi, ← Int.add_assoc] at hQ
    refine ⟨⟨h0, h2⟩, inR_i64.2 (by omega), inR_i64.2 (by omega), ?_, show s84 st day g (n + mayI g st t) (t + 1) Q from ⟨⟨h0, h1, h2, h3, h4, by omega, by omega, by omega, by omega⟩, hQ⟩⟩
    show (day + 1 - (t + 1)).toNat < (day + 1 - t).toNat
    omega
  · rw [restT_end hi, Int.add_zero] at hQ; exact hQ
theorem ok84L : Lp2Ok Try.prog 84 0 lc84 := lp2_of (n := 5) (ex := fun _ => some (sh84e, 1)) (m := fun (_, day, _, _, t, _) => (day + 1 - t).toNat) ((good2_nil _).addF ok75) fun (st, day, g, n, t, ()) Q hx => h84L st day g n t Q hx
theorem h84F (g : Grp) (st day : Int) (K : dens [I] → Prop) : ((grpOk g = true ∧ -1 ≤ st ∧ st ≤ 96 ∧ 0 ≤ day ∧ day ≤ 12) ∧ K (tkI g st day, ())) → xfn1 Try.prog { l2 := [(84, 0, lc84)] } 5 84 fc84 (g, st, day, ()) K := by
  intro ⟨⟨h0, h1, h2, h3, h4⟩, hK⟩
  rw [v84F]
  have hg := grpOk_iff.1 h0
  refine ⟨⟨h0, h1, h2, h3, h4, by omega, by omega, by omega, by omega⟩, ?_⟩
  have e : (if g.1 < 0 + restT g st day 0 then g.1 else 0 + restT g st day 0) = tkI g st day := by
    unfold tkI restT
    by_cases c : 0 ≤ st
    · rw [if_pos c, if_pos c]
      have : day + 1 - (if 0 < st + g.2.2 then st + g.2.2 else 0) = day - st - g.2.2 + 1 := by split <;> omega
      rw [this, Int.zero_add]
      unfold minI
      split <;> split <;> omega
    · rw [if_neg c, if_neg c]
      split <;> omega
  rw [e]; exact hK
theorem ok84 : FnOk Try.prog 84 fc84 := fn1_of (n := 5) ((good2_nil _).addL2 ok84L) fun (g, st, day, ()) K hx => h84F g st day K hx

theorem beginD_step {n : Nat} {bits i : Int} (h0 : 0 ≤ i) (h : i < n) : beginD n bits i = (if bitB bits i.toNat = true then [i] else []) ++ beginD n bits (i + 1) := by
  unfold beginD
  rw [drop_step 0 h0 (by simpa using h), range_get h0 h, List.filter_cons]
  by_cases g : bitB bits i.toNat = true
  · rw [if_pos g, if_pos g, List.map_cons, show ((i.toNat : Nat) : Int) = i by omega]; rfl
  · rw [if_neg g, if_neg g]; rfl
theorem beginD_end {n : Nat} {bits i : Int} (h : ¬ i < n) : beginD n bits i = [] := by
  unfold beginD; rw [drop_end (by simpa using h)]; rfl
theorem seg_app3 (b : List Int) (i : Int) : seg 0 (b.length + (seg 0 1 [i]).length) (seg 0 b.length b ++ seg 0 1 [i]) = b ++ [i] := by
  simp [seg]
  exact List.take_of_length_le (by simp)
theorem h83L (bits : Int) (f : Fd) (out : List Int) (i : Int) (Q : LQ) : s83 bits f out i Q → xloop2 Try.prog {} 5 83 0 lc83 (fun _ => some (sh83e, 1)) (fun (_, f, _, i, _) => mL (fGroups f) i) (bits, f, out, i, ()) Q := by
  intro ⟨⟨h0, h1, h2, h3⟩, hQ⟩
  rw [v83L]
  rw [seg_app3, seg_all' rfl]
  have hm : maxLen = 9223372036854775807 := rfl
  have stp : i < (fGroups f).length → _ := fun hi => beginD_step (n := (fGroups f).length) (bits := bits) h1 hi
  have en : ¬ i < (fGroups f).length → _ := fun hi => beginD_end (n := (fGroups f).length) (bits := bits) hi
  have mk : ∀ o : List Int, i < (fGroups f).length → o.length ≤ i + 1 → o ++ beginD (fGroups f).length bits (i + 1) = out ++ beginD (fGroups f).length bits i → mL (fGroups f) (i + 1) < mL (fGroups f) i ∧ LC2.spec lc83 (bits, f, o, i + 1, ()) Q := fun o hi ho he =>
    ⟨mL_lt hi, show s83 bits f o (i + 1) Q from ⟨⟨h0, by omega, by omega, ho⟩, by rw [he]; exact hQ⟩⟩
  simp only [fork_iff, req_iff, decide_eq_true_eq, decide_eq_false_iff_not, Nat.zero_add]
  refine ⟨fun hi => ?_, fun hi => ⟨Nat.le_refl _, ?_⟩⟩
  · have hi : i < (fGroups f).length := hi
    have stp := stp hi
    refine ⟨h1, fun a => ⟨Nat.le_refl _, ?_, inR_i64.2 (by omega), by simp [seg], mk _ hi (by simp; omega) ?_⟩, fun a => ⟨inR_i64.2 (by omega), Nat.le_refl _, mk _ hi (by omega) ?_⟩⟩
    · simp only [fitsN, Bool.and_eq_true, Nat.ble_eq]
      have : (seg 0 1 [i]).length = 1 := rfl
      rw [this]; omega
    · rw [stp, if_pos (show bitB bits i.toNat = true from a), ← List.append_assoc]
    · rw [stp, if_neg (show ¬ bitB bits i.toNat = true by rw [Bool.not_eq_true]; exact a)]; rfl
  · rw [en hi, List.append_nil] at hQ; exact hQ
theorem ok83L : Lp2Ok Try.prog 83 0 lc83 := lp2_of (n := 5) (ex := fun _ => some (sh83e, 1)) (m := fun (_, f, _, i, _) => mL (fGroups f) i) (good2_nil _) fun (bits, f, out, i, ()) Q hx => h83L bits f out i Q hx
theorem h83F (f : Fd) (bits : Int) (K : dens [L] → Prop) : ((fGroups f).length ≤ 8 ∧ K (beginD (fGroups f).length bits 0, ())) → xfn1 Try.prog { l2 := [(83, 0, lc83)] } 5 83 fc83 (f, bits, ()) K := by
  intro ⟨h0, hK⟩
  rw [v83F]
  have e := seg_all' (l := beginD (fGroups f).length bits 0) rfl
  simp only [req_iff, decide_eq_true_eq, List.nil_append, Nat.zero_add, e]
  exact ⟨⟨h0, by omega, by omega, by omega⟩, Nat.le_refl _, hK⟩
theorem ok83 : FnOk Try.prog 83 fc83 := fn1_of (n := 5) ((good2_nil _).addL2 ok83L) fun (f, bits, ()) K hx => h83F f bits K hx
theorem h73b (day : Int) (f : Fd) (best : List Int) (most bits : Int) (l s : List Int) (n i : Int) (Q : LQ) : s73b day f best most bits l s n i Q →
    xloop2 Try.prog { f := [(84, fc84)] } 5 73 1 lc73b (fun _ => some (sh73x, 1)) (fun (_, _, _, _, _, _, s, _, i, _) => mL s i) (day, f, best, most, bits, l, s, n, i, ()) Q := by
  intro ⟨⟨hf, h0, h1, h2, h3, h4, h5, h6, h7⟩, hQ⟩
  rw [v73b]
  have hn := okF_n hf
  have e3 : i < (fGroups f).length → sOk s i := fun hi => h3 i h0 hi
  have eg : i < (fGroups f).length → grpOk ((fGroups f).getD i.toNat (0, 0, 0)) = true := fun hi => grp_at hf h0 hi
  have st : i < (fGroups f).length → _ := fun hi => tkSum_step (gs := fGroups f) (s := s) (day := day) h0 hi
  have en : ¬ i < (fGroups f).length → _ := fun hi => tkSum_end (gs := fGroups f) (s := s) (day := day) hi
  have mk : ∀ n', i < (fGroups f).length → 0 ≤ n' → n' ≤ 1073741824 * (i + 1) → n' + tkSum (fGroups f) s day (i + 1) = n + tkSum (fGroups f) s day i → LC2.spec lc73b (day, f, best, most, bits, l, s, n', i + 1, ()) Q := fun n' hi a b e =>
    show s73b day f best most bits l s n' (i + 1) Q from ⟨⟨hf, by omega, by omega, h2, h3, h4, h5, a, b⟩, by rw [e]; exact hQ⟩
  dsimp only [fGroups] at *
  simp only [fork_iff, req_iff, decide_eq_true_eq, decide_eq_false_iff_not]
  refine ⟨fun hi => ?_, fun hi => ?_⟩
  · have hi' : i < f.2.2.2.2.2.1.length := by omega
    have e3 := e3 hi'
    have eg0 := eg hi'
    have eg := grpOk_iff.1 eg0
    have st := st hi'
    unfold sOk at e3
    generalize f.2.2.2.2.2.1.getD i.toNat (0, 0, 0) = g at *
    generalize s.getD i.toNat 0 = a at *
    have ht : 0 ≤ tkI g a day ∧ tkI g a day ≤ 1073741824 := by
      unfold tkI
      split
      · have hp : 0 ≤ posI (day - a - g.2.2 + 1) ∧ posI (day - a - g.2.2 + 1) ≤ 13 := by unfold posI; split <;> omega
        have hb := mul_bd eg.2.1.1 eg.2.1.2 hp.1 hp.2
        unfold minI; split <;> omega
      · omega
    exact ⟨⟨h0, hi'⟩, ⟨h0, hi⟩, ⟨eg0, e3.1, e3.2, h4, h5⟩, inR_i64.2 (by omega), inR_i64.2 (by omega), mL_lt hi, mk _ hi' (by omega) (by omega) (by omega)⟩
  · rw [en (by omega), Int.add_zero] at hQ; exact hQ
theorem ok73b : Lp2Ok Try.prog 73 1 lc73b := lp2_of (n := 5) (ex := fun _ => some (sh73x, 1)) (m := fun (_, _, _, _, _, _, s, _, i, _) => mL s i) ((good2_nil _).addF ok84) fun (day, f, best, most, bits, l, s, n, i, ()) Q hx => h73b day f best most bits l s n i Q hx
theorem pow_bd {n : Nat} (h : n ≤ 8) : 1 ≤ (2 : Int) ^ n ∧ (2 : Int) ^ n ≤ 256 := by
  have : n = 0 ∨ n = 1 ∨ n = 2 ∨ n = 3 ∨ n = 4 ∨ n = 5 ∨ n = 6 ∨ n = 7 ∨ n = 8 := by omega
  rcases this with h | h | h | h | h | h | h | h | h <;> subst h <;> decide
theorem beginD_len {n : Nat} {bits : Int} : (beginD n bits 0).length ≤ n := by
  unfold beginD
  rw [List.length_map]
  exact Nat.le_trans (List.length_filter_le _ _) (by simp)
theorem h73a (day : Int) (f : Fd) (best : List Int) (most bits : Int) (Q : LQ) : s73 day f best most bits Q →
    xloop2 Try.prog { f := [(83, fc83), (69, fc69), (34, fcAhead)], l2 := [(73, 1, lc73b)] } 5 73 0 lc73 (fun _ => some (sh73e, 0)) (fun (_, f, _, _, bits, _) => (2 ^ (fGroups f).length - bits).toNat) (day, f, best, most, bits, ()) Q := by
  intro ⟨⟨hf, h0, h1, h2, h3⟩, hQ⟩
  rw [v73a]
  have hn := okF_n hf
  have hp := pow_bd hn
  have hbl := beginD_len (n := (fGroups f).length) (bits := bits)
  have e : 1 * (2 : Int) ^ (min (Int.toNat (f.2.2.2.2.2.1.length : Int)) 64) = 2 ^ (fGroups f).length := by
    have : min (Int.toNat (f.2.2.2.2.2.1.length : Int)) 64 = (fGroups f).length := by dsimp only [fGroups] at *; omega
    rw [this, Int.one_mul]
  rw [e]
  have go : bits < 2 ^ (fGroups f).length → ∀ b' m', (b', m') = updR f day (best, most) bits → inR .i64 (bits + 1) = true ∧ (((2 : Int) ^ (fGroups f).length - (bits + 1)).toNat < ((2 : Int) ^ (fGroups f).length - bits).toNat ∧ LC2.spec lc73 (day, f, b', m', bits + 1, ()) Q) := fun hi b' m' hu => by
    refine ⟨inR_i64.2 (by omega), by omega, show s73 day f b' m' (bits + 1) Q from ⟨⟨hf, h0, h1, by omega, by omega⟩, ?_⟩⟩
    rw [show ((2 : Int) ^ (fGroups f).length - bits).toNat = ((2 : Int) ^ (fGroups f).length - (bits + 1)).toNat + 1 by omega] at hQ
    simp only [runR] at hQ
    rw [hu]; exact hQ
  unfold updR at go
  have et : (0 : Int) + tkSum (fGroups f) (startsL f (beginD (fGroups f).length bits 0)) day 0 = takenL f (beginD (fGroups f).length bits 0) day := Int.zero_add _
  rw [et]
  simp only [fork_iff, req_iff, decide_eq_true_eq, decide_eq_false_iff_not, beq_iff_eq, beq_eq_false_iff_ne, ne_eq]
  refine ⟨inR_i64.2 (by omega), fun hi => ⟨hn, fun a => go hi _ _ (by rw [if_pos (show _ > fBegin f from a)]), fun a => ⟨⟨hf, by omega⟩, ⟨hf, by omega, by omega, startsL_len f _, fun k g0 g1 => startsL_ok hf _ g0 g1, h0, h1, by omega, by omega⟩, fun b => go hi _ _ ?_, fun b => ⟨fun c => ⟨by omega, fun d => go hi _ _ ?_, fun d => go hi _ _ ?_⟩, fun c => go hi _ _ ?_⟩⟩⟩, fun hi => ?_⟩
  · rw [if_neg (show ¬ _ > fBegin f from a), if_pos (.inl b)]
  · rw [if_neg (show ¬ _ > fBegin f from a), if_pos (.inr ⟨c, d⟩), c]
  · rw [if_neg (show ¬ _ > fBegin f from a), if_neg (fun h => h.elim b fun h => by rw [d] at h; exact absurd h.2 (by simp))]
  · rw [if_neg (show ¬ _ > fBegin f from a), if_neg (fun h => h.elim b fun h => c h.1)]
  · rw [show ((2 : Int) ^ (fGroups f).length - bits).toNat = 0 by omega] at hQ
    exact hQ
theorem ok73a : Lp2Ok Try.prog 73 0 lc73 := lp2_of (n := 5) (ex := fun _ => some (sh73e, 0)) (m := fun (_, f, _, _, bits, _) => (2 ^ (fGroups f).length - bits).toNat) (((((good2_nil _).addL2 ok73b).addF ok34).addF ok69).addF ok83) fun (day, f, best, most, bits, ()) Q hx => h73a day f best most bits Q hx
end Go.P9
