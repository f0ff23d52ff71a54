/- Funds: the law of starts: the code keeps its contracts. No conditions. -/
import Derived.Test.YtklleedcdjkpeaaBeginL
set_option linter.constructorNameAsVariable false
set_option linter.unusedVariables false
set_option linter.unusedSimpArgs false
set_option maxRecDepth 100000
namespace Go.P9
open Go.Lom Go.Proofs Go

theorem h33F (n m : Int) (K : dens [I] → Prop) : (m ≤ 4611686018427387904 ∧ ∀ r : Int, (0 < m → 0 ≤ r ∧ r < m) → K (r, ())) → xfn1 Try.prog {} 5 33 fcRing (n, m, ()) K := by
  intro ⟨h0, hK⟩
  rw [v33F]
  simp only [fork_iff, req_iff, decide_eq_true_eq, decide_eq_false_iff_not]
  refine ⟨fun h => hK 0 fun g => by omega, fun h => ?_⟩
  have h1 : n.tmod m < m := Int.tmod_lt_of_pos n (by omega)
  have h2 : -m < n.tmod m := Int.lt_tmod_of_pos n (by omega)
  have h3 : 0 ≤ (n.tmod m + m).tmod m := Int.tmod_nonneg m (by omega)
  have h4 : (n.tmod m + m).tmod m < m := Int.tmod_lt_of_pos _ (by omega)
  exact ⟨by omega, inR_i64.2 (by omega), by omega, hK _ fun _ => ⟨h3, h4⟩⟩
theorem ok33 : FnOk Try.prog 33 fcRing := fn1_of (n := 5) (good2_nil _) fun (n, m, ()) K hx => h33F n m K hx
theorem h8b (l : List Int) (more : Int) (f : Fd) (s : List Int) (i : Int) (b : Bool) (k : Int) (Q : LQ) : s8b l more f s i b k Q →
    xloop2 Try.prog { f := [(30, fcFrom)] } 5 8 1 lc8b ex8b (fun (_, _, f, _, _, _, k, _) => mL (fWays f) k) (l, more, f, s, i, b, k, ()) Q := by
  intro ⟨⟨⟨hf, hl, hlen, hs0⟩, h0, h1, h2, h3⟩, hQ⟩
  subst hs0
  rw [v8b]
  have hn := okF_n hf
  have hsl := startsL_len f l
  have hb := (okF_big hf).2.2.2.2.2
  have step : k < (fWays f).length → ∀ c : Bool, (c || ((fWays f).drop (k + 1).toNat).any (tightB (startsL f l) i)) = (b || ((fWays f).drop k.toNat).any (tightB (startsL f l) i)) →
      inR .i64 (k + 1) = true ∧ (mL (fWays f) (k + 1) < mL (fWays f) k ∧ LC2.spec lc8b (l, more, f, startsL f l, i, c, k + 1, ()) Q) := fun hi c hc =>
    ⟨inR_i64.2 (by omega), mL_lt hi, show s8b l more f (startsL f l) i c (k + 1) Q from ⟨⟨⟨hf, hl, hlen, rfl⟩, by omega, by omega, h2, h3⟩, by rw [hc]; exact hQ⟩⟩
  have hin : ∀ w ∈ fWays f, _ := fun w hw => okF_ws hf w hw
  have hway : ∀ w ∈ fWays f, _ := fun w hw => startsL_way hf l (w := w) hw
  have hi8 := startsL_ok hf l h2 h3
  have hu8 : ∀ w ∈ fWays f, sOk (startsL f l) w.1 := fun w hw => startsL_ok hf l (hin w hw).1 (hin w hw).2.1
  generalize hs : startsL f l = s at *
  dsimp only [fWays, fGroups] at *
  simp only [fork_iff, req_iff, decide_eq_true_eq, decide_eq_false_iff_not, Bool.not_eq_true', Bool.not_eq_false', bne_iff_ne, ne_eq, bne_eq_false_iff_eq]
  refine ⟨fun hi => ?_, fun hi => ?_⟩
  · have step := step hi
    rw [drop_step (0, 0, 0) h0 hi, List.any_cons] at step
    have hmem : f.2.2.2.2.2.2.1.getD k.toNat (0, 0, 0) ∈ f.2.2.2.2.2.2.1 := by simp [List.getD_eq_getElem?_getD, show k.toNat < f.2.2.2.2.2.2.1.length by omega]
    have wk := hin _ hmem
    have ww := hway _ hmem
    have wu := hu8 _ hmem
    generalize f.2.2.2.2.2.2.1.getD k.toNat (0, 0, 0) = w at *
    obtain ⟨w1, w2, w3, w4, _, w5, w6⟩ := wk
    unfold sOk at hi8 wu
    have no : ∀ c, ¬ (w.2.1 = i ∧ 0 ≤ s.getD w.1.toNat 0 ∧ s.getD i.toNat 0 = s.getD w.1.toNat 0 + w.2.2) → c = b → inR .i64 (k + 1) = true ∧ (mL f.2.2.2.2.2.2.1 (k + 1) < mL f.2.2.2.2.2.2.1 k ∧ LC2.spec lc8b (l, more, f, s, i, c, k + 1, ()) Q) := fun c hno hc => by
      refine step c ?_
      have : tightB s i w = false := by
        rw [← Bool.not_eq_true]
        intro h
        unfold tightB at h
        simp only [Bool.and_eq_true, decide_eq_true_eq] at h
        exact hno h
      rw [this, hc]; rfl
    refine ⟨⟨h0, hi⟩, fun a => no b (fun h => a h.1) rfl, fun a => ⟨inR_i64.2 (by omega), fun c => absurd ⟨w1, by omega⟩ c, fun _ => ⟨⟨w1, by omega⟩, fun d => no b (fun h => by omega) rfl, fun d => ⟨⟨h2, by omega⟩, ?_⟩⟩⟩⟩
    subst a
    have ww := ww (by omega)
    refine ⟨fun e => by omega, fun e => ⟨⟨h2, by omega⟩, ⟨w1, by omega⟩, inR_i64.2 (by omega), fun g => by omega, fun g => ⟨fun hb1 => step true ?_, fun hb0 => ⟨⟨h2, by omega⟩, ⟨w1, by omega⟩, inR_i64.2 (by omega), step _ ?_⟩⟩⟩⟩
    · rw [hb1]; rfl
    · rw [hb0]
      have : tightB s w.2.1 w = (s.getD w.2.1.toNat 0 == s.getD w.1.toNat 0 + w.2.2) := by
        unfold tightB
        rw [decide_eq_true rfl, decide_eq_true (show 0 ≤ s.getD w.1.toNat 0 by omega)]; rfl
      rw [this]; rfl
  · rw [drop_end hi] at hQ
    simpa using hQ
theorem ok8b : Lp2Ok Try.prog 8 1 lc8b := lp2_of (n := 5) (ex := ex8b) (m := fun (_, _, f, _, _, _, k, _) => mL (fWays f) k) ((good2_nil _).addF ok30) fun (l, more, f, s, i, b, k, ()) Q hx => h8b l more f s i b k Q hx
theorem h8a (l : List Int) (more : Int) (f : Fd) (s : List Int) (i : Int) (Q : LQ) : s8a l more f s i Q →
    xloop2 Try.prog { f := [(32, fcSeek)], l2 := [(8, 1, lc8b)] } 5 8 0 lc8a ex8a (fun (_, _, _, s, i, _) => mL s i) (l, more, f, s, i, ()) Q := by
  intro ⟨⟨⟨hf, hl, hlen, hs0⟩, h0, h1⟩, hQ⟩
  subst hs0
  rw [v8a]
  have hn := okF_n hf
  have hsl := startsL_len f l
  simp only [fork_iff, req_iff, decide_eq_true_eq, decide_eq_false_iff_not, Bool.not_eq_true', Bool.not_eq_false', bne_iff_ne, ne_eq, bne_eq_false_iff_eq, List.drop_zero, Bool.or_eq_false_iff, Bool.or_eq_true]
  refine ⟨fun hi => ?_, fun _ => hQ⟩
  have hi' : i < (fGroups f).length := by omega
  have ht : i.toNat < (fGroups f).length := by omega
  have ok := startsL_ok hf l h0 hi'
  unfold sOk at ok
  have hin : seekI l i 0 ≥ 0 → (startsL f l).getD i.toNat 0 = 0 := fun h => startsL_in hf ht (by rw [show ((i.toNat : Nat) : Int) = i by omega]; exact (seekI_ge (by omega)).1 h)
  have hwhy : 0 ≤ (startsL f l).getD i.toNat 0 → seekI l i 0 ≥ 0 ∨ (fWays f).any (tightB (startsL f l) i) = true := fun h => by
    have := startsL_why hf (l := l) ht h
    rw [show ((i.toNat : Nat) : Int) = i by omega] at this
    rcases this with h | h
    · exact .inl ((seekI_ge (by omega)).2 h)
    · exact .inr h
  have go : inR .i64 (i + 1) = true ∧ (mL (startsL f l) (i + 1) < mL (startsL f l) i ∧ LC2.spec lc8a (l, more, f, startsL f l, i + 1, ()) Q) :=
    ⟨inR_i64.2 (by omega), mL_lt hi, show s8a l more f (startsL f l) (i + 1) Q from ⟨⟨⟨hf, hl, hlen, rfl⟩, by omega, by omega⟩, hQ⟩⟩
  have pre : begun f l (startsL f l) ∧ (0 : Int) ≤ 0 ∧ (0 : Int) ≤ ((fWays f).length : Int) ∧ 0 ≤ i ∧ i < ((fGroups f).length : Int) := ⟨⟨hf, hl, hlen, rfl⟩, by omega, by omega, h0, hi'⟩
  refine ⟨hlen, fun a => ⟨⟨h0, hi⟩, fun c => absurd (hin a) c, fun _ => ⟨pre, ⟨h0, hi⟩, fun c => ⟨fun d => ?_, fun _ => ⟨⟨h0, hi⟩, fun e => by omega, fun _ => go⟩⟩, fun c => ⟨⟨h0, hi⟩, fun e => by omega, fun _ => go⟩⟩⟩,
    fun a => ⟨pre, ⟨h0, hi⟩, fun c => ⟨fun d => ?_, fun _ => ⟨⟨h0, hi⟩, fun e => by omega, fun _ => go⟩⟩, fun c => ⟨⟨h0, hi⟩, fun e => by omega, fun _ => go⟩⟩⟩
  · exact absurd a d.1
  · rcases hwhy c with h | h
    · exact absurd h a
    · rw [d.2] at h; cases h
theorem ok8a : Lp2Ok Try.prog 8 0 lc8a := lp2_of (n := 5) (ex := ex8a) (m := fun (_, _, _, s, i, _) => mL s i) (((good2_nil _).addL2 ok8b).addF ok32) fun (l, more, f, s, i, ()) Q hx => h8a l more f s i Q hx
theorem seg_app (b : List Int) (i : Int) : seg 0 (b.length + (seg 0 1 [i]).length) (seg 0 b.length b ++ seg 0 1 [i]) = b ++ [i] := by
  simp [seg]
  exact List.take_of_length_le (by simp)
theorem h8c (l : List Int) (f : Fd) (s : List Int) (one : Int) (b : List Int) (i : Int) (Q : LQ) : s8c l f s one b i Q →
    xloop2 Try.prog { f := [(32, fcSeek)] } 5 8 2 lc8c (fun _ => some (sh8cx, 2)) (fun (_, _, s, _, _, i, _) => mL s i) (l, f, s, one, b, i, ()) Q := by
  intro ⟨⟨h0, h1, h2, h3, h4⟩, hQ⟩
  rw [v8c]
  rw [seg_app, seg_all' rfl]
  simp only [fork_iff, req_iff, decide_eq_true_eq, decide_eq_false_iff_not, beq_iff_eq, beq_eq_false_iff_ne, ne_eq, Nat.zero_add]
  have hm : maxLen = 9223372036854775807 := rfl
  refine ⟨fun hi => ?_, fun hi => ⟨Nat.le_refl _, ?_⟩⟩
  · have add : (i = one ∨ i ∈ l) → b.length ≤ b.length ∧ (fitsN (b.length + (seg 0 1 [i]).length) 8 = true ∧ (inR .i64 (i + 1) = true ∧ (b.length + (seg 0 1 [i]).length ≤ (b ++ seg 0 1 [i]).length ∧ (mL s (i + 1) < mL s i ∧ LC2.spec lc8c (l, f, s, one, b ++ [i], i + 1, ()) Q)))) := fun h => by
      refine ⟨Nat.le_refl _, ?_, inR_i64.2 (by omega), by simp [seg], mL_lt hi, ?_⟩
      · simp only [fitsN, Bool.and_eq_true, Nat.ble_eq]
        have : (seg 0 1 [i]).length = 1 := rfl
        rw [this]; omega
      · refine (show s8c l f s one (b ++ [i]) (i + 1) Q from ⟨⟨by omega, by omega, h2, h3, by simp; omega⟩, ?_⟩)
        rw [bothD_step h0 hi, if_pos h, ← List.append_assoc] at hQ; exact hQ
    refine ⟨fun a => add (.inl a), fun a => ⟨h3, fun c => add (.inr ((seekI_ge (by omega)).1 c)), fun c => ⟨inR_i64.2 (by omega), Nat.le_refl _, mL_lt hi, ?_⟩⟩⟩
    refine (show s8c l f s one b (i + 1) Q from ⟨⟨by omega, by omega, h2, h3, by omega⟩, ?_⟩)
    rw [bothD_step h0 hi, if_neg (fun h => h.elim a fun h => c ((seekI_ge (by omega)).2 h)), List.nil_append] at hQ; exact hQ
  · rw [bothD_end hi, List.append_nil] at hQ; exact hQ
theorem ok8c : Lp2Ok Try.prog 8 2 lc8c := lp2_of (n := 5) (ex := fun _ => some (sh8cx, 2)) (m := fun (_, _, s, _, _, i, _) => mL s i) ((good2_nil _).addF ok32) fun (l, f, s, one, b, i, ()) Q hx => h8c l f s one b i Q hx
theorem h8d (s t : List Int) (i : Int) (Q : LQ) : s8d s t i Q → xloop2 Try.prog {} 5 8 3 lc8d ex8d (fun (s, _, i, _) => mL s i) (s, t, i, ()) Q := by
  intro ⟨⟨h0, h1, h2, h3, h4⟩, hQ⟩
  rw [v8d]
  simp only [fork_iff, req_iff, decide_eq_true_eq, decide_eq_false_iff_not]
  refine ⟨fun hi => ?_, fun hi => hQ⟩
  have go : inR .i64 (i + 1) = true ∧ (mL s (i + 1) < mL s i ∧ LC2.spec lc8d (s, t, i + 1, ()) Q) :=
    ⟨inR_i64.2 (by omega), mL_lt hi, show s8d s t (i + 1) Q from ⟨⟨by omega, by omega, h2, h3, h4⟩, hQ⟩⟩
  have h5 := h4 i h0 hi
  exact ⟨⟨h0, hi⟩, fun a => ⟨⟨h0, by omega⟩, fun c => by have := h5 a; omega, fun c => ⟨⟨h0, by omega⟩, ⟨h0, hi⟩, fun d => by have := h5 a; omega, fun _ => go⟩⟩, fun _ => go⟩
theorem ok8d : Lp2Ok Try.prog 8 3 lc8d := lp2_of (n := 5) (ex := ex8d) (m := fun (s, _, i, _) => mL s i) (good2_nil _) fun (s, t, i, ()) Q hx => h8d s t i Q hx
theorem startsE_ne {f : Fd} {l : List Int} : (startsE f l != 0) = !(okF f && listsB (fGroups f).length l 0) := by
  unfold startsE; cases okF f <;> cases listsB (fGroups f).length l 0 <;> rfl
theorem startsR_of {f : Fd} {l : List Int} (h : okF f = true) (g : listsB (fGroups f).length l 0 = true) : startsR f l = startsL f l := if_pos ⟨h, g⟩
theorem h8F (f : Fd) (l : List Int) (more : Int) (K : dens [.b] → Prop) : ((bigF f ∧ l.length ≤ 9223372036854775807) ∧ K (true, ())) → xfn1 Try.prog { f := [(31, fcStarts), (32, fcSeek), (33, fcRing), (19, fcWorks)], l2 := [(8, 0, lc8a), (8, 2, lc8c), (8, 3, lc8d)] } 5 8 fc8 (f, l, more, ()) K := by
  intro ⟨⟨hb, h2⟩, hK⟩
  rw [v8F, startsE_ne, fork_iff]
  refine ⟨⟨hb, h2⟩, fun h => ?_, fun h => ?_⟩
  · have e : startsR f l = [] := by
      unfold startsR
      rw [if_neg]
      rintro ⟨a, b⟩
      rw [a, b] at h; cases h
    rw [e]
    exact fork_iff.2 ⟨fun _ => hK, fun h => by cases h⟩
  · have h : okF f = true ∧ listsB (fGroups f).length l 0 = true := by simpa using h
    obtain ⟨hf, hl⟩ := h
    have hn := okF_n hf
    have hsl := startsL_len f l
    rw [startsR_of hf hl, hsl]
    simp only [List.nil_append]
    have el := startsL_len f l
    simp only [fork_iff, bne_len, bne_len']
    refine ⟨fun a => absurd trivial a, fun _ => ⟨⟨⟨hf, hl, h2, rfl⟩, by omega, by omega⟩, fun _ => hK, fun hz => ⟨by omega, fun r hr => ?_⟩⟩⟩
    have hz : (fGroups f).length ≠ 0 := by intro e; rw [e] at hz; cases hz
    have hr := hr (show (0 : Int) < ((fGroups f).length : Int) by omega)
    have e := seg_all' (l := bothD (fGroups f).length l r 0) rfl
    have hlists := bothD_lists (n := (fGroups f).length) (l := l) (one := r)
    have hbl := bothD_len (fGroups f).length l r
    have es := startsR_of hf hlists
    simp only [req_iff, decide_eq_true_eq, fork_iff, bne_len, bne_len', Nat.zero_add, e, es, startsL_len, startsE_ne, hf, hlists]
    refine ⟨⟨by omega, by omega, hn, h2, by omega⟩, Nat.le_refl _, ⟨hb, by omega⟩, fun h => (by cases h), fun _ => ⟨fun h => absurd trivial h, fun _ => ⟨⟨by omega, by omega, hn, trivial, fun k g0 g1 g2 => ?_⟩, hK⟩⟩⟩
    exact startsL_mono hf (fun x hx => bothD_mem.2 ⟨(listsB_in hl x hx).1, (listsB_in hl x hx).2, .inr hx⟩) (by omega) g2
theorem ok8 : FnOk Try.prog 8 fc8 := fn1_of (n := 5) (((((((good2_nil _).addL2 ok8d).addL2 ok8c).addL2 ok8a).addF okWorks').addF ok33).addF ok32 |>.addF ok31) fun (f, l, more, ()) K hx => h8F f l more K hx
end Go.P9
