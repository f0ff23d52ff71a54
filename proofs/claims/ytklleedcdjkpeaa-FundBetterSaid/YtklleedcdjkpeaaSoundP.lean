/- Funds: sound plans: the code keeps its contracts. No conditions. -/
import Derived.Test.YtklleedcdjkpeaaPlanP
set_option linter.constructorNameAsVariable false
set_option linter.unusedVariables false
set_option linter.unusedSimpArgs false
set_option maxRecDepth 100000
namespace Go.P9
open Go.Lom Go.Proofs Go

theorem planB_parts {f : Fd} {l : List Int} (h : planB f l = true) : l.length = (fIn f).length ∧ planC f l 0 = true ∧ l.sum ≤ fBars f := by
  unfold planB at h
  simp only [Bool.and_eq_true, decide_eq_true_eq] at h
  exact h
theorem price_bd {f : Fd} (hf : okF f = true) {i : Int} (h0 : 0 ≤ i) (h1 : i < (fIn f).length) : 0 ≤ ((fPrices f).getD i.toNat (0, 0)).1 ∧ ((fPrices f).getD i.toNat (0, 0)).1 ≤ ((fPrices f).getD i.toNat (0, 0)).2 ∧ ((fPrices f).getD i.toNat (0, 0)).2 ≤ 1048576 := by
  have h := (dayOk_iff.1 (day_at hf h0 h1)).2.2.2
  unfold spanB at h
  exact of_decide_eq_true h
theorem mon_bd {f : Fd} {l ns : List Int} {i m : Int} (h : okS f l ns i m) (hi : i < ns.length) : 0 ≤ l.getD i.toNat 0 * ((fPrices f).getD i.toNat (0, 0)).1 ∧ l.getD i.toNat 0 * ((fPrices f).getD i.toNat (0, 0)).1 ≤ 67108864 := by
  obtain ⟨h1, h2, h3, h4, h5, h6, h7⟩ := h
  obtain ⟨p1, p2, _⟩ := planB_parts h2
  have c := planC_in h1 p1 p2 i h4 (by omega)
  have p := price_bd h1 h4 (by omega)
  exact mul_bd (A := 64) (B := 1048576) c.1 c.2 p.1 (by omega)
theorem sound_step {f : Fd} {l ns : List Int} {i m : Int} (h : okS f l ns i m) (hi : i < ns.length) : soundN f l (ns.drop i.toNat) i m = (if monI f l i m < ns.getD i.toNat 0 then false else soundN f l (ns.drop (i + 1).toNat) (i + 1) (monI f l i m)) := by
  rw [drop_step 0 h.2.2.2.1 hi]; rfl
theorem okS_step {f : Fd} {l ns : List Int} {i m : Int} (h : okS f l ns i m) (hi : i < ns.length) : okS f l ns (i + 1) (monI f l i m) := by
  have hb := mon_bd h hi
  obtain ⟨h1, h2, h3, h4, h5, h6, h7⟩ := h
  unfold monI
  exact ⟨h1, h2, h3, by omega, by omega, by omega, by omega⟩
theorem needsK_len {f : Fd} : ∀ (k : Nat) (i due : Int), (needsK f k i due).length = k
  | 0, _, _ => rfl
  | k + 1, i, due => by simp only [needsK, List.length_cons, needsK_len k]
theorem okS_0 {f : Fd} {l : List Int} (hf : okF f = true) (hp : planB f l = true) : okS f l (needsL f) 0 0 := by
  have e : (needsL f).length = (fIn f).length := needsK_len _ _ _
  exact ⟨hf, hp, e, by omega, by omega, by omega, by omega⟩
theorem h17L (l : List Int) (f : Fd) (m : Int) (ns : List Int) (k i : Int) (Q : LQ) : s17 l f m ns k i Q → xloop2 Try.prog {} 5 17 0 lc17 ex17 (fun (_, _, _, ns, _, i, _) => mL ns i) (l, f, m, ns, k, i, ()) Q := by
  intro ⟨⟨hok, hk⟩, hQ1, hQ2⟩
  rw [v17L]
  subst hk
  obtain ⟨h1, h2, h3, h4, h5, h6, h7⟩ := id hok
  obtain ⟨p1, p2, _⟩ := planB_parts h2
  have hA := okA_iff.1 (okF_parts h1).1
  have hb := fun hi => mon_bd hok hi
  have st := fun hi => sound_step hok hi
  have nx := fun hi => okS_step hok hi
  simp only [fork_iff, req_iff, decide_eq_true_eq, decide_eq_false_iff_not]
  refine ⟨fun hi => ?_, fun hi => hQ1 (by rw [drop_end hi]; rfl)⟩
  have hb := hb hi
  have nx := nx hi
  rw [st hi] at hQ1 hQ2
  have hpl : i < (fPrices f).length := by omega
  unfold monI at *
  dsimp only [fPrices] at *
  refine ⟨⟨h4, hi⟩, ⟨h4, by omega⟩, ⟨h4, hpl⟩, inR_i64.2 (by omega), inR_i64.2 (by omega), fun a => hQ2 (if_pos a), fun a => ⟨inR_i64.2 (by omega), mL_lt hi, ?_⟩⟩
  rw [if_neg a] at hQ1 hQ2
  exact (show s17 l f _ ns ns.length (i + 1) Q from ⟨⟨nx, rfl⟩, hQ1, hQ2⟩)
theorem ok17L : Lp2Ok Try.prog 17 0 lc17 := lp2_of (n := 5) (ex := ex17) (m := fun (_, _, _, ns, _, i, _) => mL ns i) (good2_nil _) fun (l, f, m, ns, k, i, ()) Q hx => h17L l f m ns k i Q hx
theorem sound_cases {f : Fd} {l : List Int} {K : dens [.b, E] → Prop} (hK : K (okF f && (planB f l && soundB f l), soundE f l, ())) : (okF f = false → K (false, chkE f, ())) ∧ (okF f = true → (planB f l = false → K (false, 93, ())) ∧ (planB f l = true → K (soundB f l, 0, ()))) := by
  unfold soundE at hK
  refine ⟨fun h => ?_, fun h => ⟨fun g => ?_, fun g => ?_⟩⟩
  · unfold chkE; rw [h] at hK ⊢; simpa using hK
  · rw [h, g] at hK; simpa using hK
  · rw [h, g] at hK; simpa using hK
theorem ok17 : FnOk Try.prog 17 fcSound := fn1_of (n := 5) (((((good2_nil _).addL2 ok17L).addF ok54).addF ok47).addF ok29) fun (f, l, ()) K hx => by
  obtain ⟨⟨hb, hl⟩, hK⟩ := hx
  obtain ⟨k1, k2⟩ := sound_cases (f := f) (l := l) hK
  rw [v17F, chkE_ne]
  simp only [fork_iff, Bool.not_eq_true', Bool.not_eq_false']
  refine ⟨hb, k1, fun h => ⟨⟨h, hl⟩, (k2 h).1, fun g => ⟨h, ⟨okS_0 h g, trivial⟩, fun s => ?_, fun s => ?_⟩⟩⟩
  · have := (k2 h).2 g; unfold soundB at this; rw [List.drop_zero] at s; rw [s] at this; exact this
  · have := (k2 h).2 g; unfold soundB at this; rw [List.drop_zero] at s; rw [s] at this; exact this
end Go.P9
