/- Funds: plans, flows, sound plans: the code keeps its contracts. No conditions. -/
import Derived.Test.YtfbpaonmegmcgaaGreatTaPlanS
import Derived.Test.YtfbpaonmegmcgaaGreatTaNeedsP
set_option linter.all false
set_option maxRecDepth 100000
namespace Go.P9
open Go.Lom Go.Proofs Go
theorem planC_step {f : Fd} {l : List Int} {i : Int} (h0 : 0 <= i) (h1 : i < l.length) : planC f l i = (decide (0 <= l.getD i.toNat 0 /\ l.getD i.toNat 0 <= (fSell f).getD i.toNat 0) && planC f l (i + 1)) := by
 unfold planC
 rw [drop_step 0 h0 (by simpa using h1), List.all_cons, range_get h0 h1]
theorem planC_end {f : Fd} {l : List Int} {i : Int} (h1 : ¬ i < l.length) : planC f l i = true := by
 unfold planC; rw [drop_end (by simpa using h1)]; rfl
theorem h47L (l : List Int) (f : Fd) (l' : List Int) (m i : Int) (Q : LQ) : s47 l f l' m i Q -> xloop2 Tryz.prog { f := [(31, fcWith)] } 5 17 0 lc47 ex47 (fun (l, _, _, _, i, _) => mL l i) (l, f, l', m, i, ()) Q := by
 intro ⟨⟨hf, h1, hl, hm, h2, h3⟩, hQ1, hQ2⟩
 rw [v47L]
 subst hm
 cases hl
 have hA := okA_iff.1 (okF_parts hf).1
 simp only [fork_iff, req_iff, decide_eq_true_eq, decide_eq_false_iff_not, Bool.not_eq_true', Bool.not_eq_false']
 refine ⟨fun hi => ?_, fun hi => hQ1 (planC_end hi)⟩
 rw [planC_step h2 hi] at hQ1 hQ2
 have hs : i < (fSell f).length := by omega
 dsimp only [fSell] at *
 refine ⟨⟨h2, hi⟩, ⟨h2, hs⟩, fun a => hQ2 (by rw [decide_eq_false a]; rfl), fun a => ⟨inR_i64.2 (by omega), mL_lt hi, ?_⟩⟩
 rw [decide_eq_true a, Bool.true_and] at hQ1 hQ2
 exact (show s47 l f l l.length (i + 1) Q from ⟨⟨hf, h1, rfl, rfl, by omega, by omega⟩, hQ1, hQ2⟩)
theorem ok47L : Lp2Ok Tryz.prog 17 0 lc47 := lp2_of (n := 5) (ex := ex47) (m := fun (l, _, _, _, i, _) => mL l i) ((good2_nil _).addF ok71) fun (l, f, l', m, i, ()) Q hx => h47L l f l' m i Q hx
theorem sell_bd {f : Fd} (hf : okF f = true) {i : Int} (h0 : 0 <= i) (h1 : i < (fIn f).length) : (fSell f).getD i.toNat 0 <= 64 := (dayOk_iff.1 (day_at hf h0 h1)).2.2.1.2
theorem planC_in {f : Fd} (hf : okF f = true) {l : List Int} (hl : l.length = (fIn f).length) (h : planC f l 0 = true) : ∀ i : Int, 0 <= i -> i < l.length -> 0 <= l.getD i.toNat 0 /\ l.getD i.toNat 0 <= 64 := fun i h0 h1 => by
 have h2 := List.all_eq_true.1 h i.toNat (by simp; omega)
 have h3 := of_decide_eq_true h2
 have := sell_bd hf h0 (by omega)
 omega
theorem planC_mem {f : Fd} (hf : okF f = true) {l : List Int} (hl : l.length = (fIn f).length) (h : planC f l 0 = true) : ∀ x ∈ l, 0 <= x /\ x <= 1073741824 := fun x hx => by
 obtain ⟨i, hi, rfl⟩ := List.getElem_of_mem hx
 have := planC_in hf hl h (i : Int) (by omega) (by omega)
 rw [Int.toNat_natCast, getD_eq hi] at this
 omega
theorem planB_split {f : Fd} {l : List Int} {K : Bool -> Prop} (hK : K (planB f l)) : (¬ l.length = (fIn f).length -> K false) /\ (l.length = (fIn f).length -> (planC f l 0 = true -> K (decide (l.sum <= fBars f))) /\ (planC f l 0 = false -> K false)) := by
 unfold planB at hK
 refine ⟨fun h => ?_, fun h => ⟨fun g => ?_, fun g => ?_⟩⟩
 ·rw [decide_eq_false h] at hK; exact hK
 ·rw [decide_eq_true h, g] at hK; exact hK
 ·rw [decide_eq_true h, g] at hK; exact hK
theorem plan_fit {f : Fd} (hf : okF f = true) {l : List Int} (hl : l.length = (fIn f).length) (h : planC f l 0 = true) : l.length <= 9223372036854775807 /\ fitS 0 l := by
 have hA := okA_iff.1 (okF_parts hf).1
 exact ⟨by omega, fit_of l 0 (planC_mem hf hl h) (by omega) (by omega)⟩
theorem ok47 : FnOk Tryz.prog 17 fcPlan := fn1_of (n := 5) (((good2_nil _).addL2 ok47L).addF ok74) fun (f, l, ()) K hx => by
 obtain ⟨⟨hf, hl⟩, hK⟩ := hx
 obtain ⟨k1, k2⟩ := planB_split (K := fun b => K (b, ())) hK
 rw [v47F]
 simp only [fork_iff, bne_len, bne_len']
 exact ⟨fun h => k1 h, fun h => ⟨⟨hf, h, trivial, trivial, by omega, by omega⟩, fun g => ⟨plan_fit hf h g, trivial, (k2 h).1 g⟩, fun g => (k2 h).2 g⟩⟩
theorem spanC_step {l : List Int} {s : List (Int × Int)} {i : Int} (h0 : 0 <= i) (h1 : i < s.length) : spanC l s i = (decide ((s.getD i.toNat (0, 0)).1 <= l.getD i.toNat 0 /\ l.getD i.toNat 0 <= (s.getD i.toNat (0, 0)).2) && spanC l s (i + 1)) := by
 unfold spanC
 rw [drop_step 0 h0 (by simpa using h1), List.all_cons, range_get h0 h1]
theorem spanC_end {l : List Int} {s : List (Int × Int)} {i : Int} (h1 : ¬ i < s.length) : spanC l s i = true := by
 unfold spanC; rw [drop_end (by simpa using h1)]; rfl
theorem ok49L : Lp2Ok Tryz.prog 19 0 lc49 := lp2_of (n := 5) (ex := ex49) (m := fun (_, s, _, i, _) => mL s i) ((good2_nil _).addF ok71) fun (l, s, m, i, ()) Q hx => by
 obtain ⟨⟨h1, h2, hm, h3, h4⟩, hQ1, hQ2⟩ := hx
 rw [v49L]
 subst hm
 simp only [fork_iff, req_iff, decide_eq_true_eq, decide_eq_false_iff_not, Bool.not_eq_true', Bool.not_eq_false']
 refine ⟨fun hi => ?_, fun hi => hQ1 (spanC_end hi)⟩
 rw [spanC_step h3 hi] at hQ1 hQ2
 have h5 : s.length <= 9223372036854775807 := Nat.le_trans (Nat.le_of_eq h1.symm) h2
 have h6 : i < (l.length : Int) := by rw [show l.length = s.length from h1]; exact hi
 refine ⟨⟨h3, hi⟩, ⟨h3, h6⟩, fun a => hQ2 (by rw [decide_eq_false a]; rfl), fun a => ⟨inR_i64.2 (by omega), mL_lt hi, ?_⟩⟩
 rw [decide_eq_true a, Bool.true_and] at hQ1 hQ2
 exact (show s49 l s s.length (i + 1) Q from ⟨⟨h1, h2, rfl, by omega, by omega⟩, hQ1, hQ2⟩)
theorem ok49 : FnOk Tryz.prog 19 fcFlow := fn1_of (n := 5) ((good2_nil _).addL2 ok49L) fun (l, s, ()) K hx => by
 obtain ⟨⟨h1, h2⟩, hK⟩ := hx
 have hK : K (flowB l s, ()) := hK
 rw [v49F]
 unfold flowB at hK
 simp only [fork_iff, bne_len, bne_len']
 refine ⟨fun h => ?_, fun h => ⟨⟨h, h1, trivial, by omega, by omega⟩, fun g => ?_, fun g => ?_⟩⟩
 ·rw [decide_eq_false h] at hK; exact hK
 ·rw [decide_eq_true h, g] at hK; exact hK
 ·rw [decide_eq_true h, g] at hK; exact hK
end Go.P9
