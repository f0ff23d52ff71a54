/- Funds: the law of plans that fail: the code keeps its contracts. No conditions. -/
import Derived.Test.YtklleedcdjkpeaaFailL
set_option linter.constructorNameAsVariable false
set_option linter.unusedVariables false
set_option linter.unusedSimpArgs false
set_option maxRecDepth 100000
namespace Go.P9
open Go.Lom Go.Proofs Go

theorem lows_len (s : List (Int × Int)) : (lowsL s).length = s.length := by simp [lowsL]
theorem lows_get (s : List (Int × Int)) (u : Nat) : (lowsL s).getD u 0 = (s.getD u (0, 0)).1 := by
  unfold lowsL
  rw [List.getD_eq_getElem?_getD, List.getD_eq_getElem?_getD, List.getElem?_map]
  cases s[u]? <;> rfl
theorem ok45L : Lp2Ok Try.prog 45 0 lc45 := lp2_of (n := 5) (ex := fun _ => some (sh45e, 1)) (m := fun (s, _, i, _) => mL s i) (good2_nil _) fun (s, out, i, ()) Q hx => by
  obtain ⟨⟨h0, h1, h2, h3⟩, hQ⟩ := hx
  rw [v45L]
  rw [seg_app3, seg_all' (l := out) rfl]
  have hm : maxLen = 9223372036854775807 := rfl
  simp only [fork_iff, req_iff, decide_eq_true_eq, decide_eq_false_iff_not, Nat.zero_add]
  refine ⟨fun hi => ⟨⟨h1, hi⟩, Nat.le_refl _, ?_, inR_i64.2 (by omega), by simp [seg], mL_lt hi, ?_⟩, fun hi => ⟨Nat.le_refl _, ?_⟩⟩
  · simp only [fitsN, Bool.and_eq_true, Nat.ble_eq]
    have : ∀ x : Int, (seg 0 1 [x]).length = 1 := fun x => rfl
    rw [this]; omega
  · rw [drop_step (0, 0) h1 hi] at hQ
    refine (show s45 s (out ++ [(s.getD i.toNat (0, 0)).1]) (i + 1) Q from ⟨⟨h0, by omega, by omega, by simp; omega⟩, ?_⟩)
    rw [List.append_assoc]; exact hQ
  · rw [drop_end hi] at hQ
    simpa [lowsL] using hQ
theorem ok45 : FnOk Try.prog 45 fcLows := fn1_of (n := 5) ((good2_nil _).addL2 ok45L) fun (s, ()) K hx => by
  obtain ⟨h0, hK⟩ := hx
  have hK : K (lowsL s, ()) := hK
  rw [v45F]
  have e := seg_all' (l := lowsL s) rfl
  simp only [req_iff, decide_eq_true_eq, List.nil_append, Nat.zero_add, List.drop_zero, e]
  exact ⟨⟨h0, by omega, by omega, by simp⟩, Nat.le_refl _, hK⟩
theorem lows_flow {s : List (Int × Int)} (h : ∀ d, d < s.length → (s.getD d (0, 0)).1 ≤ (s.getD d (0, 0)).2) : flowB (lowsL s) s = true := by
  unfold flowB spanC
  rw [decide_eq_true (lows_len s), Bool.true_and]
  simp only [Int.toNat_zero, List.drop_zero]
  refine List.all_eq_true.2 fun k hk => decide_eq_true ?_
  have hk : k < s.length := by simpa using hk
  rw [lows_get]
  exact ⟨Int.le_refl _, h k hk⟩
abbrev lowC (f : Fd) (l : List Int) (t : Int) : Cs := (l, exR f t, lowsL (fIn f), lowsL (fPrices f))
theorem lowC_ok {f : Fd} {l : List Int} {t : Int} (hf : okF f = true) (hp : planB f l = true) (ht : dayIn f t) : folE f (lowC f l t) = 0 := by
  have hA := okA_iff.1 (okF_parts hf).1
  have h1 : flowB (lowsL (fIn f)) (fIn f) = true := lows_flow fun d hd => by
    have := day_bd hf (i := (d : Int)) (by omega) (by omega); rw [Int.toNat_natCast] at this; omega
  have h2 : flowB (lowsL (fPrices f)) (fPrices f) = true := lows_flow fun d hd => by
    have := price_bd hf (i := (d : Int)) (by omega) (by omega); rw [Int.toNat_natCast] at this; omega
  unfold folE
  rw [if_pos hf, if_pos hp, if_pos (exR_allow hf ht), if_pos ⟨h1, h2⟩]
theorem fol_cash {f : Fd} {l : List Int} {t : Nat} (hf : okF f = true) (hp : planB f l = true) (ht : dayIn f (t : Int)) :
    (folR f (lowC f l t)).getD t 0 = SS (fun j => l.getD j 0 * ((fPrices f).getD j (0, 0)).1) (t + 1) - (needsL f).getD t 0 := by
  have hlt : t < (fIn f).length := by unfold dayIn at ht; omega
  unfold folR
  rw [if_pos (lowC_ok hf hp ht)]
  unfold folL needsL
  have h1 := folK_at f (lowC f l t) (fIn f).length 0 (fCash f) t hlt
  have h2 := needsK_at f (fIn f).length 0 (-(fCash f)) t hlt
  simp only [Nat.zero_add] at h1 h2
  rw [show ((0 : Nat) : Int) = 0 from rfl] at h1 h2
  rw [h1, h2, SS_sub, take_by, exR_by hf ht]
  have e : SS (fun u => flowI f (lowC f l t) ((u : Nat) : Int) 0) (t + 1) = SS (fun u => l.getD u 0 * ((fPrices f).getD u (0, 0)).1 - ((fBonds f).getD u 0 - ((fIn f).getD u (0, 0)).1)) (t + 1) := SS_congr fun u _ => by
    show 0 + ((lowsL (fIn f)).getD ((u : Nat) : Int).toNat 0 + l.getD ((u : Nat) : Int).toNat 0 * (lowsL (fPrices f)).getD ((u : Nat) : Int).toNat 0 - (fBonds f).getD ((u : Nat) : Int).toNat 0) = _
    rw [Int.toNat_natCast, lows_get, lows_get]; omega
  rw [e, SS_sub (fun u => l.getD u 0 * ((fPrices f).getD u (0, 0)).1) (fun u => (fBonds f).getD u 0 - ((fIn f).getD u (0, 0)).1)]
  omega
theorem exR_len {f : Fd} (hf : okF f = true) {t : Int} (ht : dayIn f t) : bigR (exR f t) := by
  have := exR_in hf ht
  refine ⟨?_, by have := this.1; omega⟩
  unfold exR; rw [if_pos ⟨hf, ht⟩]
  have := okL_len (worstW_valid hf t).1.1; have := okF_n hf; show (worstW f t).1.length ≤ _; omega
theorem needs_bd {f : Fd} (hf : okF f = true) : ∀ (k i : Nat) (due : Int), i + k ≤ (fIn f).length → -1099511627776 - 1073741824 * (i : Int) ≤ due → due ≤ 1073741824 * (i : Int) → ∀ x ∈ needsK f k i due, -1200000000000 ≤ x ∧ x ≤ 1000000000000
  | 0, _, _, _, _, _, x, hx => by simp [needsK] at hx
  | k + 1, i, due, h, h1, h2, x, hx => by
    have hA := okA_iff.1 (okF_parts hf).1
    have hd := day_bd hf (i := (i : Int)) (by omega) (by omega)
    have wb := worstW_bd hf (i : Int)
    simp only [needsK] at hx
    rcases List.mem_cons.1 hx with rfl | hx
    · unfold dueI; omega
    · rw [show ((i : Nat) : Int) + 1 = ((i + 1 : Nat) : Int) by omega] at hx
      exact needs_bd hf k (i + 1) _ (by omega) (by unfold dueI; omega) (by unfold dueI; omega) x hx
theorem h12L (l : List Int) (f : Fd) (is : Bool) (n : List Int) (br : Int) (fl : Bool) (t : Int) (Q : LQ) : s12 l f is n br fl t Q →
    xloop2 Try.prog { f := [(43, fcExam), (45, fcLows), (14, fcFollow), (41, fcWorstE), (44, fcBy)] } 5 12 0 lc12 ex12 (fun (_, _, _, n, _, _, t, _) => mL n t) (l, f, is, n, br, fl, t, ()) Q := by
  intro ⟨⟨hok, hn, hbr⟩, hQ⟩
  rw [v12L]
  obtain ⟨h1, h2, h3, h4, h5, h6, h7⟩ := id hok
  have hA := okA_iff.1 (okF_parts h1).1
  have hbig := okF_big h1
  obtain ⟨p1, p2, _⟩ := planB_parts h2
  refine fork_iff.2 ⟨fun hi => ?_, fun hi => ?_⟩
  · have hi := of_decide_eq_true hi
    have hi : t < (n.length : Int) := hi
    have hd : dayIn f t := by unfold dayIn; omega
    have ht : ((t.toNat : Nat) : Int) = t := by omega
    have hb := mon_bd hok hi
    have st := sound_step hok hi
    have nx := okS_step hok hi
    have hE : worstE f t = ((worstW f t).1, (worstW f t).2, 0) := by
      rcases worstE_cases f t with ⟨_, e⟩ | ⟨_, _, e⟩
      · exact absurd ⟨h1, hd⟩ e
      · exact e
    have hfe := lowC_ok (l := l) h1 h2 hd
    have hSS : SS (fun j => l.getD j 0 * ((fPrices f).getD j (0, 0)).1) (t.toNat + 1) = br + l.getD t.toNat 0 * ((fPrices f).getD t.toNat (0, 0)).1 := by
      rw [SS_succ, hbr]; rfl
    have hcash := fol_cash (l := l) (t := t.toNat) h1 h2 (by rw [ht]; exact hd)
    rw [ht, hSS, ← hn] at hcash
    have hfl12 : (folR f (lowC f l t)).length = n.length := by
      have key : ∀ (k : Nat) (d m : Int), (folK f (lowC f l t) k d m).length = k := by
        intro k
        induction k with
        | zero => intro d m; rfl
        | succ k ih => intro d m; simp only [folK, List.length_cons, ih]
      unfold folR; rw [if_pos hfe]; unfold folL; rw [key, h3]
    have hnb : -1100000000000 ≤ n.getD t.toNat 0 ∧ n.getD t.toNat 0 ≤ 1100000000000 ∨ True := .inr trivial
    have nd := needsK_at f (fIn f).length 0 (-(fCash f)) t.toNat (by omega)
    have wb := worstW_bd h1 t
    have hv := (worstW_valid h1 t).1
    have hsp : ∀ fl' : Bool, (fl' || !soundN f l (n.drop (t + 1).toNat) (t + 1) (monI f l t br)) = (fl || !soundN f l (n.drop t.toNat) t br) → LC2.spec lc12 (l, f, is, n, br + l.getD t.toNat 0 * ((fPrices f).getD t.toNat (0, 0)).1, fl', t + 1, ()) Q := fun fl' e =>
      show s12 l f is n (monI f l t br) fl' (t + 1) Q from ⟨⟨nx, hn, by rw [show (t + 1).toNat = t.toNat + 1 by omega]; exact hSS.symm⟩, by rw [e]; exact hQ⟩
    have nbd : -1200000000000 ≤ n.getD t.toNat 0 ∧ n.getD t.toNat 0 ≤ 1000000000000 := by
      have := needs_bd h1 (fIn f).length 0 (-(fCash f)) (by omega) (by omega) (by omega) (n.getD t.toNat 0)
      apply this
      have hm := getD_mem (d := n) (i := t.toNat) (by omega) 0
      rw [hn] at hm ⊢
      exact hm
    have hneg : ∀ c : Int, c = br + l.getD t.toNat 0 * ((fPrices f).getD t.toNat (0, 0)).1 - n.getD t.toNat 0 → (decide (c < 0) || !soundN f l (n.drop (t + 1).toNat) (t + 1) (monI f l t br)) = !soundN f l (n.drop t.toNat) t br := fun c hc => by
      rw [st]
      have em : monI f l t br = br + l.getD t.toNat 0 * ((fPrices f).getD t.toNat (0, 0)).1 := rfl
      by_cases h : monI f l t br < n.getD t.toNat 0
      · rw [if_pos h, decide_eq_true (show c < 0 by omega)]; rfl
      · rw [if_neg h, decide_eq_false (show ¬ c < 0 by omega)]; rfl
    have hbg : bigC (lowC f l t) := ⟨by show l.length ≤ _; omega, exR_len h1 hd, by show (lowsL (fIn f)).length ≤ _; rw [lows_len]; omega, by show (lowsL (fPrices f)).length ≤ _; rw [lows_len]; omega⟩
    have hrl : (((folR f (lowC f l t)).length : Nat) : Int) = (n.length : Int) := by rw [hfl12]
    have hby := exR_by h1 hd
    have hE2 : (worstE f t).2.2 = 0 := by rw [hE]
    have hE1 : (worstE f t).2.1 = (worstW f t).2 := by rw [hE]
    have hE0 : (worstE f t).1 = (worstW f t).1 := by rw [hE]
    have hpl : t < ((fPrices f).length : Int) := by omega
    have hll : t < (l.length : Int) := by omega
    have hIl : (fIn f).length ≤ 1000000 := by omega
    have hPl : (fPrices f).length ≤ 1000000 := by omega
    have ht12 : t ≤ 12 := by omega
    have hin := exR_in h1 hd
    have hvb : ¬ (((worstW f t).1.length : Nat) : Int) > fBegin f := by have := hv.2; omega
    have i1 : inR .i64 (l.getD t.toNat 0 * ((fPrices f).getD t.toNat (0, 0)).1) = true := inR_i64.2 (by omega)
    have i2 : inR .i64 (br + l.getD t.toNat 0 * ((fPrices f).getD t.toNat (0, 0)).1) = true := inR_i64.2 (by omega)
    have i3 : inR .i64 (br + l.getD t.toNat 0 * ((fPrices f).getD t.toNat (0, 0)).1 - n.getD t.toNat 0) = true := inR_i64.2 (by omega)
    have i4 : inR .i64 (t + 1) = true := inR_i64.2 (by omega)
    have hml := mL_lt hi
    have hcash2 : (folR f (lowC f l t)).getD t.toNat 0 = br + l.getD t.toNat 0 * ((fPrices f).getD t.toNat (0, 0)).1 - n.getD t.toNat 0 := hcash
    have htr : t < (((folR f (lowC f l t)).length : Nat) : Int) := by rw [hrl]; exact hi
    refine req_iff.2 ⟨decide_eq_true ⟨h4, hll⟩, req_iff.2 ⟨decide_eq_true ⟨h4, hpl⟩, req_iff.2 ⟨i1, req_iff.2 ⟨i2, hbig, hIl, rfl, rfl, rfl, hPl, rfl, rfl, ⟨hbig, hbg⟩, hbig, ?_⟩⟩⟩⟩
    refine fork_iff.2 ⟨fun e => absurd e (by rw [hE2]; simp), fun _ => ?_⟩
    refine fork_iff.2 ⟨fun e => absurd (show (folE f (lowC f l t) != 0) = true from e) (by rw [hfe]; simp), fun _ => ?_⟩
    refine fork_iff.2 ⟨fun e => absurd e (by rw [hE2]; simp), fun _ => ?_⟩
    refine fork_iff.2 ⟨fun e => absurd (show ((((folR f (lowC f l t)).length : Nat) : Int) != (n.length : Int)) = true from e) (by rw [hrl]; simp), fun _ => ?_⟩
    refine req_iff.2 ⟨decide_eq_true ⟨h4, htr⟩, ?_⟩
    refine req_iff.2 ⟨decide_eq_true ⟨h4, hi⟩, ?_⟩
    refine req_iff.2 ⟨i3, ?_⟩
    refine fork_iff.2 ⟨fun e => absurd (show ((folR f (lowC f l t)).getD t.toNat 0 != br + l.getD t.toNat 0 * ((fPrices f).getD t.toNat (0, 0)).1 - n.getD t.toNat 0) = true from e) (by rw [hcash2]; simp), fun _ => ⟨⟨hin, h4, ht12⟩, ?_⟩⟩
    refine fork_iff.2 ⟨fun e => absurd e (by rw [hby, hE1]; simp), fun _ => ?_⟩
    refine fork_iff.2 ⟨fun e => absurd (show (((worstW f t).1.length : Nat) : Int) > fBegin f by rw [hE0] at e; exact of_decide_eq_true e) hvb, fun _ => ?_⟩
    exact fork_iff.2 ⟨fun hfl => req_iff.2 ⟨i4, hml, hsp true (by rw [hfl]; rfl)⟩, fun hfl => req_iff.2 ⟨decide_eq_true ⟨h4, htr⟩, req_iff.2 ⟨i4, hml, hsp _ (by rw [hfl, Bool.false_or]; exact hneg _ hcash2)⟩⟩⟩
  · have hi := of_decide_eq_false hi
    have hi : ¬ t < (n.length : Int) := hi
    rw [drop_end hi] at hQ
    simpa [soundN] using hQ
theorem ok12L : Lp2Ok Try.prog 12 0 lc12 := lp2_of (n := 5) (ex := ex12) (m := fun (_, _, _, n, _, _, t, _) => mL n t) ((((((good2_nil _).addF ok44).addF ok41).addF ok14).addF ok45).addF ok43) fun (l, f, is, n, br, fl, t, ()) Q hx => h12L l f is n br fl t Q hx
theorem ok12 : FnOk Try.prog 12 fc12 := fn1_of (n := 5) (((((good2_nil _).addL2 ok12L).addF okWorks').addF ok39).addF ok17) fun (f, l, ()) K hx => by
  obtain ⟨⟨hb, hl⟩, hK⟩ := hx
  have hb : bigF f := hb
  rw [v12F]
  refine ⟨⟨hb, hl⟩, fork_iff.2 ⟨fun h => fork_iff.2 ⟨fun _ => hK, fun g => ?_⟩, fun h => ?_⟩⟩
  · have g : (okF f && (planB f l && soundB f l)) = true := by simpa using g
    simp only [Bool.and_eq_true] at g
    have h : (soundE f l != 0) = true := h
    unfold soundE at h
    rw [if_pos g.1, if_pos g.2.1] at h; cases h
  · have h : (soundE f l != 0) = false := h
    have h : soundE f l = 0 := by simpa using h
    have hf : okF f = true := by
      by_cases k : okF f = true
      · exact k
      · unfold soundE at h; rw [if_neg k] at h; cases h
    have hp : planB f l = true := by
      by_cases k : planB f l = true
      · exact k
      · unfold soundE at h; rw [if_pos hf, if_neg k] at h; cases h
    have hA := okA_iff.1 (okF_parts hf).1
    have en : needsR f = needsL f := if_pos hf
    have hnl : (needsL f).length = (fIn f).length := needsK_len _ _ _
    have hll := (planB_parts hp).1
    have hc : chkE f = 0 := by unfold chkE; rw [if_pos hf]
    rw [en, hc]
    refine ⟨hb, fork_iff.2 ⟨fun e => absurd e (by simp), fun _ => ?_⟩⟩
    refine fork_iff.2 ⟨fun e => absurd hnl (bne_len.1 e), fun _ => ?_⟩
    refine fork_iff.2 ⟨fun e => absurd (hll.trans hnl.symm) (bne_len.1 e), fun _ => ?_⟩
    refine fork_iff.2 ⟨fun e => absurd (hA.2.2.2.2.1.trans hnl.symm) (bne_len.1 e), fun _ => ?_⟩
    refine ⟨⟨okS_0 hf hp, rfl, rfl⟩, fork_iff.2 ⟨fun _ => hK, fun e => ?_⟩⟩
    have e : (!(okF f && (planB f l && soundB f l)) == (false || !soundB f l)) = false := e
    rw [hf, hp] at e
    cases k : soundB f l <;> rw [k] at e <;> cases e
end Go.P9
