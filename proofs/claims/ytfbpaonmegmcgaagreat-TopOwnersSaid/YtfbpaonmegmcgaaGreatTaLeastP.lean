/- Funds: the least sound plan, the capital, how many groups a fund bears: the code keeps its contracts. No conditions. -/
import Derived.Test.YtfbpaonmegmcgaaGreatTaLeastS
import Derived.Test.YtfbpaonmegmcgaaGreatTaAskP
set_option linter.all false
set_option maxRecDepth 100000
namespace Go.P9
open Go.Lom Go.Proofs Go
theorem seg_app5 {α : Type} (b : List α) (x : α) : seg 0 (b.length + (seg 0 1 [x]).length) (seg 0 b.length b ++ seg 0 1 [x]) = b ++ [x] := by
 simp [seg]
 exact List.take_of_length_le (by simp)
theorem fits_small {α : Type} {b : List α} {x : α} (h : b.length <= 100) : fitsN (b.length + (seg 0 1 [x]).length) 8 = true := by
 have hm : maxLen = 9223372036854775807 := rfl
 have : (seg 0 1 [x]).length = 1 := rfl
 simp only [fitsN, Bool.and_eq_true, Nat.ble_eq]
 omega
theorem okP_step {f : Fd} {ns : List Int} {B i k m : Int} {out : List Int} (h : okP f ns B i k m out) (hi : i < ns.length) :
  0 <= cF f ns B i k m /\ cF f ns B i k m <= slF f i /\ k + cF f ns B i k m <= B /\ ns.getD i.toNat 0 <= m + cF f ns B i k m * prF f i /\ askF f ns B true (i + 1) (k + cF f ns B i k m) <= m + cF f ns B i k m * prF f i /\
   (∀ c', 0 <= c' -> c' < cF f ns B i k m -> ¬ (ns.getD i.toNat 0 <= m + c' * prF f i /\ askF f ns B true (i + 1) (k + c') <= m + c' * prF f i)) /\
   okP f ns B (i + 1) (k + cF f ns B i k m) (m + cF f ns B i k m * prF f i) (out ++ [cF f ns B i k m]) /\ plK f ns B i k m = cF f ns B i k m :: plK f ns B (i + 1) (k + cF f ns B i k m) (m + cF f ns B i k m * prF f i) := by
 obtain ⟨hN, h0, h1, h2, h3, h4, h5, h6, h7⟩ := h
 obtain ⟨hf, n12, nl, b0, b1, nb⟩ := id hN
 have hb := bdF hf
 have hd := drop_step (l := ns) 0 h0 hi
 have hlen : (ns.drop i.toNat).length <= 12 := by rw [List.length_drop]; omega
 unfold feF at h7
 rw [hd] at h7 hlen
 have hc : cF f ns B i k m = firstC (okCh (prF f) (slF f) B (ns.getD i.toNat 0) (ns.drop (i + 1).toNat) i k m) (askC (slF f) B i k) 0 := rfl
 obtain ⟨k1, k2, k3, k4, k5, k6, k7⟩ := plan_step hb hc (by omega) (by omega) h7
 have hm := mul64 hb k1 k2
 simp only [List.length_cons] at hlen
 have hpl : plK f ns B i k m = cF f ns B i k m :: plK f ns B (i + 1) (k + cF f ns B i k m) (m + cF f ns B i k m * prF f i) := by
  unfold plK
  rw [hd]
  simp only [planK]
  rw [<- hc]
 generalize cF f ns B i k m = c at *
 have ask : ∀ c', 0 <= c' -> c' <= slF f i -> k + c' <= B -> (askF f ns B true (i + 1) (k + c') <= m + c' * prF f i ↔ feas (prF f) (slF f) (· = B) (ns.drop (i + 1).toNat) (i + 1) (k + c') (m + c' * prF f i)) := fun c' g0 g1 g2 => by
  have hm' := mul64 hb g0 g1
  exact ask_iff hb (ex := true) g2 (by omega) (by omega)
 refine ⟨k1, k2, k3, k4, (ask c k1 k2 k3).2 k5, fun c' g0 g1 g2 => k7 c' g0 g1 ⟨g2.1, (ask c' g0 (by omega) (by omega)).1 g2.2⟩, ⟨hN, by omega, by omega, by simp; omega, by omega, by omega, by omega, by omega, k5⟩, hpl⟩
theorem h56b (B : Int) (f : Fd) (a out : List Int) (m k day need n : Int) (ns : List Int) (len i : Int) (Q : LQ) : s56b B f a out m k day need n ns len i Q -> xloop2 Tryz.prog {} 5 30 1 lc56b (fun _ => some (sh56a, 3)) (fun (_, _, _, _, _, _, _, _, n, _, _, _, _) => (66 - n).toNat) (B, f, a, out, m, k, day, need, n, ns, len, i, ()) Q := by
 intro ⟨⟨hP, hR, hd, hi, hn, h0, h1⟩, hQ⟩
 rw [v56b]
 obtain ⟨hN, g0, g1, g2, g3, g4, g5, g6, g7⟩ := id hP
 obtain ⟨hf, n12, nl, b0, b1, nb⟩ := id hN
 have hb := bdF hf
 have hA := okA_iff.1 (okF_parts hf).1
 obtain ⟨k1, k2, k3, k4, k5, k6, k7, k8⟩ := okP_step hP hi
 have hd := hd.symm
 subst hd hn
 have ha := hR.1
 have hs := slF_bd hf i
 have hlp : (i : Int) < f.2.2.2.2.1.length := by have := hA; dsimp only [fPrices, fIn] at *; omega
 have hls : (i : Int) < f.2.2.2.1.length := by have := hA; dsimp only [fSell, fIn] at *; omega
 have hm := mul64 hb h0 (t := i) (c := n) (by omega)
 rw [ixA (by omega) (by omega), seg_app5, seg_all' rfl]
 have hx : a.getD (65 * (i + 1) + (k + n)).toNat 0 = askF f ns B true (i + 1) (k + n) := hR.2 (i + 1) (k + n) (by omega) (by omega) (by omega) (by omega)
 rw [hx]
 have hmm : -9223372036854775808 <= n * prF f i /\ n * prF f i <= 9223372036854775807 := by omega
 have hmm2 : -9223372036854775808 <= m + n * prF f i /\ m + n * prF f i <= 9223372036854775807 := by omega
 have stp : ¬ (ns.getD i.toNat 0 <= m + n * prF f i /\ askF f ns B true (i + 1) (k + n) <= m + n * prF f i) -> (66 - (n + 1)).toNat < (66 - n).toNat /\ LC2.spec lc56b (B, f, a, out, m, k, i, ns.getD i.toNat 0, n + 1, ns, len, i, ()) Q := fun h => by
  have hne : n ≠ cF f ns B i k m := fun e => h (by rw [e]; exact ⟨k4, k5⟩)
  exact ⟨by omega, show s56b B f a out m k i (ns.getD i.toNat 0) (n + 1) ns len i Q from ⟨⟨hP, hR, rfl, hi, rfl, by omega, by omega⟩, hQ⟩⟩
 simp only [fork_iff, req_iff, decide_eq_true_eq, decide_eq_false_iff_not, Nat.zero_add]
 refine ⟨⟨g0, hls⟩, fun c1 => ⟨inR_i64.2 (by omega), fun c2 => ⟨⟨g0, hlp⟩, inR_i64.2 hmm, inR_i64.2 hmm2, fun c3 => ⟨inR_i64.2 (by omega), inR_i64.2 (by omega), ⟨by omega, by omega⟩, ⟨by omega, by omega⟩, by omega, fun c4 => ?_, fun c4 => ?_⟩, fun c3 => ?_⟩, fun c2 => absurd (show k + n <= B by omega) c2⟩, fun c1 => absurd (show n <= slF f i by omega) c1⟩
 ·have e : n = cF f ns B i k m := by
   by_cases e : n = cF f ns B i k m
   ·exact e
   ·exact absurd ⟨c3, c4⟩ (k6 n h0 (by omega))
  refine ⟨inR_i64.2 (by omega), Nat.le_refl _, fits_small (by omega), by simp [seg], ?_⟩
  rw [<- e] at hQ
  exact hQ
 ·exact ⟨inR_i64.2 (by omega), Nat.le_refl _, stp fun h => c4 h.2⟩
 ·exact ⟨inR_i64.2 (by omega), Nat.le_refl _, stp fun h => c3 h.1⟩
theorem ok56b : Lp2Ok Tryz.prog 30 1 lc56b := lp2_of (n := 5) (ex := fun _ => some (sh56a, 3)) (m := fun (_, _, _, _, _, _, _, _, n, _, _, _, _) => (66 - n).toNat) (good2_nil _) fun (B, f, a, out, m, k, day, need, n, ns, len, i, ()) Q hx => h56b B f a out m k day need n ns len i Q hx
theorem h56a (B : Int) (f : Fd) (a out : List Int) (m k : Int) (ns : List Int) (len i : Int) (Q : LQ) : s56a B f a out m k ns len i Q -> xloop2 Tryz.prog { l2 := [(30, 1, lc56b)] } 5 30 0 lc56a (fun _ => some (sh56e, 1)) (fun (_, _, _, _, _, _, ns, _, i, _) => mL ns i) (B, f, a, out, m, k, ns, len, i, ()) Q := by
 intro ⟨⟨hP, hR, hl⟩, hQ⟩
 rw [v56a]
 subst hl
 obtain ⟨hN, g0, g1, g2, g3, g4, g5, g6, g7⟩ := id hP
 obtain ⟨hf, n12, nl, b0, b1, nb⟩ := id hN
 rw [seg_all' (l := out) rfl, seg_all' rfl]
 simp only [fork_iff, req_iff, decide_eq_true_eq, decide_eq_false_iff_not, Nat.zero_add]
 refine ⟨fun hi => ?_, fun hi => ⟨Nat.le_refl _, ?_⟩⟩
 ·obtain ⟨k1, k2, k3, k4, k5, k6, k7, k8⟩ := okP_step hP hi
  refine ⟨⟨g0, hi⟩, Nat.le_refl _, ⟨hP, hR, trivial, hi, trivial, by omega, k1⟩, inR_i64.2 (by omega), Nat.le_refl _, mL_lt hi, show s56a B f a (out ++ [cF f ns B i k m]) _ _ ns ns.length (i + 1) Q from ⟨⟨k7, hR, rfl⟩, ?_⟩⟩
  rw [k8] at hQ
  rw [List.append_assoc]; exact hQ
 ·have : plK f ns B i k m = [] := by unfold plK; rw [drop_end hi]; rfl
  rw [this, List.append_nil] at hQ; exact hQ
theorem ok56a : Lp2Ok Tryz.prog 30 0 lc56a := lp2_of (n := 5) (ex := fun _ => some (sh56e, 1)) (m := fun (_, _, _, _, _, _, ns, _, i, _) => mL ns i) ((good2_nil _).addL2 ok56b) fun (B, f, a, out, m, k, ns, len, i, ()) Q hx => h56a B f a out m k ns len i Q hx
theorem ask0_iff {f : Fd} {ns : List Int} {B : Int} {ex : Bool} (hN : needB f ns B) {m : Int} (h0 : 0 <= m) (h1 : m <= 1125899906842624) : askF f ns B ex 0 0 <= m ↔ feas (prF f) (slF f) (finB B ex) ns 0 0 m := by
 obtain ⟨hf, n12, nl, b0, b1, nb⟩ := id hN
 exact ask_iff (ex := ex) (ns := ns) (t := 0) (k := 0) (B := B) (bdF hf) (by omega) (by omega) (by omega)
theorem ok56 : FnOk Tryz.prog 30 fcPl := fn1_of (n := 5) (((good2_nil _).addL2 ok56a).addF (ok76 true)) fun (f, ns, B, ()) K hx => by
 obtain ⟨hN, hK⟩ := hx
 have hN : needB f ns B := hN
 have hK : K ((planR f ns B).1, (planR f ns B).2, ()) := hK
 rw [v56F]
 refine ⟨⟨hN, rfl⟩, fun r hr => ?_⟩
 have ha := hr.1
 have h0 : r.getD 0 0 = askF f ns B true 0 0 := hr.2 0 0 (by omega) (by omega) (by omega) hN.2.2.2.1
 rw [h0, List.nil_append, seg_all' rfl]
 unfold planR at hK
 simp only [fork_iff, req_iff, decide_eq_true_eq, decide_eq_false_iff_not, Nat.zero_add]
 refine ⟨ha, ha, by omega, fun h => ?_, fun h => ⟨⟨⟨hN, by omega, by omega, by simp, by omega, hN.2.2.2.1, by omega, by omega, (ask0_iff hN (ex := true) (by omega) (by omega)).1 (by omega)⟩, hr, trivial⟩, Nat.le_refl _, ?_⟩⟩
 ·rw [if_pos h] at hK; exact hK
 ·rw [if_neg h] at hK; exact hK
theorem needB_le {f : Fd} {ns : List Int} {B i : Int} (h : needB f ns B) (h0 : 0 <= i) (h1 : i <= B) : needB f ns i := by
 obtain ⟨hf, n12, nl, b0, b1, nb⟩ := h
 exact ⟨hf, n12, nl, h0, by omega, nb⟩
theorem needsK_bd {f : Fd} (hf : okF f = true) : ∀ (k : Nat) (i due : Int), 0 <= i -> i + k <= (fIn f).length -> -1099511627776 - 1073741824 * i <= due -> due <= 1073741824 * i -> ∀ x ∈ needsK f k i due, -1125899906842624 <= x /\ x <= 1125899906842624
 | 0, _, _, _, _, _, _, x, hx => by simp [needsK] at hx
 | k + 1, i, due, h0, h1, h2, h3, x, hx => by
  have hA := okA_iff.1 (okF_parts hf).1
  have hd := day_bd hf h0 (by omega)
  have hw := worstW_bd hf i
  have hdue : dueI f i due = due + ((fBonds f).getD i.toNat 0 - ((fIn f).getD i.toNat (0, 0)).1) := rfl
  simp only [needsK, List.mem_cons] at hx
  rcases hx with rfl | hx
  ·omega
  ·exact needsK_bd hf k (i + 1) (dueI f i due) (by omega) (by omega) (by omega) (by omega) x hx
theorem needsL_B {f : Fd} (hf : okF f = true) : needB f (needsL f) (fBars f) := by
 have hA := okA_iff.1 (okF_parts hf).1
 have hB := okB_iff.1 (okF_parts hf).2.2.1
 have e : (needsL f).length = (fIn f).length := needsK_len _ _ _
 exact ⟨hf, by omega, e, hB.2.2.2.2.1, hB.2.2.2.2.2, needsK_bd hf _ 0 _ (by omega) (by omega) (by omega) (by omega)⟩
theorem planR_cases {f : Fd} {ns : List Int} {B : Int} : ((planR f ns B).2 = true -> askF f ns B true 0 0 <= 0 /\ (planR f ns B).1 = plK f ns B 0 0 0) /\ ((planR f ns B).2 = false -> ¬ askF f ns B true 0 0 <= 0) := by
 unfold planR
 split
 ·exact ⟨fun h => by simp at h, fun _ => by omega⟩
 ·exact ⟨fun _ => ⟨by omega, rfl⟩, fun h => by simp at h⟩
theorem ok20L : Lp2Ok Tryz.prog 16 0 lc20 := lp2_of (n := 5) (ex := ex20) (m := fun (_, _, m, i, _) => (m - i).toNat) ((good2_nil _).addF ok56) fun (f, ns, m, i, ()) Q hx => by
 obtain ⟨⟨hN, hm, h0, h1⟩, hQ1, hQ2⟩ := hx
 rw [v20L]
 have hm : m = fBars f + 1 := hm
 have hb := hN.2.2.2.2.1
 obtain ⟨p1, p2⟩ := planR_cases (f := f) (ns := ns) (B := i)
 simp only [fork_iff, req_iff, decide_eq_true_eq, decide_eq_false_iff_not]
 refine ⟨fun hi => ⟨needB_le hN h0 (by omega), fun c => ?_, fun c => ⟨inR_i64.2 (by omega), by omega, ?_⟩⟩, fun hi => hQ1 ?_⟩
 ·obtain ⟨q1, q2⟩ := p1 c
  rw [q2]
  refine hQ2 i ?_ h0
  rw [show (m - i).toNat = (m - (i + 1)).toNat + 1 by omega]
  simp only [fewI]
  rw [if_pos q1]
 ·have q := p2 c
  rw [show (m - i).toNat = (m - (i + 1)).toNat + 1 by omega] at hQ1 hQ2
  simp only [fewI] at hQ1 hQ2
  rw [if_neg q] at hQ1 hQ2
  exact (show s20 f ns m (i + 1) Q from ⟨⟨hN, hm, by omega, by omega⟩, hQ1, hQ2⟩)
 ·rw [show (m - i).toNat = 0 by omega]
  simp [fewI]
theorem ok20 : FnOk Tryz.prog 16 fcLeast := fn1_of (n := 5) ((((good2_nil _).addL2 ok20L).addF ok54).addF ok29) fun (f, ()) K hx => by
 obtain ⟨hb, hK⟩ := hx
 have hb : bigF f := hb
 have hK : K ((leastR f).1, (leastR f).2.1, (leastR f).2.2, ()) := hK
 rw [v20F, chkE_ne, show f.2.2.2.2.2.2.2.2 = fBars f from rfl]
 unfold leastR at hK
 simp only [fork_iff, req_iff, Bool.not_eq_true', Bool.not_eq_false']
 refine ⟨hb, fun h => ?_, fun h => ?_⟩
 ·unfold chkE; rw [h] at hK ⊢; exact hK
 ·have hN := needsL_B h
  have hB := okB_iff.1 (okF_parts h).2.2.1
  rw [if_pos h] at hK
  have e : fewI f (needsL f) (fBars f + 1 - 0).toNat 0 = fewN f (needsL f) := by rw [Int.sub_zero]; rfl
  rw [e]
  refine ⟨h, inR_i64.2 (by omega), ⟨hN, trivial, by omega, by omega⟩, fun c => ?_, fun b hb0 hb1 => ?_⟩
  ·rw [if_pos c] at hK; exact hK
  ·subst hb0
   rw [if_neg (by omega)] at hK; exact hK
theorem ok22 : FnOk Tryz.prog 7 fcPlanE := fn1_of (n := 5) ((good2_nil _).addF ok20) fun (f, ()) K hx => by
 obtain ⟨hb, hK⟩ := hx
 rw [v22F]
 exact ⟨hb, hK⟩
theorem ok60 : FnOk Tryz.prog 11 fcLack := fn1_of (n := 5) (((good2_nil _).addF (ok76 false)).addF ok54) fun (f, ()) K hx => by
 obtain ⟨hf, hK⟩ := hx
 have hf : okF f = true := hf
 have hK : K (lackF f, ()) := hK
 have hN := needsL_B hf
 rw [v60F]
 refine ⟨hf, rfl, rfl, ⟨hN, rfl⟩, fun r hr => ⟨rfl, rfl, rfl, ?_⟩⟩
 have ha := hr.1
 have h0 : r.getD 0 0 = askF f (needsL f) (fBars f) false 0 0 := hr.2 0 0 (by omega) (by omega) (by omega) hN.2.2.2.1
 rw [h0]
 simp only [req_iff, decide_eq_true_eq]
 exact ⟨ha, ha, by omega, hK⟩
theorem ok23 : FnOk Tryz.prog 4 fcCap := fn1_of (n := 5) (((good2_nil _).addF ok60).addF ok29) fun (f, ()) K hx => by
 obtain ⟨hb, hK⟩ := hx
 have hb : bigF f := hb
 have hK : K (capR f, chkE f, ()) := hK
 rw [v23F, chkE_ne]
 unfold capR at hK
 simp only [fork_iff, Bool.not_eq_true', Bool.not_eq_false']
 refine ⟨hb, fun h => ?_, fun h => ⟨h, ?_⟩⟩
 ·rw [h] at hK; exact hK
 ·unfold chkE at hK; rw [h] at hK; exact hK
end Go.P9
