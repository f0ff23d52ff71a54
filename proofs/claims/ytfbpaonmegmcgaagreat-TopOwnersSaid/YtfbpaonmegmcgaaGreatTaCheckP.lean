/- Funds: what is valid: the code keeps its contracts. No conditions. -/
import Derived.Test.YtfbpaonmegmcgaaGreatTaCheckS
import Derived.Test.YtfbpaonmegmcgaaGreatTaBaseP
set_option linter.all false
set_option maxRecDepth 100000
namespace Go.P9
open Go.Lom Go.Proofs Go
theorem and_iff3 {a b c d : Bool} : (a && (b && (c && d))) = true ↔ a = true /\ b = true /\ c = true /\ d = true := by simp [and_assoc]
theorem dayOk_iff {f : Fd} {j : Nat} : dayOk f j = true ↔ spanB ((fIn f).getD j (0, 0)) 1073741824 = true /\ (0 <= (fBonds f).getD j 0 /\ (fBonds f).getD j 0 <= 1073741824) /\ (0 <= (fSell f).getD j 0 /\ (fSell f).getD j 0 <= 64) /\ spanB ((fPrices f).getD j (0, 0)) 1048576 = true := by
 unfold dayOk; rw [and_iff3, decide_eq_true_eq, decide_eq_true_eq]
theorem grpOk_iff {g : Int × Int × Int} : grpOk g = true ↔ (0 <= g.1 /\ g.1 <= 1073741824) /\ (0 <= g.2.1 /\ g.2.1 <= 1073741824) /\ (0 <= g.2.2 /\ g.2.2 <= 12) := by
 unfold grpOk; simp only [Bool.and_eq_true, decide_eq_true_eq]
theorem wayOk_iff {n : Nat} {w : Int × Int × Int} : wayOk n w = true ↔ (0 <= w.1 /\ w.1 <= (n : Int) - 1) /\ (0 <= w.2.1 /\ w.2.1 <= (n : Int) - 1) /\ w.1 ≠ w.2.1 /\ (0 <= w.2.2 /\ w.2.2 <= 12) := by
 unfold wayOk; simp only [Bool.and_eq_true, decide_eq_true_eq]
theorem okA_iff {f : Fd} : okA f = true ↔ 1 <= (fIn f).length /\ (fIn f).length <= 12 /\ (fBonds f).length = (fIn f).length /\ (fSell f).length = (fIn f).length /\ (fPrices f).length = (fIn f).length /\ 0 <= fCash f /\ fCash f <= 1099511627776 := decide_eq_true_iff
theorem okB_iff {f : Fd} : okB f = true ↔ (fGroups f).length <= 8 /\ (fWays f).length <= 24 /\ 0 <= fBegin f /\ fBegin f <= (fGroups f).length /\ 0 <= fBars f /\ fBars f <= 64 := decide_eq_true_iff
theorem daysOk_step {f : Fd} {i : Int} (h0 : 0 <= i) (h1 : i < (fIn f).length) : daysOk f i = (dayOk f i.toNat && daysOk f (i + 1)) := by
 unfold daysOk
 rw [drop_step 0 h0 (by simpa using h1), List.all_cons]
 have : (List.range (fIn f).length).getD i.toNat 0 = i.toNat := by
  rw [List.getD_eq_getElem?_getD, List.getElem?_range (by omega)]; rfl
 rw [this]
theorem daysOk_end {f : Fd} {i : Int} (h1 : ¬ i < (fIn f).length) : daysOk f i = true := by
 unfold daysOk; rw [drop_end (by simpa using h1)]; rfl
theorem h64a (f : Fd) (n i : Int) (Q : LQ) : s64a f n i Q -> xloop2 Tryz.prog { f := [(31, fcWith), (35, fcSpan)] } 5 21 0 lc64a ex64a (fun x => (x.2.1 - x.2.2.1).toNat) (f, n, i, ()) Q := by
 intro ⟨⟨h0, h1, hn, hA⟩, hQ1, hQ2⟩
 rw [v64a]
 subst hn
 simp only [fork_iff, req_iff, decide_eq_true_eq, decide_eq_false_iff_not, Bool.not_eq_true', Bool.not_eq_false']
 have ha := okA_iff.1 hA
 refine ⟨fun hi => ?_, fun hi => hQ1 (daysOk_end hi)⟩
 rw [daysOk_step h0 hi] at hQ1 hQ2
 dsimp only [fIn, fBonds, fSell, fPrices, fCash, fGroups, fWays, fBegin, fBars] at *
 have bad : ¬ dayOk f i.toNat = true -> Q .ret (stS 0 shR2 (false, ())) := fun h => hQ2 (by rw [Bool.not_eq_true] at h; rw [h]; rfl)
 have go : dayOk f i.toNat = true -> inR .i64 (i + 1) = true /\ (((f.2.1.length : Int) - (i + 1)).toNat < ((f.2.1.length : Int) - i).toNat /\ LC2.spec lc64a (f, (f.2.1.length : Int), i + 1, ()) Q) := fun h => by
  rw [h, Bool.true_and] at hQ1 hQ2
  exact ⟨inR_i64.2 (by omega), by omega, show s64a f (f.2.1.length) (i + 1) Q from ⟨⟨by omega, by omega, rfl, hA⟩, hQ1, hQ2⟩⟩
 refine ⟨⟨h0, hi⟩, fun a => bad fun h => (by have := (dayOk_iff.1 h).1; rw [this] at a; cases a), fun a => ⟨⟨h0, by omega⟩, fun b => bad fun h => b (dayOk_iff.1 h).2.1, fun b => ⟨⟨h0, by omega⟩, fun c => bad fun h => c (dayOk_iff.1 h).2.2.1, fun c => ⟨⟨h0, by omega⟩, fun d => bad fun h => (by have := (dayOk_iff.1 h).2.2.2; rw [this] at d; cases d), fun d => go (dayOk_iff.2 ⟨a, b, c, d⟩)⟩⟩⟩⟩
theorem ok64a : Lp2Ok Tryz.prog 21 0 lc64a := lp2_of (n := 5) (ex := ex64a) (m := fun x => (x.2.1 - x.2.2.1).toNat) (((good2_nil _).addF ok78).addF ok71) fun (f, n, i, ()) Q hx => h64a f n i Q hx
theorem h64b (f : Fd) (l : List (Int × Int × Int)) (n i : Int) (Q : LQ) : s64b f l n i Q -> xloop2 Tryz.prog { f := [(31, fcWith)] } 5 21 1 lc64b ex64b (fun x => mL x.2.1 x.2.2.2.1) (f, l, n, i, ()) Q := by
 intro ⟨⟨h0, h1, hn, h8⟩, hQ1, hQ2⟩
 rw [v64b]
 subst hn
 simp only [fork_iff, req_iff, decide_eq_true_eq, decide_eq_false_iff_not, Bool.not_eq_true', Bool.not_eq_false']
 refine ⟨fun hi => ?_, fun hi => hQ1 (by rw [drop_end hi]; rfl)⟩
 rw [drop_step (0, 0, 0) h0 hi, List.all_cons] at hQ1 hQ2
 generalize l.getD i.toNat (0, 0, 0) = g at *
 have bad : ¬ grpOk g = true -> Q .ret (stS 0 shR2 (false, ())) := fun h => hQ2 (by rw [Bool.not_eq_true] at h; rw [h]; rfl)
 have go : grpOk g = true -> inR .i64 (i + 1) = true /\ (mL l (i + 1) < mL l i /\ LC2.spec lc64b (f, l, (l.length : Int), i + 1, ()) Q) := fun h => by
  rw [h, Bool.true_and] at hQ1 hQ2
  exact ⟨inR_i64.2 (by omega), mL_lt hi, show s64b f l l.length (i + 1) Q from ⟨⟨by omega, by omega, rfl, h8⟩, hQ1, hQ2⟩⟩
 exact ⟨⟨h0, hi⟩, fun a => bad fun h => a (grpOk_iff.1 h).1, fun a => ⟨fun b => bad fun h => b (grpOk_iff.1 h).2.1, fun b => ⟨fun c => bad fun h => c (grpOk_iff.1 h).2.2, fun c => go (grpOk_iff.2 ⟨a, b, c⟩)⟩⟩⟩
theorem ok64b : Lp2Ok Tryz.prog 21 1 lc64b := lp2_of (n := 5) (ex := ex64b) (m := fun x => mL x.2.1 x.2.2.2.1) ((good2_nil _).addF ok71) fun (f, l, n, i, ()) Q hx => h64b f l n i Q hx
theorem h80F (w : Int × Int × Int) (f : Fd) (K : dens [.b] -> Prop) : (bigF f /\ K (!wayOk (fGroups f).length w, ())) -> xfn1 Tryz.prog { f := [(31, fcWith)] } 5 37 fc80 (w, f, ()) K := by
 intro ⟨hb, hK⟩
 rw [v80F]
 have h5 := hb.2.2.2.2.1
 dsimp only [fIn, fBonds, fSell, fPrices, fCash, fGroups, fWays, fBegin, fBars] at *
 simp only [fork_iff, req_iff, decide_eq_true_eq, decide_eq_false_iff_not, Bool.not_eq_true', Bool.not_eq_false', beq_iff_eq, beq_eq_false_iff_ne]
 have bad : ¬ wayOk (fGroups f).length w = true -> K (true, ()) := fun h => by rw [Bool.not_eq_true] at h; rw [h] at hK; exact hK
 refine ⟨inR_i64.2 (by omega), fun a => bad fun h => a (wayOk_iff.1 h).1, fun a => ⟨inR_i64.2 (by omega), fun b => bad fun h => b (wayOk_iff.1 h).2.1, fun b => ⟨fun c => bad fun h => (wayOk_iff.1 h).2.2.1 c, fun c => ?_⟩⟩⟩
 by_cases d : 0 <= w.2.2 /\ w.2.2 <= 12
 ·rw [wayOk_iff.2 ⟨a, b, c, d⟩] at hK; rw [decide_eq_true d]; exact hK
 ·rw [decide_eq_false d]; exact bad fun h => d (wayOk_iff.1 h).2.2.2
theorem ok80 : FnOk Tryz.prog 37 fc80 := fn1_of (n := 5) ((good2_nil _).addF ok71) fun (w, f, ()) K hx => h80F w f K hx
theorem firstIx_ge {α : Type} (p : α -> Bool) : ∀ (l : List α) (i : Int), 0 <= i -> (l.any p = false -> firstIx p l i = -1) /\ (l.any p = true -> 0 <= firstIx p l i)
 | [], i, _ => ⟨fun _ => rfl, fun h => by simp at h⟩
 | x :: l, i, h => by
  obtain ⟨h1, h2⟩ := firstIx_ge p l (i + 1) (by omega)
  simp only [firstIx, List.any_cons]
  by_cases hp : p x = true
  ·rw [if_pos hp, hp]; exact ⟨fun h => (by cases h), fun _ => h⟩
  ·rw [if_neg hp, (Bool.not_eq_true _).mp hp]; exact ⟨h1, h2⟩
theorem h85L (l : List (Int × Int × Int)) (f : Fd) (m i : Int) (Q : LQ) : s85 l f m i Q -> xloop2 Tryz.prog { f := [(37, fc80)] } 5 52 0 lc85 ex85 (fun x => mL x.1 x.2.2.2.1) (l, ((), f, ()), m, i, ()) Q := by
 intro ⟨⟨h0, h1, hm, h2, hb⟩, hQ1, hQ2⟩
 rw [v85L]
 subst hm
 simp only [fork_iff, req_iff, decide_eq_true_eq, decide_eq_false_iff_not, Bool.not_eq_true', Bool.not_eq_false']
 refine ⟨fun hi => ?_, fun hi => hQ1 (by rw [drop_end hi]; rfl)⟩
 rw [drop_step (0, 0, 0) h0 hi] at hQ1 hQ2
 simp only [List.any_cons, firstIx] at hQ1 hQ2
 generalize l.getD i.toNat (0, 0, 0) = g at *
 refine ⟨⟨h0, hi⟩, hb, fun h => ?_, fun h => ?_⟩
 ·have hbad : badW f g = true := by unfold badW; rw [h]; rfl
  rw [hbad] at hQ2
  exact hQ2 rfl
 ·have hbad : badW f g = false := by unfold badW; rw [h]; rfl
  rw [hbad] at hQ1 hQ2
  exact ⟨inR_i64.2 (by omega), mL_lt hi, show s85 l f l.length (i + 1) Q from ⟨⟨by omega, by omega, rfl, h2, hb⟩, hQ1, hQ2⟩⟩
theorem ok85L : Lp2Ok Tryz.prog 52 0 lc85 := lp2_of (n := 5) (ex := ex85) (m := fun x => mL x.1 x.2.2.2.1) ((good2_nil _).addF ok80) fun (l, ((), f, ()), m, i, ()) Q hx => h85L l f m i Q hx
theorem h85F (l : List (Int × Int × Int)) (f : Fd) (K : dens [I] -> Prop) : ((l.length <= 9223372036854775807 /\ bigF f) /\ K (firstIx (badW f) l 0, ())) -> xfn1 Tryz.prog { l2 := [(52, 0, lc85)] } 5 52 fc85 (l, ((), f, ()), ()) K := by
 intro ⟨⟨h1, h2⟩, hK⟩
 rw [v85F]
 refine ⟨⟨by omega, by omega, rfl, h1, h2⟩, fun h => ?_, fun h => hK⟩
 have h : l.any (badW f) = false := h
 rw [(firstIx_ge _ _ _ (by omega)).1 h] at hK; exact hK
theorem ok85 : FnOk Tryz.prog 52 fc85 := fn1_of (n := 5) ((good2_nil _).addL2 ok85L) fun (l, ((), f, ()), ()) K hx => h85F l f K hx
theorem any_bad {f : Fd} {l : List (Int × Int × Int)} : l.any (badW f) = !l.all (wayOk (fGroups f).length) := by
 induction l with
 | nil => rfl
 | cons x l ih => rw [List.any_cons, List.all_cons, ih]; unfold badW; cases wayOk (fGroups f).length x <;> rfl
theorem h64F (f : Fd) (K : dens [.b] -> Prop) : (bigF f /\ K (okF f, ())) -> xfn1 Tryz.prog { f := [(31, fcWith), (52, fc85)], l2 := [(21, 0, lc64a), (21, 1, lc64b)] } 5 21 fcFits (f, ()) K := by
 intro ⟨hb, hK⟩
 rw [v64F]
 simp only [fork_iff, req_iff, decide_eq_true_eq, decide_eq_false_iff_not, Bool.not_eq_true', Bool.not_eq_false', bne_iff_ne, ne_eq, bne_eq_false_iff_eq, Int.ofNat_inj]
 have badA : ¬ okA f = true -> K (false, ()) := fun h => by rw [Bool.not_eq_true] at h; unfold okF at hK; rw [h] at hK; exact hK
 refine ⟨fun a => badA fun h => a (by have := okA_iff.1 h; dsimp only [fIn, fBonds, fSell, fPrices, fCash] at *; omega), fun a => ⟨fun b => badA fun h => b (okA_iff.1 h).2.2.1, fun b => ⟨fun c => badA fun h => c (okA_iff.1 h).2.2.2.1, fun c => ⟨fun d => badA fun h => d (okA_iff.1 h).2.2.2.2.1, fun d => ⟨fun e => badA fun h => e (okA_iff.1 h).2.2.2.2.2, fun e => ?_⟩⟩⟩⟩⟩
 have hA : okA f = true := okA_iff.2 ⟨by dsimp only [fIn] at *; omega, by dsimp only [fIn] at *; omega, b, c, d, e⟩
 unfold okF at hK
 rw [hA, Bool.true_and] at hK
 refine ⟨⟨by omega, by omega, trivial, hA⟩, fun hd => ?_, fun hd => by rw [hd] at hK; exact hK⟩
 rw [hd, Bool.true_and] at hK
 have badB : ¬ okB f = true -> K (false, ()) := fun h => by rw [Bool.not_eq_true] at h; rw [h] at hK; exact hK
 refine ⟨fun a => badB fun h => by have := okB_iff.1 h; dsimp only [fGroups, fWays, fBegin, fBars] at *; omega, fun a' => ⟨fun b => badB fun h => by have := okB_iff.1 h; dsimp only [fGroups, fWays, fBegin, fBars] at *; omega, fun b' => ⟨fun c => badB fun h => c (by have := okB_iff.1 h; dsimp only [fGroups, fWays, fBegin, fBars] at *; omega), fun c' => ⟨fun d => badB fun h => d (by have := okB_iff.1 h; dsimp only [fGroups, fWays, fBegin, fBars] at *; omega), fun d' => ?_⟩⟩⟩⟩
 have hB : okB f = true := okB_iff.2 ⟨by dsimp only [fGroups] at *; omega, by dsimp only [fWays] at *; omega, c'.1, c'.2, d'.1, d'.2⟩
 rw [hB, Bool.true_and] at hK
 refine ⟨⟨by omega, by omega, trivial, by dsimp only [fGroups] at *; omega⟩, fun hg => ?_, fun hg => ?_⟩
 ·have hg : (fGroups f).all grpOk = true := hg
  rw [hg, Bool.true_and] at hK
  refine ⟨⟨hb.2.2.2.2.2, hb⟩, ?_⟩
  have e : (!decide (firstIx (badW f) (fWays f) 0 >= 0)) = (fWays f).all (wayOk (fGroups f).length) := by
   have := firstIx_ge (badW f) (fWays f) 0 (by omega)
   rw [any_bad] at this
   cases h : (fWays f).all (wayOk (fGroups f).length) with
   | true => rw [h] at this; rw [this.1 rfl]; rfl
   | false => rw [h] at this; rw [decide_eq_true (this.2 rfl)]; rfl
  rw [<- e] at hK
  exact hK
 ·have hg : (fGroups f).all grpOk = false := hg
  rw [hg] at hK; exact hK
theorem ok64 : FnOk Tryz.prog 21 fcFits := fn1_of (n := 5) (((((good2_nil _).addL2 ok64b).addL2 ok64a).addF ok85).addF ok71) fun (f, ()) K hx => h64F f K hx
theorem ok29 : FnOk Tryz.prog 10 fcCheck := fn1_of (n := 5) ((good2_nil _).addF ok64) fun (f, ()) K hx => by
 obtain ⟨h1, h2⟩ := hx
 rw [v29F]
 refine ⟨h1, ?_⟩
 unfold chkE at h2
 cases h : okF f <;> rw [h] at h2 <;> exact h2
end Go.P9
