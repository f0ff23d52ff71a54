/- Funds: when groups begin to run: the code keeps its contracts. No conditions. -/
import Derived.Test.YtfbpaonmegmcgaaGreatTaStartsL
import Derived.Test.YtfbpaonmegmcgaaGreatTaCheckP
set_option linter.all false
set_option maxRecDepth 100000
namespace Go.P9
open Go.Lom Go.Proofs Go
theorem listsB_step {n : Nat} {l : List Int} {i : Int} (h0 : 0 <= i) (h1 : i < l.length) : listsB n l i = (ltB n l i.toNat && listsB n l (i + 1)) := by
 unfold listsB
 rw [drop_step 0 h0 (by simpa using h1), List.all_cons]
 have : (List.range l.length).getD i.toNat 0 = i.toNat := by
  rw [List.getD_eq_getElem?_getD, List.getElem?_range (by omega)]; rfl
 rw [this]
theorem listsB_end {n : Nat} {l : List Int} {i : Int} (h1 : ¬ i < l.length) : listsB n l i = true := by
 unfold listsB; rw [drop_end (by simpa using h1)]; rfl
theorem ltB_iff {n : Nat} {l : List Int} {i : Int} (h0 : 0 <= i) : ltB n l i.toNat = true ↔ (0 <= l.getD i.toNat 0 /\ l.getD i.toNat 0 <= (n : Int) - 1) /\ (i > 0 -> ¬ l.getD (i - 1).toNat 0 >= l.getD i.toNat 0) := by
 unfold ltB
 rw [Bool.and_eq_true, decide_eq_true_eq, Bool.not_eq_true', Bool.and_eq_false_iff, decide_eq_false_iff_not, decide_eq_false_iff_not, show (i - 1).toNat = i.toNat - 1 by omega]
 refine and_congr_right fun _ => ⟨fun h g => ?_, fun h => ?_⟩
 ·rcases h with h | h
  ·omega
  ·exact h
 ·by_cases g : i > 0
  ·exact .inr (h g)
  ·exact .inl (by omega)
theorem h65L (l : List Int) (f : Fd) (l' : List Int) (m i : Int) (Q : LQ) : s65 l f l' m i Q -> xloop2 Tryz.prog { f := [(31, fcWith)] } 5 33 0 lc65 ex65 (fun x => mL x.1 x.2.2.2.2.1) (l, f, l', m, i, ()) Q := by
 intro ⟨⟨h0, hl, h1, hm, h2, hb⟩, hQ1, hQ2⟩
 rw [v65L]
 subst hm; cases hl
 have h5 := hb.2.2.2.2.1
 simp only [fork_iff, req_iff, decide_eq_true_eq, decide_eq_false_iff_not, Bool.not_eq_true', Bool.not_eq_false']
 refine ⟨fun hi => ?_, fun hi => hQ1 (listsB_end hi)⟩
 rw [listsB_step h0 hi] at hQ1 hQ2
 dsimp only [fGroups] at *
 have bad : ¬ ltB f.2.2.2.2.2.1.length l i.toNat = true -> Q .ret (stS 0 shR4 (false, ())) := fun h => hQ2 (by rw [Bool.not_eq_true] at h; rw [h]; rfl)
 have go : ltB f.2.2.2.2.2.1.length l i.toNat = true -> inR .i64 (i + 1) = true /\ (mL l (i + 1) < mL l i /\ LC2.spec lc65 (l, f, l, (l.length : Int), i + 1, ()) Q) := fun h => by
  rw [h, Bool.true_and] at hQ1 hQ2
  exact ⟨inR_i64.2 (by omega), mL_lt hi, show s65 l f l l.length (i + 1) Q from ⟨⟨by omega, rfl, by omega, rfl, h2, hb⟩, hQ1, hQ2⟩⟩
 refine ⟨⟨h0, hi⟩, inR_i64.2 (by omega), fun a => bad fun h => a ((ltB_iff h0).1 h).1, fun a => ⟨fun b => ⟨inR_i64.2 (by omega), by omega, fun c => bad fun h => ((ltB_iff h0).1 h).2 b c, fun c => go ((ltB_iff h0).2 ⟨a, fun _ => c⟩)⟩, fun b => go ((ltB_iff h0).2 ⟨a, fun g => absurd g b⟩)⟩⟩
theorem ok65L : Lp2Ok Tryz.prog 33 0 lc65 := lp2_of (n := 5) (ex := ex65) (m := fun x => mL x.1 x.2.2.2.2.1) ((good2_nil _).addF ok71) fun (l, f, l', m, i, ()) Q hx => h65L l f l' m i Q hx
theorem h65F (f : Fd) (l : List Int) (K : dens [.b] -> Prop) : ((l.length <= 9223372036854775807 /\ bigF f) /\ K (listsB (fGroups f).length l 0, ())) -> xfn1 Tryz.prog { l2 := [(33, 0, lc65)] } 5 33 fcLists (f, l, ()) K := by
 intro ⟨⟨h1, h2⟩, hK⟩
 rw [v65F]
 exact ⟨⟨by omega, rfl, by omega, rfl, h1, h2⟩, fun h => by rw [h] at hK; exact hK, fun h => by rw [h] at hK; exact hK⟩
theorem ok65 : FnOk Tryz.prog 33 fcLists := fn1_of (n := 5) ((good2_nil _).addL2 ok65L) fun (f, l, ()) K hx => h65F f l K hx
theorem listsB_in {n : Nat} {l : List Int} (h : listsB n l 0 = true) : ∀ x ∈ l, 0 <= x /\ x < n := by
 intro x hx
 obtain ⟨i, hi, rfl⟩ := List.getElem_of_mem hx
 have h1 := List.all_eq_true.1 h i (by simpa using hi)
 have h2 := (ltB_iff (i := (i : Int)) (by omega)).1 h1
 have e : l.getD i 0 = l[i] := by simp [List.getD_eq_getElem?_getD, hi]
 have h3 := h2.1
 rw [show ((i : Int)).toNat = i by omega, e] at h3
 omega
theorem take_set {l : List Int} {i : Int} (h0 : 0 <= i) (h : i < l.length) (x : Int) : (l.set i.toNat x).take (i + 1).toNat = l.take i.toNat ++ [x] := by
 have h : i.toNat < l.length := by omega
 rw [show (i + 1).toNat = i.toNat + 1 by omega, List.take_add_one]
 rw [List.getElem?_set, if_pos rfl, if_pos h, List.take_set_of_le (Nat.le_refl _)]; rfl
theorem h66a (l : List Int) (f : Fd) (z s : List Int) (i : Int) (Q : LQ) : s66a l f z s i Q -> xloop2 Tryz.prog {} 5 34 0 lc66a (fun _ => some (sh66e, 3)) (fun x => (8 - x.2.2.2.2.1).toNat) (l, f, z, s, i, ()) Q := by
 intro ⟨⟨h0, h1, h2⟩, hQ⟩
 rw [v66a]
 simp only [fork_iff, req_iff, decide_eq_true_eq, decide_eq_false_iff_not, Nat.zero_add]
 refine ⟨fun hi => ⟨⟨h0, hi⟩, by omega, inR_i64.2 (by omega), by omega, ?_⟩, fun hi => ?_⟩
 ·refine (show s66a l f z (s.set i.toNat (-1)) (i + 1) Q from ⟨⟨by omega, by omega, by rw [List.length_set]; exact h2⟩, ?_⟩)
  rw [take_set h0 (by omega), List.append_assoc]
  have e : [(-1 : Int)] ++ List.replicate (8 - (i + 1).toNat) (-1) = List.replicate (8 - i.toNat) (-1) := by
   rw [show 8 - i.toNat = (8 - (i + 1).toNat) + 1 by omega, List.replicate_succ]; rfl
  rw [e]; exact hQ
 ·have e : s.take i.toNat ++ List.replicate (8 - i.toNat) (-1) = s := by
   rw [show 8 - i.toNat = 0 by omega, List.replicate_zero, List.append_nil, List.take_of_length_le (by omega)]
  rw [e] at hQ; exact hQ
theorem ok66a : Lp2Ok Tryz.prog 34 0 lc66a := lp2_of (n := 5) (ex := fun _ => some (sh66e, 3)) (m := fun x => (8 - x.2.2.2.2.1).toNat) (good2_nil _) fun (l, f, z, s, i, ()) Q hx => h66a l f z s i Q hx
theorem h66b (f : Fd) (z s l : List Int) (m i : Int) (Q : LQ) : s66b f z s l m i Q -> xloop2 Tryz.prog {} 5 34 1 lc66b (fun _ => some (sh66, 3)) (fun x => mL x.2.2.2.1 x.2.2.2.2.2.1) (f, z, s, l, m, i, ()) Q := by
 intro ⟨⟨h0, h1, hm, h2, h3, h4⟩, hQ⟩
 rw [v66b]
 subst hm
 simp only [fork_iff, req_iff, decide_eq_true_eq, decide_eq_false_iff_not, Nat.zero_add]
 refine ⟨fun hi => ?_, fun hi => ?_⟩
 ·rw [drop_step 0 h0 hi] at hQ
  have hmem := h4 _ (getD_mem (d := l) (i := i.toNat) (by omega) 0)
  generalize l.getD i.toNat 0 = x at *
  exact ⟨⟨h0, hi⟩, ⟨hmem.1, hmem.2⟩, by omega, inR_i64.2 (by omega), mL_lt hi, show s66b f z (s.set x.toNat 0) l l.length (i + 1) Q from ⟨⟨by omega, by omega, rfl, h2, by rw [List.length_set]; exact h3, h4⟩, hQ⟩⟩
 ·rw [drop_end hi] at hQ; exact hQ
theorem ok66b : Lp2Ok Tryz.prog 34 1 lc66b := lp2_of (n := 5) (ex := fun _ => some (sh66, 3)) (m := fun x => mL x.2.2.2.1 x.2.2.2.2.2.1) (good2_nil _) fun (f, z, s, l, m, i, ()) Q hx => h66b f z s l m i Q hx
theorem h66d (f : Fd) (z s d : List Int) (ws : List Way) (m i : Int) (Q : LQ) : s66d f z s d ws m i Q -> xloop2 Tryz.prog {} 5 34 3 lc66d (fun _ => some (sh66x, 4)) (fun x => mL x.2.2.2.2.1 x.2.2.2.2.2.2.1) (f, z, s, d, ws, m, i, ()) Q := by
 intro ⟨⟨h0, h1, hm, h2, hd, hin, hw⟩, hQ⟩
 rw [v66d]
 subst hm
 simp only [fork_iff, req_iff, decide_eq_true_eq, decide_eq_false_iff_not, Nat.zero_add]
 refine ⟨fun hi => ?_, fun hi => ?_⟩
 ·rw [drop_step (0, 0, 0) h0 hi] at hQ
  have hmem : ws.getD i.toNat (0, 0, 0) ∈ ws := by simp [List.getD_eq_getElem?_getD, show i.toNat < ws.length by omega]
  generalize ws.getD i.toNat (0, 0, 0) = w at *
  have wk := hw w hmem
  have hinv := relax_inv hin (w := w) (by rw [hd]; exact wk)
  have go : inR .i64 (i + 1) = true /\ (mL ws (i + 1) < mL ws i /\ LC2.spec lc66d (f, z, s, relax d w, ws, (ws.length : Int), i + 1, ()) Q) :=
   ⟨inR_i64.2 (by omega), mL_lt hi, show s66d f z s (relax d w) ws ws.length (i + 1) Q from ⟨⟨by omega, by omega, rfl, h2, by rw [relax_len]; exact hd, hinv, hw⟩, hQ⟩⟩
  clear hinv
  obtain ⟨w1, w2, w3, w4, _, w5, w6⟩ := wk
  have ha := hin.at (i := w.1.toNat) (by omega) 0
  have hb := hin.at (i := w.2.1.toNat) (by omega) 0
  unfold relax at go
  generalize d.getD w.1.toNat 0 = a at *
  generalize d.getD w.2.1.toNat 0 = b at *
  refine ⟨⟨h0, hi⟩, ⟨w1, by omega⟩, by omega, fun c1 => ⟨⟨w3, by omega⟩, by omega, fun c2 => ⟨inR_i64.2 (by omega), ⟨w3, by omega⟩, by omega, ?_⟩, fun c2 => ⟨inR_i64.2 (by omega), ⟨w3, by omega⟩, by omega, fun c3 => ⟨inR_i64.2 (by omega), ⟨w3, by omega⟩, by omega, ?_⟩, fun c3 => ?_⟩⟩, fun c1 => ?_⟩
  ·rw [if_pos ⟨c1, .inl c2⟩] at go; exact go
  ·rw [if_pos ⟨c1, .inr c3⟩] at go; exact go
  ·rw [if_neg (fun h => by omega)] at go; exact go
  ·rw [if_neg (fun h => by omega)] at go; exact go
 ·rw [drop_end hi] at hQ; exact hQ
theorem ok66d : Lp2Ok Tryz.prog 34 3 lc66d := lp2_of (n := 5) (ex := fun _ => some (sh66x, 4)) (m := fun x => mL x.2.2.2.2.1 x.2.2.2.2.2.2.1) (good2_nil _) fun (f, z, s, d, ws, m, i, ()) Q hx => h66d f z s d ws m i Q hx
theorem h66c (f : Fd) (z s : List Int) (Q : LQ) : s66c f z s Q -> xloop2 Tryz.prog { l2 := [(34, 3, lc66d)] } 5 34 2 lc66c (fun _ => some (sh66, 3)) (fun x => muD x.2.2.1) (f, z, s, ()) Q := by
 intro ⟨⟨h1, h2, h3, h4⟩, hQ⟩
 rw [v66c]
 have h6 := h2.2.2.2.2.2
 have hp : (passD (fWays f) s).length = 8 := by rw [passD_len]; exact h3
 have hmu := passD_mu (fWays f) h4 (by rw [h3]; exact h1)
 have hinv := passD_inv (fWays f) h4 (by rw [h3]; exact h1)
 dsimp only [fWays] at *
 simp only [fork_iff, req_iff, decide_eq_true_eq, decide_eq_false_iff_not, List.drop_zero]
 refine ⟨h3, h3, h3, ⟨by omega, by omega, trivial, h6, h3, h4, h1⟩, hp, h3, hp, h3, fun hc => hQ s 0 rfl hc, fun hc => ⟨hp, hp, by omega, ?_, ?_⟩⟩
 ·rcases hmu with h | h
  ·exact absurd h hc
  ·exact h
 ·exact (show s66c f z (passD f.2.2.2.2.2.2.1 s) Q from ⟨⟨h1, h2, hp, hinv⟩, fun r k hr hf => hQ r (k + 1) hr hf⟩)
theorem ok66c : Lp2Ok Tryz.prog 34 2 lc66c := lp2_of (n := 5) (ex := fun _ => some (sh66, 3)) (m := fun x => muD x.2.2.1) ((good2_nil _).addL2 ok66d) fun (f, z, s, ()) Q hx => h66c f z s Q hx
theorem okF_parts {f : Fd} (h : okF f = true) : okA f = true /\ daysOk f 0 = true /\ okB f = true /\ (fGroups f).all grpOk = true /\ (fWays f).all (wayOk (fGroups f).length) = true := by
 unfold okF at h
 simp only [Bool.and_eq_true] at h
 exact ⟨h.1, h.2.1, h.2.2.1, h.2.2.2.1, h.2.2.2.2⟩
theorem okF_big {f : Fd} (h : okF f = true) : bigF f := by
 obtain ⟨h1, _, h3, _, _⟩ := okF_parts h
 have h1 := okA_iff.1 h1
 have h3 := okB_iff.1 h3
 unfold bigF
 omega
theorem okF_n {f : Fd} (h : okF f = true) : (fGroups f).length <= 8 := (okB_iff.1 (okF_parts h).2.2.1).1
theorem okF_ws {f : Fd} (h : okF f = true) : wsOk (fGroups f).length (fWays f) := fun w hw => by
 obtain ⟨⟨h1, h2⟩, ⟨h3, h4⟩, h5, h6, h7⟩ := wayOk_iff.1 (List.all_eq_true.1 (okF_parts h).2.2.2.2 w hw)
 exact ⟨h1, by omega, h3, by omega, h5, h6, h7⟩
theorem h66F (f : Fd) (l : List Int) (K : dens [AR] -> Prop) : ((okF f = true /\ l.length <= 9223372036854775807 /\ inGrp f l) /\ ∀ r : List Int, r.length = 8 -> r.take (fGroups f).length = startsL f l -> K (r, ())) -> xfn1 Tryz.prog { l2 := [(34, 0, lc66a), (34, 1, lc66b), (34, 2, lc66c)] } 5 34 fc66 (f, l, ()) K := by
 intro ⟨⟨h1, h2, h3⟩, hK⟩
 rw [v66F]
 have hn := okF_n h1
 have hl : ∀ x ∈ l, 0 <= x /\ x < 8 := fun x hx => by have := h3 x hx; omega
 simp only [req_iff, decide_eq_true_eq, List.take_zero, List.nil_append, List.drop_zero]
 have hw8 := wsOk_mono (okF_ws h1) hn
 refine ⟨⟨by omega, by omega, trivial⟩, ⟨by omega, by omega, trivial, h2, trivial, hl⟩, ⟨hw8, okF_big h1, by rw [zeroD_len]; simp, zero8_inv l⟩, fun r k hr hf => ?_⟩
 have hl8 : r.length = 8 := by rw [hr, passN_len, zeroD_len]; simp
 exact ⟨hl8, hl8, hl8, hl8, hl8, hK r hl8 (starts_eq hn (okF_ws h1) h3 hr hf)⟩
theorem ok66 : FnOk Tryz.prog 34 fc66 := fn1_of (n := 5) ((((good2_nil _).addL2 ok66c).addL2 ok66b).addL2 ok66a) fun (f, l, ()) K hx => h66F f l K hx
theorem seg_all' {α : Type} {l : List α} {n : Nat} (h : n = l.length) : seg 0 n l = l := by subst h; simp [seg]
end Go.P9
