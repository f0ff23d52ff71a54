/- Funds: what follows from a course: the code keeps its contracts, the law. No conditions. -/
import Derived.Test.YtfbpaonmegmcgaaGreatTaFollowS
import Derived.Test.YtfbpaonmegmcgaaGreatTaSoundP
set_option linter.all false
set_option maxRecDepth 100000
namespace Go.P9
open Go.Lom Go.Proofs Go
theorem flow_at {l : List Int} {s : List (Int × Int)} (h : flowB l s = true) : l.length = s.length /\ ∀ d : Int, 0 <= d -> d < s.length -> (s.getD d.toNat (0, 0)).1 <= l.getD d.toNat 0 /\ l.getD d.toNat 0 <= (s.getD d.toNat (0, 0)).2 := by
 unfold flowB at h
 rw [Bool.and_eq_true, decide_eq_true_eq] at h
 refine ⟨h.1, fun d h0 h1 => ?_⟩
 exact of_decide_eq_true (List.all_eq_true.1 h.2 d.toNat (by simp; omega))
theorem allow_rows {f : Fd} {r : Rn} (hf : okF f = true) (h : allowB f r = true) : r.2.length = (fGroups f).length /\ ∀ k : Int, 0 <= k -> k < r.2.length -> (r.2.getD k.toNat []).length = (fIn f).length /\ ∀ x ∈ r.2.getD k.toNat [], 0 <= x /\ x <= 1073741824 := by
 unfold allowB at h
 simp only [Bool.and_eq_true, decide_eq_true_eq] at h
 obtain ⟨_, _, h3, h4⟩ := h
 refine ⟨h3, fun k h0 h1 => ?_⟩
 have h5 := rowOk_iff.1 (List.all_eq_true.1 h4 k.toNat (by simp; omega))
 exact ⟨h5.1, cells_in (grp_at hf h0 (by omega)) h5.2.1⟩
theorem takeI_step {out : List (List Int)} {d k : Int} (h0 : 0 <= k) (h1 : k < out.length) : takeI out d k = (out.getD k.toNat []).getD d.toNat 0 + takeI out d (k + 1) := by
 unfold takeI; rw [drop_step [] h0 h1, List.map_cons, List.sum_cons]
theorem takeI_end {out : List (List Int)} {d k : Int} (h1 : ¬ k < out.length) : takeI out d k = 0 := by
 unfold takeI; rw [drop_end h1]; rfl
structure GC (f : Fd) (c : Cs) (d : Int) : Prop where
 l : 0 <= c.1.getD d.toNat 0 /\ c.1.getD d.toNat 0 <= 64
 i : 0 <= c.2.2.1.getD d.toNat 0 /\ c.2.2.1.getD d.toNat 0 <= 1073741824
 p : 0 <= c.2.2.2.getD d.toNat 0 /\ c.2.2.2.getD d.toNat 0 <= 1048576
 b : 0 <= (fBonds f).getD d.toNat 0 /\ (fBonds f).getD d.toNat 0 <= 1073741824
 m : 0 <= c.1.getD d.toNat 0 * c.2.2.2.getD d.toNat 0 /\ c.1.getD d.toNat 0 * c.2.2.2.getD d.toNat 0 <= 67108864
 t : 0 <= takeI c.2.1.2 d 0 /\ takeI c.2.1.2 d 0 <= 8589934592
 ll : c.1.length = (fIn f).length
 li : c.2.2.1.length = (fIn f).length
 lp : c.2.2.2.length = (fIn f).length
 lb : (fBonds f).length = (fIn f).length
 days : (fIn f).length <= 12
 rl : c.2.1.2.length <= 8
theorem gc {f : Fd} {c : Cs} (h : goodC f c) {d : Int} (h0 : 0 <= d) (h1 : d < (fIn f).length) : GC f c d := by
 obtain ⟨hf, g1, g2, g3, g4⟩ := h
 have hA := okA_iff.1 (okF_parts hf).1
 have hn := okF_n hf
 obtain ⟨p1, p2, _⟩ := planB_parts g1
 obtain ⟨i1, i2⟩ := flow_at g3
 obtain ⟨q1, q2⟩ := flow_at g4
 obtain ⟨r1, r2⟩ := allow_rows hf g2
 have cl := planC_in hf p1 p2 d h0 (by omega)
 have ci := i2 d h0 h1
 have cp := q2 d h0 (by omega)
 have db := day_bd hf h0 h1
 have pb := price_bd hf h0 h1
 have hp : 0 <= c.2.2.2.getD d.toNat 0 /\ c.2.2.2.getD d.toNat 0 <= 1048576 := by omega
 refine ⟨cl, by omega, hp, by omega, ?_, ?_, p1, i1, by omega, by omega, by omega, by omega⟩
 ·exact mul_bd (A := 64) (B := 1048576) cl.1 cl.2 hp.1 hp.2
 ·have hx : ∀ x ∈ (c.2.1.2.drop (0 : Int).toNat).map (fun row => row.getD d.toNat 0), 0 <= x /\ x <= 1073741824 := fun x hx => by
   obtain ⟨row, hrow, rfl⟩ := List.mem_map.1 hx
   have hrow : row ∈ c.2.1.2 := List.mem_of_mem_drop hrow
   obtain ⟨k, hk, rfl⟩ := List.getElem_of_mem hrow
   have e : c.2.1.2.getD ((k : Int).toNat) [] = c.2.1.2[k] := by rw [Int.toNat_natCast]; simp [List.getD_eq_getElem?_getD, hk]
   obtain ⟨e1, e2⟩ := r2 (k : Int) (by omega) (by omega)
   rw [e] at e1 e2
   exact e2 _ (getD_mem (by omega) 0)
  have := byRow_bd' hx
  unfold takeI
  rw [List.length_map] at this
  simp only [Int.toNat_zero, List.drop_zero] at this ⊢
  omega
where byRow_bd' {l : List Int} (h : ∀ x ∈ l, 0 <= x /\ x <= 1073741824) : 0 <= l.sum /\ l.sum <= 1073741824 * l.length := ⟨sum_nn fun x hx => (h x hx).1, sum_bd fun x hx => (h x hx).2⟩
theorem cell_bd {f : Fd} {c : Cs} (h : goodC f c) {d k : Int} (h0 : 0 <= d) (h1 : d < (fIn f).length) (k0 : 0 <= k) (k1 : k < c.2.1.2.length) : (c.2.1.2.getD k.toNat []).length = (fIn f).length /\ 0 <= (c.2.1.2.getD k.toNat []).getD d.toNat 0 /\ (c.2.1.2.getD k.toNat []).getD d.toNat 0 <= 1073741824 := by
 obtain ⟨r1, r2⟩ := allow_rows h.1 h.2.2.1
 obtain ⟨e1, e2⟩ := r2 k k0 k1
 have := e2 _ (getD_mem (d := c.2.1.2.getD k.toNat []) (i := d.toNat) (by omega) 0)
 exact ⟨e1, this⟩
theorem h14b (l i p : List Int) (f : Fd) (r : Rn) (out : List Int) (m d n d' : Int) (rows : List (List Int)) (k' k : Int) (Q : LQ) : s14b l i p f r out m d n d' rows k' k Q ->
  xloop2 Tryz.prog {} 5 8 1 lc14b (fun _ => some (sh14x, 3)) (fun (_, _, _, _, _, _, _, _, _, _, rows, _, k, _) => mL rows k) (l, i, p, f, r, out, m, d, n, d', rows, k', k, ()) Q := by
 intro ⟨⟨hg, h0, h1, hr, hk, h2, h3, h4, h5⟩, hQ⟩
 rw [v14b]
 subst hk
 subst hr
 have hcell := fun hk => cell_bd (c := (l, r, i, p)) hg h0 h1 h2 hk
 have st := fun hk => takeI_step (out := r.2) (d := d) h2 hk
 have hr8 : r.2.length <= 8 := by
  have hrl : r.2.length = (fGroups f).length := (allow_rows hg.1 hg.2.2.1).1
  have := okF_n hg.1
  omega
 rw [seg_all' (l := out) rfl]
 simp only [fork_iff, req_iff, decide_eq_true_eq, decide_eq_false_iff_not, Nat.zero_add]
 refine ⟨fun hk => ?_, fun hk => ⟨Nat.le_refl _, ?_⟩⟩
 ·have hc := hcell hk
  dsimp only at hc
  rw [st hk] at hQ
  generalize hrow : r.2.getD k.toNat [] = row at *
  refine ⟨⟨h2, hk⟩, ⟨h0, by omega⟩, inR_i64.2 (by omega), inR_i64.2 (by omega), Nat.le_refl _, mL_lt hk, show s14b l i p f r out (m - row.getD d.toNat 0) d n d' r.2 r.2.length (k + 1) Q from ⟨⟨hg, h0, h1, rfl, rfl, by omega, by omega, by omega, by omega⟩, ?_⟩⟩
  rw [Int.sub_sub]; exact hQ
 ·rw [takeI_end hk, Int.sub_zero] at hQ; exact hQ
theorem ok14b : Lp2Ok Tryz.prog 8 1 lc14b := lp2_of (n := 5) (ex := fun _ => some (sh14x, 3)) (m := fun (_, _, _, _, _, _, _, _, _, _, rows, _, k, _) => mL rows k) (good2_nil _) fun (l, i, p, f, r, out, m, d, n, d', rows, k', k, ()) Q hx => h14b l i p f r out m d n d' rows k' k Q hx
theorem fol_step {f : Fd} {c : Cs} {out : List Int} {m d : Int} (h : okC f c out m d) (hd : d < (fIn f).length) : okC f c (out ++ [flowI f c d m - takeI c.2.1.2 d 0]) (flowI f c d m - takeI c.2.1.2 d 0) (d + 1) /\
  (out ++ [flowI f c d m - takeI c.2.1.2 d 0]) ++ folK f c ((fIn f).length - (d + 1).toNat) (d + 1) (flowI f c d m - takeI c.2.1.2 d 0) = out ++ folK f c ((fIn f).length - d.toNat) d m := by
 obtain ⟨h1, h2, h3, h4, h5, h6⟩ := h
 have g := gc h1 h2 hd
 have g1 := g.i; have g2 := g.m; have g3 := g.b; have g4 := g.t
 refine ⟨⟨h1, by omega, by omega, by simp; omega, ?_, ?_⟩, ?_⟩
 ·unfold flowI; omega
 ·unfold flowI; omega
 ·rw [show (fIn f).length - d.toNat = ((fIn f).length - (d + 1).toNat) + 1 by omega]
  simp only [folK, List.append_assoc, List.singleton_append]
theorem h14a (l i p : List Int) (f : Fd) (r : Rn) (out : List Int) (m n d : Int) (Q : LQ) : s14a l i p f r out m n d Q ->
  xloop2 Tryz.prog { l2 := [(8, 1, lc14b)] } 5 8 0 lc14a (fun _ => some (shO, 1)) (fun (_, _, _, f, _, _, _, _, d, _) => mL (fIn f) d) (l, i, p, f, r, out, m, n, d, ()) Q := by
 intro ⟨⟨hok, hn⟩, hQ⟩
 rw [v14a]
 subst hn
 obtain ⟨h1, h2, h3, h4, h5, h6⟩ := id hok
 have hgc := fun hd => gc h1 h2 hd
 have stp := fun hd => fol_step hok hd
 have hm : maxLen = 9223372036854775807 := rfl
 rw [seg_all' (l := out) rfl, seg_app3]
 simp only [fork_iff, req_iff, decide_eq_true_eq, decide_eq_false_iff_not, Nat.zero_add]
 refine ⟨fun hd => ?_, fun hd => ⟨Nat.le_refl _, ?_⟩⟩
 ·have g := hgc hd
  obtain ⟨st1, st2⟩ := stp hd
  have g1 := g.i; have g2 := g.m; have g3 := g.b; have g4 := g.t; have ll := g.ll; have li := g.li; have lp := g.lp; have lb := g.lb; have dy := g.days
  have hs : s14a l i p f r (out ++ [flowI f (l, r, i, p) d m - takeI r.2 d 0]) (flowI f (l, r, i, p) d m - takeI r.2 d 0) (fIn f).length (d + 1) Q := ⟨⟨st1, rfl⟩, by rw [st2]; exact hQ⟩
  clear st1 st2 stp hgc
  unfold flowI at *
  dsimp only [fBonds] at *
  refine ⟨⟨h2, by omega⟩, ⟨h2, by omega⟩, ⟨h2, by omega⟩, inR_i64.2 (by omega), inR_i64.2 (by omega), ⟨h2, by omega⟩, inR_i64.2 (by omega), inR_i64.2 (by omega), Nat.le_refl _, ⟨h1, h2, hd, trivial, trivial, by omega, by omega, by omega, by omega⟩, Nat.le_refl _, ?_, inR_i64.2 (by omega), by simp [seg], mL_lt hd, hs⟩
  simp only [fitsN, Bool.and_eq_true, Nat.ble_eq]
  have : ∀ x : Int, (seg 0 1 [x]).length = 1 := fun x => rfl
  rw [this]; omega
 ·have e : folK f (l, r, i, p) ((fIn f).length - d.toNat) d m = [] := by rw [show (fIn f).length - d.toNat = 0 by omega]; rfl
  rw [e, List.append_nil] at hQ; exact hQ
theorem ok14a : Lp2Ok Tryz.prog 8 0 lc14a := lp2_of (n := 5) (ex := fun _ => some (shO, 1)) (m := fun (_, _, _, f, _, _, _, _, d, _) => mL (fIn f) d) ((good2_nil _).addL2 ok14b) fun (l, i, p, f, r, out, m, n, d, ()) Q hx => h14a l i p f r out m n d Q hx
theorem fol_cases {f : Fd} {c : Cs} {K : dens [L, E] -> Prop} (hK : K (folR f c, folE f c, ())) : (okF f = false -> K ([], chkE f, ())) /\ (okF f = true -> (planB f c.1 = false -> K ([], 93, ())) /\ (planB f c.1 = true -> (allowB f c.2.1 = false -> K ([], 92, ())) /\ (allowB f c.2.1 = true ->
  (flowB c.2.2.1 (fIn f) = false -> K ([], 94, ())) /\ (flowB c.2.2.1 (fIn f) = true -> (flowB c.2.2.2 (fPrices f) = false -> K ([], 94, ())) /\ (flowB c.2.2.2 (fPrices f) = true -> okC f c [] (fCash f) 0 /\ K (folL f c, 0, ())))))) := by
 unfold folR folE at hK
 refine ⟨fun h => ?_, fun h => ⟨fun g => ?_, fun g => ⟨fun a => ?_, fun a => ⟨fun b => ?_, fun b => ⟨fun e => ?_, fun e => ⟨?_, ?_⟩⟩⟩⟩⟩⟩
 ·unfold chkE; rw [h] at hK ⊢; simpa using hK
 ·rw [h, g] at hK; simpa using hK
 ·rw [h, g, a] at hK; simpa using hK
 ·rw [h, g, a, b] at hK; simpa using hK
 ·rw [h, g, a, b, e] at hK; simpa using hK
 ·have hA := okA_iff.1 (okF_parts h).1
  exact ⟨⟨h, g, a, b, e⟩, by omega, by omega, by simp, by omega, by omega⟩
 ·rw [h, g, a, b, e] at hK; simpa using hK
theorem ok14 : FnOk Tryz.prog 8 fcFollow := fn1_of (n := 5) ((((((good2_nil _).addL2 ok14a).addF ok49).addF ok48).addF ok47).addF ok29) fun (f, l, r, i, p, ()) K hx => by
 obtain ⟨⟨hb, hl, hr, hi, hp⟩, hK⟩ := hx
 have hb : bigF f := hb
 obtain ⟨k1, k2⟩ := fol_cases (f := f) (c := (l, r, i, p)) hK
 rw [v14F, chkE_ne]
 have e := seg_all' (l := folK f (l, r, i, p) (fIn f).length 0 f.1) rfl
 simp only [fork_iff, req_iff, decide_eq_true_eq, Bool.not_eq_true', Bool.not_eq_false', List.nil_append, Nat.zero_add, Nat.sub_zero, e]
 exact ⟨hb, k1, fun h => ⟨⟨h, hl⟩, (k2 h).1, fun g => ⟨⟨h, hr⟩, ((k2 h).2 g).1, fun a => ⟨⟨hi, hb.1⟩, (((k2 h).2 g).2 a).1, fun b => ⟨⟨hp, hb.2.2.2.1⟩, ((((k2 h).2 g).2 a).2 b).1, fun c => ⟨⟨(((((k2 h).2 g).2 a).2 b).2 c).1, trivial⟩, Nat.le_refl _, (((((k2 h).2 g).2 a).2 b).2 c).2⟩⟩⟩⟩⟩⟩
theorem folR_len {f : Fd} {c : Cs} : (folR f c).length <= 12 := by
 have key : ∀ (k : Nat) (d m : Int), (folK f c k d m).length = k := by
  intro k
  induction k with
  | zero => intro d m; rfl
  | succ k ih => intro d m; simp only [folK, List.length_cons, ih]
 unfold folR
 by_cases h0 : folE f c = 0
 ·rw [if_pos h0]
  have h : okF f = true := by
   by_cases h : okF f = true
   ·exact h
   ·unfold folE at h0; rw [if_neg h] at h0; cases h0
  have hA := okA_iff.1 (okF_parts h).1
  unfold folL; rw [key]; exact hA.2.1
 ·rw [if_neg h0]; simp
end Go.P9
