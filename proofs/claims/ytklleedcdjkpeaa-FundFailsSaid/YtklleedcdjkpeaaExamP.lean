/- Funds: an example of the worst run, the law of needs: the code keeps its contracts. No conditions. -/
import Derived.Test.YtklleedcdjkpeaaExamS
import Derived.Test.YtklleedcdjkpeaaNeedsP
set_option linter.constructorNameAsVariable false
set_option linter.unusedVariables false
set_option linter.unusedSimpArgs false
set_option maxRecDepth 100000
namespace Go.P9
open Go.Lom Go.Proofs Go

theorem rep_drop {row : List Int} {d : Int} (h0 : 0 ≤ d) (h1 : d < row.length) (h : row.drop d.toNat = List.replicate (row.length - d.toNat) 0) : row.getD d.toNat 0 = 0 ∧ row.drop (d + 1).toNat = List.replicate (row.length - (d + 1).toNat) 0 := by
  rw [drop_step 0 h0 h1, show row.length - d.toNat = (row.length - (d + 1).toNat) + 1 by omega, List.replicate_succ] at h
  injection h with h1 h2
  exact ⟨h1, h2⟩
theorem take_step {row : List Int} {d : Int} (h0 : 0 ≤ d) (h1 : d < row.length) : row.take (d + 1).toNat = row.take d.toNat ++ [row.getD d.toNat 0] := by
  have h : d.toNat < row.length := by omega
  rw [show (d + 1).toNat = d.toNat + 1 by omega, List.take_add_one, List.getElem?_eq_getElem h, List.getD_eq_getElem?_getD, List.getElem?_eq_getElem h]; rfl
theorem rowK_step {g : Grp} {st : Int} {len : Nat} {d left : Int} (h0 : 0 ≤ d) (h1 : d < len) : rowK g st (len - d.toNat) d left = cutI g st d left :: rowK g st (len - (d + 1).toNat) (d + 1) (left - cutI g st d left) := by
  rw [show len - d.toNat = (len - (d + 1).toNat) + 1 by omega]; rfl
theorem h43b (f : Fd) (z : Rn) (bg : List Int) (out : List (List Int)) (s : List Int) (i : Int) (g : Grp) (row : List Int) (left : Int) (gs : List Grp) (m k n d : Int) (Q : LQ) : s43b f z (bg, out, ()) s i g row left gs m k n d Q →
    xloop2 Try.prog {} 5 43 1 lc43b (fun _ => some (sh43x, 6)) (fun (_, _, _, _, _, _, row, _, _, _, _, _, d, _) => mL row d) (f, z, (bg, out, ()), s, i, g, row, left, gs, m, k, n, d, ()) Q := by
  intro ⟨⟨h0, h1, hn, h2, h3, h4, h5, h6, h7, h8, h9, h10⟩, hQ⟩
  rw [v43b]
  subst hn
  have hg := grpOk_iff.1 h8
  unfold sOk at h7
  rw [seg_all' (l := out) rfl, seg_all' (l := row) rfl]
  simp only [fork_iff, req_iff, decide_eq_true_eq, decide_eq_false_iff_not, Nat.zero_add, Nat.add_zero, List.length_set]
  have go : ∀ (row' : List Int) (left' : Int), d < row.length → row' = row.set d.toNat (cutI g (s.getD i.toNat 0) d left) → left' = left - cutI g (s.getD i.toNat 0) d left → 0 ≤ left' → left' ≤ 1073741824 →
      mL row' (d + 1) < mL row d ∧ LC2.spec lc43b (f, z, (bg, out, ()), s, i, g, row', left', gs, m, k, (row.length : Int), d + 1, ()) Q := fun row' left' hd hr hl b1 b2 => by
    have hl' : row'.length = row.length := by rw [hr, List.length_set]
    obtain ⟨r1, r2⟩ := rep_drop h0 hd h3
    refine ⟨by unfold mL; omega, show s43b f z (bg, out, ()) s i g row' left' gs m k row.length (d + 1) Q from ⟨⟨by omega, by omega, by omega, by omega, ?_, h4, h5, h6, h7, h8, b1, b2⟩, ?_⟩⟩
    · rw [hl', ← r2, hr, List.drop_set_of_lt (by omega)]
    · rw [hl', hr, take_set h0 hd, List.append_assoc, hl]
      rw [rowK_step h0 hd] at hQ
      exact hQ
  refine ⟨fun hd => ⟨⟨h5, h6⟩, by omega, fun c1 => ⟨⟨h5, h6⟩, by omega, inR_i64.2 (by omega), fun c2 => ?_, fun c2 => ?_⟩, fun c1 => ?_⟩, fun hd => ⟨Nat.le_refl _, Nat.le_refl _, ?_⟩⟩
  · have hc : cutI g (s.getD i.toNat 0) d left = if g.2.1 < left then g.2.1 else left := by unfold cutI; rw [if_pos ⟨c1, c2⟩]; rfl
    have hb : 0 ≤ (if g.2.1 < left then g.2.1 else left) ∧ (if g.2.1 < left then g.2.1 else left) ≤ left := by split <;> omega
    have hget : (row.set d.toNat (if g.2.1 < left then g.2.1 else left)).getD d.toNat 0 = if g.2.1 < left then g.2.1 else left := by rw [getD_set (by omega), if_pos rfl]
    rw [hget]
    rw [hc] at go
    generalize (if g.2.1 < left then g.2.1 else left) = x at *
    exact ⟨⟨h0, hd⟩, by omega, ⟨h0, hd⟩, by omega, inR_i64.2 (by omega), inR_i64.2 (by omega), Nat.le_refl _, trivial, go _ _ hd rfl rfl (by omega) (by omega)⟩
  · have hc : cutI g (s.getD i.toNat 0) d left = 0 := by unfold cutI; rw [if_neg (fun h => c2 h.2)]
    rw [hc] at go
    refine ⟨inR_i64.2 (by omega), Nat.le_refl _, trivial, go _ _ hd ?_ (by omega) h9 h10⟩
    rw [← (rep_drop h0 hd h3).1, List.getD_eq_getElem?_getD, List.getElem?_eq_getElem (by omega)]
    exact (List.set_getElem_self _).symm
  · have hc : cutI g (s.getD i.toNat 0) d left = 0 := by unfold cutI; rw [if_neg (fun h => c1 h.1)]
    rw [hc] at go
    refine ⟨inR_i64.2 (by omega), Nat.le_refl _, trivial, go _ _ hd ?_ (by omega) h9 h10⟩
    rw [← (rep_drop h0 hd h3).1, List.getD_eq_getElem?_getD, List.getElem?_eq_getElem (by omega)]
    exact (List.set_getElem_self _).symm
  · rw [show row.length - d.toNat = 0 by omega] at hQ
    simp only [rowK, List.append_nil] at hQ
    rw [List.take_of_length_le (by omega)] at hQ
    exact hQ
theorem ok43b : Lp2Ok Try.prog 43 1 lc43b := lp2_of (n := 5) (ex := fun _ => some (sh43x, 6)) (m := fun (_, _, _, _, _, _, row, _, _, _, _, _, d, _) => mL row d) (good2_nil _) fun (f, z, (bg, out, ()), s, i, g, row, left, gs, m, k, n, d, ()) Q hx => h43b f z bg out s i g row left gs m k n d Q hx
theorem outK_step {f : Fd} {s : List Int} {i : Int} (h0 : 0 ≤ i) (h1 : i < (fGroups f).length) : outK f s i = rowK ((fGroups f).getD i.toNat (0, 0, 0)) (s.getD i.toNat 0) (fIn f).length 0 ((fGroups f).getD i.toNat (0, 0, 0)).1 :: outK f s (i + 1) := by
  unfold outK
  rw [drop_step 0 h0 (by simpa using h1), List.map_cons, range_get h0 h1]
theorem outK_end {f : Fd} {s : List Int} {i : Int} (h1 : ¬ i < (fGroups f).length) : outK f s i = [] := by
  unfold outK; rw [drop_end (by simpa using h1)]; rfl
theorem seg_app4 {α : Type} (b : List α) (x : α) : seg 0 (b.length + (seg 0 1 [x]).length) (seg 0 b.length b ++ seg 0 1 [x]) = b ++ [x] := by
  simp [seg]
  exact List.take_of_length_le (by simp)
theorem h43a (f : Fd) (z : Rn) (bg : List Int) (out : List (List Int)) (s : List Int) (gs : List Grp) (m k : Int) (Q : LQ) : s43a f z (bg, out, ()) s gs m k Q →
    xloop2 Try.prog { l2 := [(43, 1, lc43b)] } 5 43 0 lc43a (fun _ => some (sh43e, 2)) (fun (_, _, _, _, gs, _, k, _) => mL gs k) (f, z, (bg, out, ()), s, gs, m, k, ()) Q := by
  intro ⟨⟨hf, hgs, hm, h0, h1, h2, h3, h4⟩, hQ⟩
  rw [v43a]
  have hn := okF_n hf
  have hA := okA_iff.1 (okF_parts hf).1
  have h2 : (out.length : Int) ≤ k := h2
  have hQ : Q (.exit 0) (stS 2 sh43e (z, (bg, out ++ outK f s k), ())) := hQ
  have hmx : maxLen = 9223372036854775807 := rfl
  rw [seg_all' (l := out) rfl, seg_app4]
  subst hgs hm
  have hdays : Int.toNat (f.2.1.length : Int) = (fIn f).length := rfl
  simp only [hdays, fork_iff, req_iff, decide_eq_true_eq, decide_eq_false_iff_not, Nat.zero_add, List.length_replicate, List.take_zero, List.nil_append, List.drop_zero, Nat.sub_zero]
  refine ⟨fun hk => ?_, fun hk => ⟨Nat.le_refl _, ?_⟩⟩
  · have hgo := grp_at hf h0 hk
    have hg := grpOk_iff.1 hgo
    rw [outK_step h0 hk] at hQ
    generalize (fGroups f).getD k.toNat (0, 0, 0) = g at *
    have hlen : f.2.1.length = (fIn f).length := rfl
    refine ⟨⟨h0, hk⟩, ⟨by omega, by omega, by omega, by omega⟩, Nat.le_refl _, trivial, ⟨by omega, by omega, trivial, by omega, trivial, h3, h0, by omega, h4 k h0 hk, hgo, hg.1.1, hg.1.2⟩, Nat.le_refl _, ?_, inR_i64.2 (by omega), by simp [seg], mL_lt hk, ?_⟩
    · simp only [fitsN, Bool.and_eq_true, Nat.ble_eq]
      have : ∀ x : List Int, (seg 0 1 [x]).length = 1 := fun x => rfl
      rw [this]; omega
    · refine (show s43a f z (bg, out ++ [rowK g (s.getD k.toNat 0) (fIn f).length 0 g.1], ()) s (fGroups f) (fGroups f).length (k + 1) Q from ⟨⟨hf, rfl, rfl, by omega, by omega, by simp; omega, h3, h4⟩, ?_⟩)
      show Q (.exit 0) (stS 2 sh43e (z, (bg, (out ++ [rowK g (s.getD k.toNat 0) (fIn f).length 0 g.1]) ++ outK f s (k + 1)), ()))
      rw [List.append_assoc]; exact hQ
  · rw [outK_end hk, List.append_nil] at hQ; exact hQ
theorem ok43a : Lp2Ok Try.prog 43 0 lc43a := lp2_of (n := 5) (ex := fun _ => some (sh43e, 2)) (m := fun (_, _, _, _, gs, _, k, _) => mL gs k) ((good2_nil _).addL2 ok43b) fun (f, z, (bg, out, ()), s, gs, m, k, ()) Q hx => h43a f z bg out s gs m k Q hx
theorem worstE_cases (f : Fd) (day : Int) : ((worstE f day).2.2 ≠ 0 ∧ ¬ (okF f = true ∧ dayIn f day)) ∨ (okF f = true ∧ dayIn f day ∧ worstE f day = ((worstW f day).1, (worstW f day).2, 0)) := by
  unfold worstE
  by_cases h : okF f = true
  · by_cases a : dayIn f day
    · right; rw [if_pos h, if_pos a]; exact ⟨h, a, rfl⟩
    · left; rw [if_pos h, if_neg a]; exact ⟨by decide, fun k => a k.2⟩
  · left; rw [if_neg h]; exact ⟨by decide, fun k => h k.1⟩
theorem ok43 : FnOk Try.prog 43 fcExam := fn1_of (n := 5) ((((good2_nil _).addL2 ok43a).addF ok66).addF ok41) fun (f, day, ()) K hx => by
  obtain ⟨hb, hK⟩ := hx
  have hb : bigF f := hb
  have hK : K (exR f day, (worstE f day).2.2, ()) := hK
  rw [v43F]
  unfold exR at hK
  refine ⟨hb, fork_iff.2 ⟨fun h => ?_, fun h => ?_⟩⟩
  · rcases worstE_cases f day with ⟨h1, h2⟩ | ⟨_, _, h3⟩
    · rw [if_neg h2] at hK; exact hK
    · rw [h3] at h; cases h
  · rcases worstE_cases f day with ⟨h1, h2⟩ | ⟨h1, h2, h3⟩
    · exact absurd (by simpa using h) h1
    · rw [h3] at hK ⊢
      rw [if_pos ⟨h1, h2⟩] at hK
      have hv := (worstW_valid h1 day).1
      have hl := okL_len hv.1
      have hn := okF_n h1
      simp only [req_iff, decide_eq_true_eq, List.nil_append]
      refine ⟨⟨h1, by omega, hv.1.2⟩, fun r hr ht => ⟨hr, hr, ⟨h1, trivial, trivial, by omega, by omega, by simp, hr, fun j g0 g1 => ?_⟩, ?_⟩⟩
      · have e := take_getD ht j.toNat (by omega)
        unfold sOk; rw [e]; exact startsL_ok h1 _ g0 g1
      · have e : outK f r 0 = outK f (startsL f (worstW f day).1) 0 := by
          unfold outK
          simp only [Int.toNat_zero, List.drop_zero]
          refine List.map_congr_left fun k hk => ?_
          rw [take_getD ht k (by simpa using hk)]
        rw [e]; exact hK
end Go.P9
