/- Funds: how much is taken in a run, the law of needs. No conditions. -/
import Derived.Test.YtklleedcdjkpeaaExamP
set_option linter.constructorNameAsVariable false
set_option linter.unusedVariables false
set_option linter.unusedSimpArgs false
set_option maxRecDepth 100000
namespace Go.P9
open Go.Lom Go.Proofs Go

theorem byRow_step {row : List Int} {day t : Int} (h0 : 0 ≤ t) (h1 : t ≤ day) (h2 : t < row.length) : byRow row day t = row.getD t.toNat 0 + byRow row day (t + 1) := by
  unfold byRow
  rw [drop_step 0 h0 (by rw [List.length_take]; omega), List.sum_cons]
  congr 1
  rw [List.getD_eq_getElem?_getD, List.getD_eq_getElem?_getD, List.getElem?_take_of_lt (by omega)]
theorem byRow_end {row : List Int} {day t : Int} (h0 : 0 ≤ t) (h : ¬ (t ≤ day ∧ t < row.length)) : byRow row day t = 0 := by
  unfold byRow; rw [List.drop_eq_nil_of_le (by rw [List.length_take]; omega)]; rfl
theorem run_row {r : Rn} (h : inRun r) {i : Int} (h0 : 0 ≤ i) (h1 : i < r.2.length) : (r.2.getD i.toNat []).length ≤ 12 ∧ ∀ x ∈ r.2.getD i.toNat [], 0 ≤ x ∧ x ≤ 1073741824 :=
  h.2 _ (by simp [List.getD_eq_getElem?_getD, show i.toNat < r.2.length by omega])
theorem h44b (day : Int) (r : Rn) (n i t : Int) (Q : LQ) : s44b day r n i t Q → xloop2 Try.prog {} 5 44 1 lc44b (fun _ => some (sh44, 1)) (fun (day, _, _, _, t, _) => (day + 1 - t).toNat) (day, r, n, i, t, ()) Q := by
  intro ⟨⟨h0, h1, h2, h3, h4, h5, h6, h7, h8, h9, h10⟩, hQ⟩
  rw [v44b]
  obtain ⟨r1, r2⟩ := run_row h0 h3 h4
  have hr8 := h0.1
  have stop : ¬ (t ≤ day ∧ t < (r.2.getD i.toNat []).length) → Q (.exit 2) (stS 1 sh44 (day, r, n, i, ())) := fun h => by
    rw [byRow_end h5 h, Int.add_zero] at hQ; exact hQ
  simp only [fork_iff, req_iff, decide_eq_true_eq, decide_eq_false_iff_not]
  refine ⟨fun a => ⟨⟨h3, h4⟩, fun b => ?_, fun b => stop fun h => b h.2⟩, fun a => stop fun h => a h.1⟩
  have hx := r2 _ (getD_mem (d := r.2.getD i.toNat []) (i := t.toNat) (by omega) 0)
  refine ⟨⟨h3, h4⟩, ⟨h5, b⟩, inR_i64.2 (by omega), inR_i64.2 (by omega), ?_, show s44b day r (n + (r.2.getD i.toNat []).getD t.toNat 0) i (t + 1) Q from ⟨⟨h0, h1, h2, h3, h4, by omega, by omega, by omega, by omega, by omega, by omega⟩, ?_⟩⟩
  · show (day + 1 - (t + 1)).toNat < (day + 1 - t).toNat
    omega
  · rw [byRow_step h5 a b, ← Int.add_assoc] at hQ; exact hQ
theorem ok44b : Lp2Ok Try.prog 44 1 lc44b := lp2_of (n := 5) (ex := fun _ => some (sh44, 1)) (m := fun (day, _, _, _, t, _) => (day + 1 - t).toNat) (good2_nil _) fun (day, r, n, i, t, ()) Q hx => h44b day r n i t Q hx
theorem byRow_bd : ∀ {l : List Int}, (∀ x ∈ l, 0 ≤ x ∧ x ≤ 1073741824) → 0 ≤ l.sum ∧ l.sum ≤ 1073741824 * l.length
  | l, h => ⟨sum_nn fun x hx => (h x hx).1, sum_bd fun x hx => (h x hx).2⟩
theorem h44a (day : Int) (r : Rn) (n i : Int) (Q : LQ) : s44a day r n i Q → xloop2 Try.prog { l2 := [(44, 1, lc44b)] } 5 44 0 lc44a (fun _ => some (sh44e, 0)) (fun (_, r, _, i, _) => mL r.2 i) (day, r, n, i, ()) Q := by
  intro ⟨⟨h0, h1, h2, h3, h4, h5, h6⟩, hQ⟩
  rw [v44a]
  have h8 := h0.1
  simp only [fork_iff, req_iff, decide_eq_true_eq, decide_eq_false_iff_not]
  refine ⟨fun hi => ?_, fun hi => ?_⟩
  · obtain ⟨r1, r2⟩ := run_row h0 h3 hi
    have hb : 0 ≤ byRow (r.2.getD i.toNat []) day 0 ∧ byRow (r.2.getD i.toNat []) day 0 ≤ 12884901888 := by
      unfold byRow
      simp only [Int.toNat_zero, List.drop_zero]
      have := byRow_bd (l := (r.2.getD i.toNat []).take (day + 1).toNat) fun x hx => r2 x (List.mem_of_mem_take hx)
      rw [List.length_take] at this
      omega
    refine ⟨⟨h0, h1, h2, h3, hi, by omega, by omega, by omega, by omega, h5, by omega⟩, inR_i64.2 (by omega), mL_lt hi, show s44a day r (n + byRow (r.2.getD i.toNat []) day 0) (i + 1) Q from ⟨⟨h0, h1, h2, by omega, by omega, by omega, by omega⟩, ?_⟩⟩
    have e : byI r.2 day i = byRow (r.2.getD i.toNat []) day 0 + byI r.2 day (i + 1) := by
      unfold byI; rw [drop_step [] h3 hi, List.map_cons, List.sum_cons]
    rw [e, ← Int.add_assoc] at hQ; exact hQ
  · have e : byI r.2 day i = 0 := by unfold byI; rw [drop_end hi]; rfl
    rw [e, Int.add_zero] at hQ; exact hQ
theorem ok44a : Lp2Ok Try.prog 44 0 lc44a := lp2_of (n := 5) (ex := fun _ => some (sh44e, 0)) (m := fun (_, r, _, i, _) => mL r.2 i) ((good2_nil _).addL2 ok44b) fun (day, r, n, i, ()) Q hx => h44a day r n i Q hx
theorem ok44 : FnOk Try.prog 44 fcBy := fn1_of (n := 5) ((good2_nil _).addL2 ok44a) fun (r, day, ()) K hx => by
  obtain ⟨⟨h1, h2, h3⟩, hK⟩ := hx
  rw [v44F, Int.zero_add]
  exact ⟨⟨h1, h2, h3, by omega, by omega, by omega, by omega⟩, hK⟩

/-! the rows of the example -/
theorem cut_bd {g : Grp} (hg : grpOk g = true) {st d left : Int} (h : 0 ≤ left) : 0 ≤ cutI g st d left ∧ cutI g st d left ≤ left ∧ cutI g st d left ≤ mayI g st d := by
  have eg := grpOk_iff.1 hg
  unfold cutI mayI
  split
  · rw [if_neg (by omega)]; unfold minI; split <;> omega
  · split <;> omega
theorem rowK_len {g : Grp} {st : Int} : ∀ (k : Nat) (d left : Int), (rowK g st k d left).length = k
  | 0, _, _ => rfl
  | k + 1, d, left => by simp only [rowK, List.length_cons, rowK_len k]
theorem rowK_cell {g : Grp} (hg : grpOk g = true) {st : Int} : ∀ (k : Nat) (d left : Int), 0 ≤ left → ∀ j, j < k → 0 ≤ (rowK g st k d left).getD j 0 ∧ (rowK g st k d left).getD j 0 ≤ mayI g st (d + j)
  | 0, _, _, _, j, hj => by omega
  | k + 1, d, left, h, 0, hj => by
    have := cut_bd hg (st := st) (d := d) h
    simp only [rowK, List.getD_cons_zero]
    rw [show d + ((0 : Nat) : Int) = d by omega]; omega
  | k + 1, d, left, h, j + 1, hj => by
    have := cut_bd hg (st := st) (d := d) h
    have := rowK_cell hg (st := st) k (d + 1) (left - cutI g st d left) (by omega) j (by omega)
    simp only [rowK, List.getD_cons_succ]
    rw [show d + ((j + 1 : Nat) : Int) = d + 1 + (j : Int) by omega]; exact this
theorem rowK_sum {g : Grp} (hg : grpOk g = true) {st : Int} : ∀ (k : Nat) (d left : Int), 0 ≤ left → (rowK g st k d left).sum ≤ left
  | 0, _, _, h => by simpa [rowK] using h
  | k + 1, d, left, h => by
    have := cut_bd hg (st := st) (d := d) h
    have := rowK_sum hg (st := st) k (d + 1) (left - cutI g st d left) (by omega)
    simp only [rowK, List.sum_cons]; omega
theorem rowK_take {g : Grp} (hg : grpOk g = true) {st : Int} : ∀ (c k : Nat) (d left : Int), c ≤ k → 0 ≤ left → ((rowK g st k d left).take c).sum = if 0 ≤ st then minI left (g.2.1 * (posI (d + c - (st + g.2.2)) - posI (d - (st + g.2.2)))) else 0
  | 0, k, d, left, _, h => by
    rw [List.take_zero]
    split
    · rw [show d + ((0 : Nat) : Int) = d by omega, Int.sub_self, Int.mul_zero]; unfold minI; split <;> simp <;> omega
    · rfl
  | c + 1, 0, d, left, hc, _ => by omega
  | c + 1, k + 1, d, left, hc, h => by
    have eg := grpOk_iff.1 hg
    have cb := cut_bd hg (st := st) (d := d) h
    have ih := rowK_take hg (st := st) c k (d + 1) (left - cutI g st d left) (by omega) (by omega)
    simp only [rowK, List.take_succ_cons, List.sum_cons]
    rw [ih]
    by_cases h0 : 0 ≤ st
    · rw [if_pos h0, if_pos h0]
      rw [show d + 1 + (c : Int) = d + ((c + 1 : Nat) : Int) by omega]
      by_cases h1 : st + g.2.2 ≤ d
      · have hc' : cutI g st d left = minI left g.2.1 := by unfold cutI; rw [if_pos ⟨h0, h1⟩]
        have e1 : posI (d + ((c + 1 : Nat) : Int) - (st + g.2.2)) - posI (d + 1 - (st + g.2.2)) = c := by
          unfold posI; split <;> split <;> omega
        have e2 : posI (d + ((c + 1 : Nat) : Int) - (st + g.2.2)) - posI (d - (st + g.2.2)) = (c : Int) + 1 := by
          unfold posI; split <;> split <;> omega
        rw [hc', e1, e2, Int.mul_add, Int.mul_one]
        have hp : 0 ≤ g.2.1 * (c : Int) := Int.mul_nonneg eg.2.1.1 (by omega)
        generalize g.2.1 * (c : Int) = p at *
        unfold minI
        split <;> split <;> split <;> omega
      · have hc' : cutI g st d left = 0 := by unfold cutI; rw [if_neg (fun h => h1 h.2)]
        have e1 : posI (d + 1 - (st + g.2.2)) = posI (d - (st + g.2.2)) := by unfold posI; split <;> split <;> omega
        rw [hc', e1, Int.zero_add, Int.sub_zero]
    · have hc' : cutI g st d left = 0 := by unfold cutI; rw [if_neg (fun h => h0 h.1)]
      rw [if_neg h0, if_neg h0, hc']; rfl
theorem byRow_rowK {g : Grp} (hg : grpOk g = true) {st day : Int} {k : Nat} (h0 : 0 ≤ day) (h1 : day < k) : byRow (rowK g st k 0 g.1) day 0 = tkI g st day := by
  have eg := grpOk_iff.1 hg
  unfold byRow tkI
  simp only [Int.toNat_zero, List.drop_zero]
  rw [rowK_take hg _ _ _ _ (by omega) eg.1.1]
  by_cases h : 0 ≤ st
  · rw [if_pos h, if_pos h]
    have e : posI (0 - (st + g.2.2)) = 0 := by unfold posI; split <;> omega
    rw [e, Int.sub_zero, show (0 : Int) + ((day + 1).toNat : Int) - (st + g.2.2) = day - st - g.2.2 + 1 by omega]
  · rw [if_neg h, if_neg h]
theorem exR_rows {f : Fd} (hf : okF f = true) {day : Int} (hd : dayIn f day) : rowsOk f (startsL f (worstW f day).1) (outK f (startsL f (worstW f day).1) 0) 0 = true := by
  generalize startsL f (worstW f day).1 = s
  unfold rowsOk
  simp only [Int.toNat_zero, List.drop_zero]
  refine List.all_eq_true.2 fun k hk => ?_
  have hol : (outK f s 0).length = (fGroups f).length := by unfold outK; simp
  have hk : k < (fGroups f).length := by rw [← hol]; simpa using hk
  have e : (outK f s 0).getD k [] = rowK ((fGroups f).getD k (0, 0, 0)) (s.getD k 0) (fIn f).length 0 ((fGroups f).getD k (0, 0, 0)).1 := by
    unfold outK
    simp only [Int.toNat_zero, List.drop_zero]
    rw [List.getD_eq_getElem?_getD, List.getElem?_map, List.getElem?_range hk]; rfl
  rw [e]
  have hg : grpOk ((fGroups f).getD k (0, 0, 0)) = true := by have := grp_at hf (i := (k : Int)) (by omega) (by omega); rwa [Int.toNat_natCast] at this
  have eg := grpOk_iff.1 hg
  refine rowOk_iff.2 ⟨rowK_len _ _ _, ?_, rowK_sum hg _ _ _ eg.1.1⟩
  unfold cellsOk
  simp only [Int.toNat_zero, List.drop_zero]
  refine List.all_eq_true.2 fun j hj => ?_
  have hj : j < (fIn f).length := by rw [← rowK_len (g := (fGroups f).getD k (0, 0, 0)) (st := s.getD k 0) (fIn f).length 0 ((fGroups f).getD k (0, 0, 0)).1]; simpa using hj
  have := rowK_cell hg (st := s.getD k 0) (fIn f).length 0 ((fGroups f).getD k (0, 0, 0)).1 eg.1.1 j hj
  rw [Int.zero_add] at this
  exact decide_eq_true this
theorem exR_allow {f : Fd} (hf : okF f = true) {day : Int} (hd : dayIn f day) : allowB f (exR f day) = true := by
  unfold exR
  rw [if_pos ⟨hf, hd⟩]
  have hv := (worstW_valid hf day).1
  unfold allowB
  have h1 : (outK f (startsL f (worstW f day).1) 0).length = (fGroups f).length := by unfold outK; simp
  rw [lists_iff.2 hv.1, decide_eq_true hv.2, decide_eq_true h1, exR_rows hf hd]; rfl
theorem may_le {g : Grp} (hg : grpOk g = true) (st d : Int) : mayI g st d ≤ 1073741824 := by
  have eg := grpOk_iff.1 hg
  unfold mayI; split <;> omega
theorem exR_in {f : Fd} (hf : okF f = true) {day : Int} (hd : dayIn f day) : inRun (exR f day) := by
  unfold exR
  rw [if_pos ⟨hf, hd⟩]
  have hA := okA_iff.1 (okF_parts hf).1
  have hn := okF_n hf
  refine ⟨by unfold outK; simp; omega, fun row hr => ?_⟩
  unfold outK at hr
  obtain ⟨k, hk, rfl⟩ := List.mem_map.1 hr
  have hk : k < (fGroups f).length := by simpa using hk
  have hg : grpOk ((fGroups f).getD k (0, 0, 0)) = true := by have := grp_at hf (i := (k : Int)) (by omega) (by omega); rwa [Int.toNat_natCast] at this
  have eg := grpOk_iff.1 hg
  refine ⟨by rw [rowK_len]; exact hA.2.1, fun x hx => ?_⟩
  obtain ⟨j, hj, rfl⟩ := List.getElem_of_mem hx
  have hj' : j < (fIn f).length := by rw [rowK_len] at hj; exact hj
  have h1 := rowK_cell hg (st := (startsL f (worstW f day).1).getD k 0) (fIn f).length 0 ((fGroups f).getD k (0, 0, 0)).1 eg.1.1 j hj'
  rw [getD_eq hj] at h1
  have := may_le hg ((startsL f (worstW f day).1).getD k 0) (0 + j)
  omega
theorem exR_by {f : Fd} (hf : okF f = true) {day : Int} (hd : dayIn f day) : byI (exR f day).2 day 0 = (worstW f day).2 := by
  unfold exR
  rw [if_pos ⟨hf, hd⟩, (worstW_valid hf day).2.1]
  unfold byI takenL tkSum outK
  simp only [Int.toNat_zero, List.drop_zero, List.map_map]
  congr 1
  refine List.map_congr_left fun k hk => ?_
  have hk : k < (fGroups f).length := by simpa using hk
  have hg : grpOk ((fGroups f).getD k (0, 0, 0)) = true := by have := grp_at hf (i := (k : Int)) (by omega) (by omega); rwa [Int.toNat_natCast] at this
  unfold dayIn at hd
  exact byRow_rowK hg hd.1 (by omega)
theorem needsR_len {f : Fd} : (needsR f).length ≤ 12 := by
  unfold needsR
  split
  · rename_i h
    have key : ∀ (k : Nat) (i due : Int), (needsK f k i due).length = k := by
      intro k
      induction k with
      | zero => intro i due; rfl
      | succ k ih => intro i due; simp only [needsK, List.length_cons, ih]
    have hA := okA_iff.1 (okF_parts h).1
    unfold needsL; rw [key]; exact hA.2.1
  · simp
theorem ok11 : FnOk Try.prog 11 fc11 := fn1_of (n := 5) ((((((((((good2_nil _).addF okWorks').addF ok44).addF ok38).addF ok43).addF ok42).addF ok41).addF ok16).addF ok40).addF ok39) fun (f, day, ()) K hx => by
  obtain ⟨hb, hK⟩ := hx
  have hb : bigF f := hb
  rw [v11F]
  have hnl := needsR_len (f := f)
  have hwl : (worstE f day).1.length ≤ 9223372036854775807 := by
    rcases worstE_cases f day with ⟨h1, h2⟩ | ⟨h1, h2, h3⟩
    · unfold worstE; split
      · rename_i h; rw [if_neg (fun a => h2 ⟨h, a⟩)]; simp
      · simp
    · rw [h3]; have := okL_len (worstW_valid h1 day).1.1; have := okF_n h1; show (worstW f day).1.length ≤ _; omega
  refine ⟨hb, hb, by omega, fork_iff.2 ⟨fun h => by simp at h, fun _ => fork_iff.2 ⟨fun h => by simp at h, fun _ => ⟨hb, hb, hwl, fork_iff.2 ⟨fun h => by simp at h, fun _ => fork_iff.2 ⟨fun h => by simp at h, fun _ => fork_iff.2 ⟨fun h => by simp at h, fun _ => ⟨hb, ?_⟩⟩⟩⟩⟩⟩⟩⟩
  rcases worstE_cases f day with ⟨h1, h2⟩ | ⟨h1, h2, h3⟩
  · have e : exR f day = ([], []) := by unfold exR; rw [if_neg h2]
    rw [e]
    refine fork_iff.2 ⟨fun _ => fork_iff.2 ⟨fun _ => hK, fun h => by simp at h⟩, fun h => absurd (by simpa using h) h1⟩
  · have h4 : (worstE f day).2.2 = 0 := by rw [h3]
    rw [h4]
    refine fork_iff.2 ⟨fun h => by simp at h, fun _ => ⟨⟨hb, ?_⟩, fork_iff.2 ⟨fun _ => fork_iff.2 ⟨fun _ => fork_iff.2 ⟨fun _ => ⟨⟨exR_in h1 h2, h2.1, ?_⟩, fork_iff.2 ⟨fun _ => hK, fun h => ?_⟩⟩, fun h => ?_⟩, fun h => ?_⟩, fun h => by simp at h⟩⟩⟩
    · have := exR_in h1 h2
      refine ⟨?_, by have := this.1; omega⟩
      unfold exR; rw [if_pos ⟨h1, h2⟩]
      have := okL_len (worstW_valid h1 day).1.1; have := okF_n h1; show (worstW f day).1.length ≤ _; omega
    · have hA := okA_iff.1 (okF_parts h1).1
      have h10 : ∀ d : Int, d ≤ ((fIn f).length : Int) - 1 → d ≤ 12 := fun d hd => by omega
      exact h10 day h2.2
    · rw [exR_by h1 h2, h3] at h; simp at h
    · rw [h1, exR_allow h1 h2] at h; cases h
    · unfold chkE at h; rw [h1] at h; simp at h
end Go.P9
