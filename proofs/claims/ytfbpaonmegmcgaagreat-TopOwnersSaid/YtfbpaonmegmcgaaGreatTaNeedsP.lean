/- Funds: needs: the code keeps its contracts. No conditions. -/
import Derived.Test.YtfbpaonmegmcgaaGreatTaNeedsS
import Derived.Test.YtfbpaonmegmcgaaGreatTaWorstL
set_option linter.all false
set_option maxRecDepth 100000
namespace Go.P9
open Go.Lom Go.Proofs Go
theorem day_at {f : Fd} (hf : okF f = true) {i : Int} (h0 : 0 <= i) (h1 : i < (fIn f).length) : dayOk f i.toNat = true :=
 List.all_eq_true.1 (okF_parts hf).2.1 i.toNat (by simp; omega)
theorem day_bd {f : Fd} (hf : okF f = true) {i : Int} (h0 : 0 <= i) (h1 : i < (fIn f).length) : 0 <= (fBonds f).getD i.toNat 0 /\ (fBonds f).getD i.toNat 0 <= 1073741824 /\ 0 <= ((fIn f).getD i.toNat (0, 0)).1 /\ ((fIn f).getD i.toNat (0, 0)).1 <= ((fIn f).getD i.toNat (0, 0)).2 /\ ((fIn f).getD i.toNat (0, 0)).2 <= 1073741824 := by
 obtain ⟨h2, h3, _, _⟩ := dayOk_iff.1 (day_at hf h0 h1)
 unfold spanB at h2
 have := of_decide_eq_true h2
 omega
theorem sum_bd {B : Int} : ∀ {l : List Int}, (∀ x ∈ l, x <= B) -> l.sum <= B * l.length
 | [], _ => by simp
 | x :: l, h => by
  have := h x (List.mem_cons_self ..)
  have := sum_bd (l := l) fun y hy => h y (List.mem_cons_of_mem _ hy)
  have e : B * ((x :: l).length : Int) = B * l.length + B := by
   rw [show ((x :: l).length : Int) = (l.length : Int) + 1 by simp, Int.mul_add, Int.mul_one]
  rw [e, List.sum_cons]; omega
theorem tkI_le {g : Grp} (hg : grpOk g = true) (st day : Int) : tkI g st day <= 1073741824 := by
 have eg := grpOk_iff.1 hg
 unfold tkI
 split
 ·unfold minI; split <;> omega
 ·omega
theorem takenL_le {f : Fd} (hf : okF f = true) (l : List Int) (day : Int) : takenL f l day <= 8589934592 := by
 unfold takenL tkSum
 have hn := okF_n hf
 have := sum_bd (B := 1073741824) (l := ((List.range (fGroups f).length).drop (0 : Int).toNat).map fun k : Nat => tkI ((fGroups f).getD k (0, 0, 0)) ((startsL f l).getD k 0) day) fun x hx => by
  obtain ⟨k, hk, rfl⟩ := List.mem_map.1 hx
  have hk : k < (fGroups f).length := by simpa using hk
  exact tkI_le (by have := grp_at hf (i := (k : Int)) (by omega) (by omega); rwa [Int.toNat_natCast] at this) _ _
 simp only [List.length_map, Int.toNat_zero, List.drop_zero, List.length_range] at this ⊢
 omega
theorem worstW_valid {f : Fd} (hf : okF f = true) (day : Int) : validL f (worstW f day).1 /\ (worstW f day).2 = takenL f (worstW f day).1 day /\ ∀ l, validL f l -> takenL f l day <= (worstW f day).2 := by
 have hB := okB_iff.1 (okF_parts hf).2.2.1
 have hmem : ∀ l, validL f l -> l ∈ allV f := fun l h => (allV_mem hB.2.2.1).2 h
 have hw : runW f day ([], -1) (allV f) = worstW f day := rfl
 rcases runW_best f day (allV f) ([], -1) (allV_sorted f) with ⟨_, h2⟩ | ⟨h1, h2, h3, h4⟩
 ·have h5 := h2 [] (List.mem_cons_self ..)
  have := takenL_nonneg hf [] day
  have h5 : takenL f [] day <= -1 := h5
  omega
 ·rw [hw] at h1 h2 h4
  exact ⟨(allV_mem hB.2.2.1).1 h1, h2, fun l hl => (h4 l (hmem l hl)).1⟩
theorem worstW_bd {f : Fd} (hf : okF f = true) (day : Int) : 0 <= (worstW f day).2 /\ (worstW f day).2 <= 8589934592 := by
 have h := (worstW_valid hf day).2.1
 rw [h]
 exact ⟨takenL_nonneg hf _ _, takenL_le hf _ _⟩
theorem n_step {f : Fd} {out : List Int} {due i : Int} (h : okN f out due i) (hi : i < (fIn f).length) : okN f (out ++ [dueI f i due + (worstW f i).2]) (dueI f i due) (i + 1) /\
  (out ++ [dueI f i due + (worstW f i).2]) ++ needsK f ((fIn f).length - (i + 1).toNat) (i + 1) (dueI f i due) = out ++ needsK f ((fIn f).length - i.toNat) i due := by
 obtain ⟨h1, h2, h3, h4, h5, h6⟩ := h
 have hd := day_bd h1 h2 hi
 refine ⟨⟨h1, by omega, by omega, by simp; omega, ?_, ?_⟩, ?_⟩
 ·unfold dueI; omega
 ·unfold dueI; omega
 ·rw [show (fIn f).length - i.toNat = ((fIn f).length - (i + 1).toNat) + 1 by omega]
  simp only [needsK, List.append_assoc, List.singleton_append]
theorem h54L (f : Fd) (out : List Int) (due n i : Int) (Q : LQ) : s54 f out due n i Q -> xloop2 Tryz.prog { f := [(38, fcWorst)] } 5 23 0 lc54 (fun _ => some (shN, 1)) (fun (f, _, _, _, i, _) => mL (fIn f) i) (f, out, due, n, i, ()) Q := by
 intro ⟨⟨hok, hn⟩, hQ⟩
 rw [v54L]
 subst hn
 obtain ⟨h1, h2, h3, h4, h5, h6⟩ := id hok
 have hA := okA_iff.1 (okF_parts h1).1
 have stp := n_step hok
 have db := fun hi => day_bd h1 (i := i) h2 hi
 have wb := worstW_bd h1 i
 have hm : maxLen = 9223372036854775807 := rfl
 rw [seg_app3, seg_all' rfl]
 simp only [fork_iff, req_iff, decide_eq_true_eq, decide_eq_false_iff_not, Nat.zero_add]
 refine ⟨fun hi => ?_, fun hi => ⟨Nat.le_refl _, ?_⟩⟩
 ·obtain ⟨st1, st2⟩ := stp hi
  have db := db hi
  have hs : s54 f (out ++ [dueI f i due + (worstW f i).2]) (dueI f i due) (fIn f).length (i + 1) Q := ⟨⟨st1, rfl⟩, by rw [st2]; exact hQ⟩
  dsimp only [fIn, fBonds] at *
  refine ⟨⟨h2, by omega⟩, ⟨h2, hi⟩, inR_i64.2 (by omega), inR_i64.2 (by omega), ⟨h1, h2, ?_⟩, inR_i64.2 (by omega), Nat.le_refl _, ?_, inR_i64.2 (by omega), by simp [seg], mL_lt hi, hs⟩
  ·show i <= 12
   omega
  ·simp only [fitsN, Bool.and_eq_true, Nat.ble_eq]
   have : ∀ x : Int, (seg 0 1 [x]).length = 1 := fun x => rfl
   rw [this]; omega
 ·have e : needsK f ((fIn f).length - i.toNat) i due = [] := by rw [show (fIn f).length - i.toNat = 0 by omega]; rfl
  rw [e, List.append_nil] at hQ; exact hQ
theorem ok54L : Lp2Ok Tryz.prog 23 0 lc54 := lp2_of (n := 5) (ex := fun _ => some (shN, 1)) (m := fun (f, _, _, _, i, _) => mL (fIn f) i) ((good2_nil _).addF ok72) fun (f, out, due, n, i, ()) Q hx => h54L f out due n i Q hx
theorem okN_0 {f : Fd} (hf : okF f = true) : okN f [] (-(fCash f)) 0 /\ inR .i64 (-(fCash f)) = true := by
 have hA := okA_iff.1 (okF_parts hf).1
 exact ⟨⟨hf, by omega, by omega, by simp, by omega, by omega⟩, inR_i64.2 (by omega)⟩
theorem ok54 : FnOk Tryz.prog 23 fcN0 := fn1_of (n := 5) ((good2_nil _).addL2 ok54L) fun (f, ()) K hx => by
 obtain ⟨hf, hK⟩ := hx
 rw [v54F]
 have e := seg_all' (l := needsK f (fIn f).length 0 (-f.1)) rfl
 simp only [req_iff, decide_eq_true_eq, List.nil_append, Nat.zero_add, Nat.sub_zero, e]
 exact ⟨(okN_0 hf).2, ⟨(okN_0 hf).1, trivial⟩, Nat.le_refl _, hK⟩
end Go.P9
