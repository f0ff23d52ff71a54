/- Spreading, the specification's side: the outer loop and the function. No conditions. -/
import Derived.Test.YtnjaebjhfilljaaSpread2P
set_option linter.unusedSimpArgs false
set_option linter.unusedVariables false
set_option linter.constructorNameAsVariable false
set_option maxRecDepth 100000
namespace Go.P7
open Go.Lom Go.Proofs Go

theorem ownR_eq (l : List (Int × Int)) (r : Int) : List.zipWith (fun d x => if d.1 = r then d.2 else x) l (List.replicate l.length (0 : Int)) = ownR l r := by
  induction l with
  | nil => rfl
  | cons d l ih =>
    simp only [List.length_cons, List.replicate_succ, List.zipWith_cons_cons, ih]
    rfl
theorem ownR_range {l : List (Int × Int)} (h : validD l = true) (r : Int) : (ownR l r).length = l.length ∧ l.length ≤ 24 ∧ ∀ x ∈ ownR l r, 0 ≤ x ∧ x ≤ 67108864 := by
  simp only [validD, Bool.and_eq_true, decide_eq_true_eq] at h
  refine ⟨by simp [ownR], h.1, fun x hx => ?_⟩
  obtain ⟨d, hd, rfl⟩ := List.mem_map.1 hx
  have := okD_iff.1 (List.all_eq_true.1 h.2 d hd)
  unfold amt
  split <;> omega
theorem partR_range {l : List (Int × Int)} (h : validD l = true) (r : Int) {left : Int} (h0 : 0 ≤ left) (h1 : left ≤ 34359738368) :
    (partR l r left).length = l.length ∧ (∀ x ∈ partR l r left, 0 ≤ x ∧ x ≤ 67108864) ∧ 0 ≤ (partR l r left).sum ∧ (partR l r left).sum ≤ left ∧ ((ownR l r).sum > left → validW (ownR l r) = true) := by
  obtain ⟨g1, g2, g3⟩ := ownR_range h r
  have hv : (ownR l r).sum > left → validW (ownR l r) = true := fun hgt => validW_iff.2 ⟨⟨by
    by_cases he : ownR l r = []
    · rw [he] at hgt; simp at hgt; omega
    · have := List.length_pos_iff.2 he; omega, by omega⟩, g3, by omega⟩
  have hs := sum_bound g3
  unfold partR
  split
  · rename_i hgt
    obtain ⟨f1, f2, f3⟩ := share_law (hv hgt) h0
    refine ⟨by rw [f1.1, g1], fun x hx => ?_, by omega, by omega, hv⟩
    obtain ⟨i, hi, hxi⟩ := List.mem_iff_getElem.1 hx
    have a := f1.2.1 i
    have b := fairs_le (fun k => getD_all (p := fun x => 0 ≤ x) (fun x hx => (g3 x hx).1) (Int.le_refl _) k) f1 (by omega) i (by rw [← f1.1]; exact hi)
    have c := getD_all (p := fun x => 0 ≤ x ∧ x ≤ 67108864) g3 (by omega) i
    rw [List.getD_eq_getElem?_getD, List.getElem?_eq_getElem hi, hxi] at a b
    simp only [Option.getD_some] at a b
    omega
  · exact ⟨g1, g3, hs.1, by omega, hv⟩
theorem h55a (l : List (Int × Int)) (s : Int) (out : List Int) (r : Int) (Q : LQ) : s55a l s out r Q → xloop Try.prog [(23, fcSum), (51, fcShare)] [(55, 1, lc55b), (55, 2, lc55c)] 5 55 0 lc55a (one sh55aE) (fun x => (10 - x.2.2.2.1).toNat) (l, s, out, r, ()) Q := by
  intro ⟨⟨hv, h0, h1, h2, h3, h4, h5⟩, hQ⟩
  rw [v55a]
  obtain ⟨g1, g2, g3⟩ := ownR_range hv r
  obtain ⟨p1, p2, p3, p4, p5⟩ := partR_range hv r h0 h1
  have hseg : seg 0 (Int.toNat (l.length : Int)) (List.replicate (Int.toNat (l.length : Int)) (0 : Int)) = List.replicate l.length 0 := by rw [Int.toNat_natCast]; exact seg_len _ _ (by simp)
  rw [hseg]
  simp only [fork_iff, req_iff, decide_eq_true_eq, decide_eq_false_iff_not, seg_all, Nat.zero_add, List.take_zero, List.drop_zero, List.nil_append, ownR_eq]
  refine ⟨fun hr => ⟨by omega, Nat.le_refl _, by simp, ⟨by omega, by omega, g2, by simp⟩, fun o ho => ?_⟩, fun hr => ?_⟩
  · subst ho
    have e : (10 - r).toNat = (10 - (r + 1)).toNat + 1 := by omega
    rw [e] at hQ
    simp only [spreadN] at hQ
    have fo : fitS 0 (ownR l r) := fitS_of g3 (by omega) (by omega) (by omega)
    have next : ∀ part o, part = partR l r s → o = addL out part → s55a l (s - part.sum) o (r + 1) Q := by
      intro part o hp ho
      subst hp ho
      refine ⟨⟨hv, by omega, by omega, by omega, by omega, by simp [addL, h4, p1], fun x hx => ?_⟩, hQ⟩
      obtain ⟨i, hi, hxi⟩ := List.mem_iff_getElem.1 hx
      simp only [addL, List.getElem_zipWith] at hxi
      have a := h5 _ (List.getElem_mem (by simp [addL] at hi; omega : i < out.length))
      have b := p2 _ (List.getElem_mem (by simp [addL] at hi; omega : i < (partR l r s).length))
      omega
    have out0 : ∀ x ∈ out, 0 ≤ x ∧ x ≤ 1073741824 := fun x hx => by have := h5 x hx; omega
    refine ⟨Nat.le_refl _, ⟨by omega, fo⟩, fun hgt => ?_, fun hle => ?_⟩
    · have hp : partR l r s = shareL (ownR l r) s := by unfold partR; rw [if_pos hgt]
      refine ⟨Nat.le_refl _, ⟨p5 hgt, h0, h1⟩, fun r1 hr1 => ?_⟩
      rw [← hp] at hr1
      subst hr1
      exact ⟨Nat.le_refl _, ⟨by omega, by omega, g2, p1, h4, p2, out0⟩, fun o ho => ⟨⟨by omega, fitS_of p2 (by omega) (by omega) (by omega)⟩, inR_i64.2 (by omega), inR_i64.2 (by omega), Nat.le_refl _, by show (10 - (r + 1) : Int).toNat < (10 - r : Int).toNat; omega, next _ _ rfl ho⟩⟩
    · have hp : partR l r s = ownR l r := by unfold partR; rw [if_neg hle]
      rw [hp] at p1 p2 p3 p4
      exact ⟨Nat.le_refl _, Nat.le_refl _, ⟨by omega, by omega, g2, p1, h4, p2, out0⟩, fun o ho => ⟨⟨by omega, fo⟩, inR_i64.2 (by omega), inR_i64.2 (by omega), Nat.le_refl _, by show (10 - (r + 1) : Int).toNat < (10 - r : Int).toNat; omega, next _ _ hp.symm ho⟩⟩
  · have e : (10 - r).toNat = 0 := by omega
    rw [e] at hQ
    exact ⟨Nat.le_refl _, hQ _ _ rfl⟩
theorem ok55a : LpOk Try.prog 55 0 lc55a := lp_of (n := 5) (ex := one sh55aE) (m := fun x => (10 - x.2.2.2.1).toNat) (((((good_nil _).addL ok55c).addL ok55b).addF ok51).addF okSum) fun (l, s, out, r, ()) Q hx => h55a l s out r Q hx
theorem map_zero (l : List (Int × Int)) : (l.map fun _ => (0 : Int)) = List.replicate l.length 0 := by
  induction l with
  | nil => rfl
  | cons a l ih => rw [List.map_cons, List.length_cons, List.replicate_succ, ih]
theorem h55F (l : List (Int × Int)) (s : Int) (K : dens [L, I] → Prop) : sSpread l s (fun o s => K (o, s, ())) → xfn Try.prog [] [(55, 0, lc55a)] 5 55 fcSpread (l, s, ()) K := by
  intro ⟨⟨hv, h0, h1⟩, hK⟩
  rw [v55F]
  obtain ⟨g1, g2, g3⟩ := ownR_range hv 0
  have hseg : seg 0 (Int.toNat (l.length : Int)) (List.replicate (Int.toNat (l.length : Int)) (0 : Int)) = List.replicate l.length 0 := by rw [Int.toNat_natCast]; exact seg_len _ _ (by simp)
  rw [hseg]
  rw [map_zero] at hK
  simp only [req_iff, decide_eq_true_eq, seg_all, Nat.zero_add]
  refine ⟨by omega, by simp, ⟨hv, h0, h1, by omega, by omega, by simp, fun x hx => by have := (List.mem_replicate.1 hx).2; omega⟩, fun o s' ho => ⟨Nat.le_refl _, hK o s' ho⟩⟩
theorem ok55 : FnOk Try.prog 55 fcSpread := fn_of (n := 5) ((good_nil _).addL ok55a) fun (l, s, ()) K hx => h55F l s K hx
end Go.P7
