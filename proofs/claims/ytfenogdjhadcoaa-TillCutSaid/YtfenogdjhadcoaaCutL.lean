/- Cutting a dealing, or another person of the same head: the window's sum stays. No conditions. -/
import Derived.Test.YtfenogdjhadcoaaWatP5
import Derived.Test.YtfenogdjhadcoaaLinkP
set_option linter.constructorNameAsVariable false
set_option linter.unusedVariables false
set_option linter.unusedSimpArgs false
namespace Go.P8

def wf (w : Wt) (h : List Int) (D P : Int) (d : Dl) : Int := if at' h d.2.1 = P ∧ D - w.1 < d.1 then d.2.2 else 0
theorem dl_drop {l : List Dl} {i : Int} (h0 : 0 ≤ i) (h1 : i < l.length) : l.drop i.toNat = dlAt l i :: l.drop (i + 1).toNat := drop_step dl0 h0 h1
theorem sum_win (w : Wt) (l : List Dl) (h : List Int) (k : Int) : ∀ (n : Nat) (i : Int), 0 ≤ i → i + n ≤ l.length → sumOf l (winF w l h k n i) = (((l.drop i.toNat).take n).map (wf w h (dlAt l k).1 (at' h (dlAt l k).2.1))).sum
  | 0, i, _, _ => by simp [winF, sumOf]
  | n + 1, i, h0, h1 => by
    rw [dl_drop h0 (by omega), List.take_succ_cons, List.map_cons, List.sum_cons, ← sum_win w l h k n (i + 1) (by omega) (by omega)]
    simp only [winF]
    have e : winB w l h k i = true ↔ (at' h (dlAt l i).2.1 = at' h (dlAt l k).2.1 ∧ (dlAt l k).1 - w.1 < (dlAt l i).1) := by
      unfold winB; simp only [Bool.and_eq_true, decide_eq_true_eq]
    unfold wf
    by_cases hb : winB w l h k i = true
    · rw [if_pos hb, if_pos (e.1 hb)]
      simp only [sumOf, List.map_cons, List.sum_cons]; rfl
    · rw [if_neg hb, if_neg (fun z => hb (e.2 z))]; omega
theorem sum_all (w : Wt) {l : List Dl} (h : List Int) {k : Int} (k0 : 0 ≤ k) (k1 : k < l.length) : sumOf l (allI w l h k) = ((l.take (k + 1).toNat).map (wf w h (dlAt l k).1 (at' h (dlAt l k).2.1))).sum := by
  unfold allI
  rw [sum_win w l h k _ 0 (Int.le_refl _) (by omega)]; rfl
theorem rep_low {w : Wt} (l : List Dl) (h : List Int) (k : Int) (e : w.2.2.1 = w.2.1) (m : 1 ≤ w.2.2.2) : repB w l h k = decide (w.2.1 ≤ sumOf l (allI w l h k)) := by
  have : smallI w l h k = [] := by
    unfold smallI
    rw [List.filter_eq_nil_iff]
    intro i _
    unfold smallB
    rw [e]
    simp only [decide_eq_true_eq]
    omega
  unfold repB
  rw [this, decide_eq_false (show ¬ w.2.2.2 ≤ (([] : List Int).length : Int) by simp; omega), Bool.or_false]
theorem dls_app : ∀ (a b : List Dl) (x : Int), dlsOk (a ++ b) x = (dlsOk a x && dlsOk b (lastDay a x))
  | [], b, x => by simp [dlsOk, lastDay]
  | d :: a, b, x => by simp only [List.cons_append, dlsOk, lastDay]; rw [dls_app a b, Bool.and_assoc]
def cutF (l : List Dl) (k : Nat) (part : Int) : List Dl := l.take k ++ ((l.getD k dl0).1, (l.getD k dl0).2.1, part) :: ((l.getD k dl0).1, (l.getD k dl0).2.1, (l.getD k dl0).2.2 - part) :: l.drop (k + 1)
theorem split_at {l : List Dl} {k : Nat} (hk : k < l.length) : l = l.take k ++ l.getD k dl0 :: l.drop (k + 1) := by
  have h : l.getD k dl0 = l[k] := by rw [List.getD_eq_getElem?_getD, List.getElem?_eq_getElem hk]; rfl
  rw [h, ← List.drop_eq_getElem_cons hk, List.take_append_drop]
theorem cut_len {l : List Dl} {k : Nat} (part : Int) (hk : k < l.length) : (cutF l k part).length = l.length + 1 := by
  unfold cutF; simp; omega
theorem cut_dls {l : List Dl} {k : Nat} {part : Int} (hk : k < l.length) (h : dlsOk l 0 = true) (p0 : 1 ≤ part) (p1 : part < (l.getD k dl0).2.2) : dlsOk (cutF l k part) 0 = true := by
  rw [split_at hk, dls_app] at h
  unfold cutF
  rw [dls_app]
  simp only [dlsOk, Bool.and_eq_true] at h ⊢
  obtain ⟨h1, h2, h3⟩ := h
  have := dlOk_iff.1 h2
  refine ⟨h1, dlOk_iff.2 ?_, dlOk_iff.2 ?_, h3⟩
  · exact ⟨this.1, this.2.1, p0, by show part ≤ 1073741824; omega⟩
  · exact ⟨⟨Int.le_refl _, this.1.2⟩, this.2.1, by show 1 ≤ (l.getD k dl0).2.2 - part; omega, by show (l.getD k dl0).2.2 - part ≤ 1073741824; omega⟩
theorem set_dls {l : List Dl} {k : Nat} {p : Int} (hk : k < l.length) (h : dlsOk l 0 = true) (p0 : 0 ≤ p) (p1 : p ≤ 23) : dlsOk (l.set k ((l.getD k dl0).1, p, (l.getD k dl0).2.2)) 0 = true := by
  have e : l.set k ((l.getD k dl0).1, p, (l.getD k dl0).2.2) = l.take k ++ ((l.getD k dl0).1, p, (l.getD k dl0).2.2) :: l.drop (k + 1) := by
    rw [List.set_eq_take_append_cons_drop, if_pos hk]
  rw [e, dls_app]
  rw [split_at hk, dls_app] at h
  simp only [dlsOk, Bool.and_eq_true] at h ⊢
  obtain ⟨h1, h2, h3⟩ := h
  have := dlOk_iff.1 h2
  exact ⟨h1, dlOk_iff.2 ⟨this.1, ⟨p0, p1⟩, this.2.2⟩, h3⟩
theorem set_map {l : List Dl} (f : Dl → Int) {k : Nat} {x : Dl} (hk : k < l.length) (hx : f x = f (l.getD k dl0)) : (l.set k x).map f = l.map f := by
  apply List.ext_getElem?
  intro i
  rw [List.getElem?_map, List.getElem?_set, List.getElem?_map]
  by_cases e : k = i
  · subst e
    rw [if_pos rfl, if_pos hk, List.getElem?_eq_getElem hk]
    simp only [Option.map_some, Option.some.injEq]
    rw [hx, List.getD_eq_getElem?_getD, List.getElem?_eq_getElem hk]; rfl
  · rw [if_neg e]
theorem set_sum (w : Wt) {l : List Dl} (h : List Int) {k : Nat} {p j : Int} (hk : k < l.length) (j0 : 0 ≤ j) (j1 : j < l.length) (e : at' h p = at' h (l.getD k dl0).2.1) :
    sumOf (l.set k ((l.getD k dl0).1, p, (l.getD k dl0).2.2)) (allI w (l.set k ((l.getD k dl0).1, p, (l.getD k dl0).2.2)) h j) = sumOf l (allI w l h j) := by
  rw [sum_all w h j0 (by simpa using j1), sum_all w h j0 j1]
  have hd : (dlAt (l.set k ((l.getD k dl0).1, p, (l.getD k dl0).2.2)) j).1 = (dlAt l j).1 ∧ at' h (dlAt (l.set k ((l.getD k dl0).1, p, (l.getD k dl0).2.2)) j).2.1 = at' h (dlAt l j).2.1 := by
    unfold dlAt
    by_cases q : k = j.toNat
    · subst q
      rw [List.getD_eq_getElem?_getD, List.getElem?_set_self (by simpa using hk)]
      exact ⟨rfl, e⟩
    · rw [List.getD_eq_getElem?_getD, List.getElem?_set_ne q, ← List.getD_eq_getElem?_getD]
      exact ⟨rfl, rfl⟩
  rw [hd.1, hd.2, List.map_take, List.map_take, set_map _ hk]
  unfold wf
  simp only [e]
theorem cut_sum (w : Wt) {l : List Dl} (h : List Int) {k : Nat} (part : Int) {j : Int} (hk : k < l.length) (j0 : 0 ≤ j) (j1 : j < l.length) :
    sumOf (cutF l k part) (allI w (cutF l k part) h (if (k : Int) ≤ j then j + 1 else j)) = sumOf l (allI w l h j) := by
  have hl := cut_len part hk
  have hlt : (l.take k).length = k := by rw [List.length_take]; omega
  split
  · rename_i hkj
    rw [sum_all w h (by omega) (by rw [hl]; omega), sum_all w h j0 j1]
    have hd : (dlAt (cutF l k part) (j + 1)).1 = (dlAt l j).1 ∧ (dlAt (cutF l k part) (j + 1)).2.1 = (dlAt l j).2.1 := by
      unfold dlAt cutF
      rw [List.getD_eq_getElem?_getD, List.getElem?_append_right (by rw [hlt]; omega), hlt]
      by_cases q : (k : Int) = j
      · subst q
        rw [show ((k : Int) + 1).toNat - k = 1 by omega, show (k : Int).toNat = k by omega]
        exact ⟨rfl, rfl⟩
      · obtain ⟨m, hm⟩ : ∃ m : Nat, (j + 1).toNat - k = m + 2 := ⟨(j + 1).toNat - k - 2, by omega⟩
        rw [hm, List.getElem?_cons_succ, List.getElem?_cons_succ, List.getElem?_drop, show k + 1 + m = j.toNat by omega, ← List.getD_eq_getElem?_getD]
        exact ⟨rfl, rfl⟩
    rw [hd.1, hd.2]
    generalize (dlAt l j).1 = D
    generalize at' h (dlAt l j).2.1 = P
    have e1 : (cutF l k part).take (j + 1 + 1).toNat = l.take k ++ ((l.getD k dl0).1, (l.getD k dl0).2.1, part) :: ((l.getD k dl0).1, (l.getD k dl0).2.1, (l.getD k dl0).2.2 - part) :: (l.drop (k + 1)).take (j.toNat - k) := by
      unfold cutF
      rw [List.take_append, hlt, List.take_of_length_le (by rw [hlt]; omega), show (j + 1 + 1).toNat - k = (j.toNat - k) + 1 + 1 by omega, List.take_succ_cons, List.take_succ_cons]
    have e2 : l.take (j + 1).toNat = l.take k ++ l.getD k dl0 :: (l.drop (k + 1)).take (j.toNat - k) := by
      conv => lhs; rw [split_at hk]
      rw [List.take_append, hlt, List.take_of_length_le (by rw [hlt]; omega), show (j + 1).toNat - k = (j.toNat - k) + 1 by omega, List.take_succ_cons]
    rw [e1, e2]
    simp only [List.map_append, List.map_cons, List.sum_append, List.sum_cons]
    have e3 : wf w h D P ((l.getD k dl0).1, (l.getD k dl0).2.1, part) + wf w h D P ((l.getD k dl0).1, (l.getD k dl0).2.1, (l.getD k dl0).2.2 - part) = wf w h D P (l.getD k dl0) := by
      unfold wf
      split <;> simp_all <;> omega
    omega
  · rename_i hkj
    rw [sum_all w h j0 (by rw [hl]; omega), sum_all w h j0 j1]
    have hd : dlAt (cutF l k part) j = dlAt l j := by
      unfold dlAt cutF
      rw [List.getD_eq_getElem?_getD, List.getElem?_append_left (by rw [hlt]; omega), List.getElem?_take, if_pos (by omega), ← List.getD_eq_getElem?_getD]
    rw [hd]
    have e1 : (cutF l k part).take (j + 1).toNat = l.take (j + 1).toNat := by
      unfold cutF
      rw [List.take_append_of_le_length (by rw [hlt]; omega), List.take_take, show min (j + 1).toNat k = (j + 1).toNat by omega]
    rw [e1]
end Go.P8
