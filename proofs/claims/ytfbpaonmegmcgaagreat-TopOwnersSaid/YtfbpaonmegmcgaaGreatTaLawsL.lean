/- Funds: sound plans are walks; the laws of the least plan, of the capital, of pay: plain laws. No conditions. -/
import Derived.Test.YtfbpaonmegmcgaaGreatTaBearsL
import Derived.Test.YtfbpaonmegmcgaaGreatTaFollowP
import Derived.Test.YtfbpaonmegmcgaaGreatTaFailL
set_option linter.all false
set_option maxRecDepth 100000
namespace Go.P9
open Go.Lom Go.Proofs Go
theorem walk_len {pr sl : Int -> Int} : ∀ {ns : List Int} {t m : Int} {l : List Int}, walkP pr sl ns t m l -> l.length = ns.length
 | [], _, _, [], _ => rfl
 | [], _, _, _ :: _, h => h.elim
 | _ :: _, _, _, [], h => h.elim
 | n :: ns, t, m, c :: l, h => by simp only [List.length_cons]; rw [walk_len h.2]
theorem soundN_walk {f : Fd} {l : List Int} : ∀ (ns : List Int) (i m : Int), 0 <= i -> l.length = i.toNat + ns.length -> ((planC f l i && soundN f l ns i m) = true ↔ walkP (prF f) (slF f) ns i m (l.drop i.toNat))
 | [], i, m, h0, hl => by
  simp only [List.length_nil] at hl
  rw [planC_end (by omega), List.drop_eq_nil_of_le (by omega)]
  simp [soundN, walkP]
 | n :: ns, i, m, h0, hl => by
  simp only [List.length_cons] at hl
  rw [planC_step h0 (by omega), drop_step (l := l) 0 h0 (by omega)]
  simp only [soundN, walkP]
  have ih := soundN_walk (f := f) (l := l) ns (i + 1) (monI f l i m) (by omega) (by omega)
  have hm : monI f l i m = m + l.getD i.toNat 0 * prF f i := rfl
  rw [<- hm, <- ih]
  generalize monI f l i m = v
  generalize l.getD i.toNat 0 = c
  simp only [Bool.and_eq_true, decide_eq_true_eq]
  by_cases h : v < n
  ·rw [if_pos h]
   constructor
   ·intro h2; simp at h2
   ·intro h2; omega
  ·rw [if_neg h]
   constructor
   ·rintro ⟨⟨⟨a, b⟩, d⟩, e⟩; exact ⟨⟨a, b, by omega⟩, d, e⟩
   ·rintro ⟨⟨a, b, _⟩, d, e⟩; exact ⟨⟨⟨a, b⟩, d⟩, e⟩
theorem sound_iff {f : Fd} {l : List Int} : (planB f l = true /\ soundB f l = true) ↔ (walkP (prF f) (slF f) (needsL f) 0 0 l /\ l.sum <= fBars f) := by
 have hn : (needsL f).length = (fIn f).length := needsK_len _ _ _
 constructor
 ·rintro ⟨h1, h2⟩
  obtain ⟨p1, p2, p3⟩ := planB_parts h1
  have := (soundN_walk (f := f) (l := l) (needsL f) 0 0 (by omega) (by simp; omega)).1 (by rw [p2]; exact h2)
  exact ⟨this, p3⟩
 ·rintro ⟨h1, h2⟩
  have hl := walk_len h1
  have := (soundN_walk (f := f) (l := l) (needsL f) 0 0 (by omega) (by simp; omega)).2 h1
  simp only [Bool.and_eq_true] at this
  refine ⟨?_, this.2⟩
  unfold planB
  rw [this.1, decide_eq_true (show l.length = (fIn f).length by omega), decide_eq_true h2]; rfl
theorem least_walk {f : Fd} (hf : okF f = true) (h : ¬ fewN f (needsL f) < 0) : walkP (prF f) (slF f) (needsL f) 0 0 (plK f (needsL f) (fewN f (needsL f)) 0 0 0) /\ (plK f (needsL f) (fewN f (needsL f)) 0 0 0).sum = fewN f (needsL f) /\ 0 <= fewN f (needsL f) /\ fewN f (needsL f) <= fBars f := by
 have hN := needsL_B hf
 rcases few_cases (f := f) (ns := needsL f) with h1 | ⟨h1, h2, h3, _⟩
 ·omega
 ·have h4 := (ask0_iff (needB_le hN h1 h2) (ex := true) (by omega) (by omega)).1 h3
  have hl : (needsL f).length <= 12 := hN.2.1
  obtain ⟨w1, w2⟩ := plan_walk (bdF hf) (B := fewN f (needsL f)) (ns := needsL f) (t := 0) (k := 0) (m := 0) (by omega) (by omega) h4
  have e : plK f (needsL f) (fewN f (needsL f)) 0 0 0 = planK (prF f) (slF f) (fewN f (needsL f)) (needsL f) 0 0 0 := rfl
  rw [e]
  exact ⟨w1, by omega, h1, h2⟩
theorem least_few {f : Fd} (hf : okF f = true) {l : List Int} (h1 : planB f l = true) (h2 : soundB f l = true) : 0 <= fewN f (needsL f) /\ fewN f (needsL f) <= l.sum /\ (fewN f (needsL f) = l.sum -> aheadI l (plK f (needsL f) (fewN f (needsL f)) 0 0 0) = false) := by
 have hN := needsL_B hf
 have hl : (needsL f).length <= 12 := hN.2.1
 obtain ⟨w, hb⟩ := sound_iff.1 ⟨h1, h2⟩
 have h0 := sum_nnA (walk_nonneg w)
 have h3 := (ask0_iff (needB_le hN (i := l.sum) h0 hb) (ex := true) (m := 0) (by omega) (by omega)).2 (feas_walk.2 ⟨l, w, show 0 + l.sum = l.sum by omega⟩)
 rcases few_cases (f := f) (ns := needsL f) with h4 | ⟨h4, h5, h6, h7⟩
 ·exact absurd h3 (h4.2 l.sum h0 hb)
 ·refine ⟨h4, ?_, fun e => by
   have := plan_first (bdF hf) (B := fewN f (needsL f)) (ns := needsL f) (t := 0) (k := 0) (m := 0) (l := l) (by omega) (by omega) w (by omega)
   exact this⟩
  by_cases c : l.sum < fewN f (needsL f)
  ·exact absurd h3 (h7 l.sum h0 c)
  ·omega
theorem leastR_cases (f : Fd) : (okF f = false /\ leastR f = ([], 0, 90)) \/ (okF f = true /\ fewN f (needsL f) < 0 /\ leastR f = ([], 0, 4)) \/ (okF f = true /\ ¬ fewN f (needsL f) < 0 /\ leastR f = (plK f (needsL f) (fewN f (needsL f)) 0 0 0, fewN f (needsL f), 0)) := by
 unfold leastR
 by_cases h : okF f = true
 ·rw [if_pos h]
  by_cases c : fewN f (needsL f) < 0
  ·rw [if_pos c]; exact .inr (.inl ⟨h, c, rfl⟩)
  ·rw [if_neg c]; exact .inr (.inr ⟨h, c, rfl⟩)
 ·rw [if_neg h]; exact .inl ⟨by simpa using h, rfl⟩
theorem least_sound {f : Fd} (h : (leastR f).2.2 = 0) : okF f = true /\ planB f (leastR f).1 = true /\ soundB f (leastR f).1 = true /\ (leastR f).2.1 = (leastR f).1.sum /\ (leastR f).1.length <= 12 := by
 rcases leastR_cases f with ⟨_, e⟩ | ⟨_, _, e⟩ | ⟨h1, h2, e⟩
 ·rw [e] at h; cases h
 ·rw [e] at h; cases h
 ·obtain ⟨w1, w2, w3, w4⟩ := least_walk h1 h2
  have hN := needsL_B h1
  have hl := walk_len w1
  have hl2 : (needsL f).length <= 12 := hN.2.1
  rw [e]
  obtain ⟨s1, s2⟩ := sound_iff.2 ⟨w1, by omega⟩
  exact ⟨h1, s1, s2, w2.symm, by show (plK f (needsL f) (fewN f (needsL f)) 0 0 0).length <= 12; omega⟩
theorem least_none {f : Fd} (h : (leastR f).2.2 ≠ 0) : (leastR f).1 = [] /\ (leastR f).2.1 = 0 /\ ∀ l, (okF f && (planB f l && soundB f l)) = false := by
 rcases leastR_cases f with ⟨h1, e⟩ | ⟨h1, h2, e⟩ | ⟨h1, h2, e⟩
 ·rw [e]; exact ⟨rfl, rfl, fun l => by rw [h1]; rfl⟩
 ·rw [e]
  refine ⟨rfl, rfl, fun l => ?_⟩
  cases c1 : planB f l with
  | false => simp
  | true => cases c2 : soundB f l with
   | false => simp
   | true => have := (least_few h1 c1 c2).1; omega
 ·rw [e] at h; exact absurd rfl h
theorem err_iff {f : Fd} (hf : okF f = true) : ((leastR f).2.2 = 0 ↔ lackF f <= 0) /\ ((leastR f).2.2 = 4 ↔ 0 < lackF f) := by
 have hl := lackF_iff hf
 rcases leastR_cases f with ⟨h1, e⟩ | ⟨h1, h2, e⟩ | ⟨h1, h2, e⟩
 ·rw [hf] at h1; cases h1
 ·rw [e]
  constructor
  ·constructor
   ·intro h; cases h
   ·intro h; have := hl.1 h; omega
  ·constructor
   ·intro _; by_cases c : 0 < lackF f
    ·exact c
    ·have := hl.1 (by omega); omega
   ·intro _; rfl
 ·rw [e]
  have := hl.2 (by omega)
  constructor
  ·exact ⟨fun _ => this, fun _ => rfl⟩
  ·constructor
   ·intro h; cases h
   ·intro h; omega
theorem okF_cash {f : Fd} (hf : okF f = true) {x : Int} (h0 : 0 <= x) (h1 : x <= 1099511627776) : okF (x, f.2) = true := by
 obtain ⟨a1, a2, a3, a4, a5⟩ := okF_parts hf
 have hA := okA_iff.1 a1
 have hA2 : okA (x, f.2) = true := okA_iff.2 ⟨hA.1, hA.2.1, hA.2.2.1, hA.2.2.2.1, hA.2.2.2.2.1, h0, h1⟩
 unfold okF
 rw [hA2, show daysOk (x, f.2) 0 = daysOk f 0 from rfl, show okB (x, f.2) = okB f from rfl, a2, a3]
 simp only [Bool.true_and]
 rw [show (fGroups (x, f.2)).all grpOk = (fGroups f).all grpOk from rfl, a4]
 exact a5
theorem needs_cash {f : Fd} (d x : Int) : ∀ (k : Nat) (i due : Int), needsK (x, f.2) k i (due - d) = (needsK f k i due).map (· - d)
 | 0, _, _ => rfl
 | k + 1, i, due => by
  simp only [needsK, List.map_cons]
  have e : dueI (x, f.2) i (due - d) = dueI f i due - d := by
   show due - d + ((fBonds f).getD i.toNat 0 - ((fIn f).getD i.toNat (0, 0)).1) = due + ((fBonds f).getD i.toNat 0 - ((fIn f).getD i.toNat (0, 0)).1) - d
   omega
  rw [e, needs_cash d x k (i + 1) (dueI f i due)]
  congr 1
  show dueI f i due - d + (worstW f i).2 = dueI f i due + (worstW f i).2 - d
  omega
theorem needsL_cash (f : Fd) (d : Int) : needsL (fCash f + d, f.2) = (needsL f).map (· - d) := by
 have := needs_cash (f := f) d (fCash f + d) (fIn f).length 0 (-(fCash f))
 rw [<- show -(fCash f + d) = -(fCash f) - d by omega] at this
 exact this
theorem lack_cash {f : Fd} (hf : okF f = true) {d : Int} (h0 : 0 <= d) (h1 : fCash f + d <= 1099511627776) : lackF (fCash f + d, f.2) <= 0 ↔ lackF f <= d := by
 have hA := okA_iff.1 (okF_parts hf).1
 have hf2 := okF_cash hf (x := fCash f + d) (by omega) h1
 rw [lackF_iff hf2, few_iff (needsL_B hf2), needsL_cash]
 show feas (prF f) (slF f) (finB (fBars f) false) ((needsL f).map (· - d)) 0 0 0 ↔ _
 rw [feas_shift, Int.zero_add, <- ask_all_iff (needsL_B hf) h0 (by omega)]
 unfold lackF maxI
 split <;> omega
theorem lackF_nonneg (f : Fd) : 0 <= lackF f := by unfold lackF maxI; split <;> omega
theorem lackF_le {f : Fd} (hf : okF f = true) : lackF f <= 562949953421312 := by
 have hH := needsL_H hf
 have := (ask_all_iff hH.1 (m := 562949953421312) (by omega) (by omega)).2 (feas_zero (pr := prF f) (fin := finB (fBars f) false) (fun t => (slF_bd hf t).1) (show (0 : Int) <= fBars f from hH.1.2.2.2.1) fun x hx => (hH.2 x hx).2)
 unfold lackF maxI
 split <;> omega
theorem cap_laws {f : Fd} (hf : okF f = true) : 0 <= capR f /\ capR f <= 562949953421312 /\ ((leastR f).2.2 = 0 ↔ capR f = 0) /\
  (f.1 + capR f <= 1099511627776 -> (leastR (f.1 + capR f, f.2)).2.2 = 0) /\ (0 < capR f -> f.1 + capR f - 1 <= 1099511627776 -> (leastR (f.1 + capR f - 1, f.2)).2.2 = 4) := by
 have e : capR f = lackF f := by unfold capR; rw [if_pos hf]
 have hA := okA_iff.1 (okF_parts hf).1
 have h0 := lackF_nonneg f
 have h1 := lackF_le hf
 have c0 : 0 <= f.1 := hA.2.2.2.2.2.1
 rw [e]
 refine ⟨h0, h1, ?_, fun h => ?_, fun h g => ?_⟩
 ·rw [(err_iff hf).1]
  constructor <;> intro h <;> omega
 ·rw [(err_iff (okF_cash hf (x := f.1 + lackF f) (by omega) h)).1]
  exact (lack_cash hf h0 h).2 (Int.le_refl _)
 ·rw [show f.1 + lackF f - 1 = f.1 + (lackF f - 1) by omega] at g ⊢
  rw [(err_iff (okF_cash hf (x := f.1 + (lackF f - 1)) (by omega) g)).2]
  have := lack_cash hf (d := lackF f - 1) (by omega) g
  have hn := lackF_nonneg (f.1 + (lackF f - 1), f.2)
  by_cases c : 0 < lackF (f.1 + (lackF f - 1), f.2)
  ·exact c
  ·have := this.1 (by show lackF (f.1 + (lackF f - 1), f.2) <= 0; omega)
   omega
theorem row_take {g : Grp} {st : Int} {row : List Int} (hg : grpOk g = true) (h1 : cellsOk g st row 0 = true) (h2 : row.sum <= g.1) {t : Int} (h0 : 0 <= t) (ht : t < row.length) : byRow row t 0 <= tkI g st t := by
 have hc : ∀ k : Nat, k < row.length -> 0 <= row.getD k 0 /\ row.getD k 0 <= mayI g st k := fun k hk => by
  have := List.all_eq_true.1 h1 k (by simp; omega)
  exact of_decide_eq_true this
 have hg2 := grpOk_iff.1 hg
 have hS : byRow row t 0 = SS (fun u => row.getD u 0) (t + 1).toNat := by
  unfold byRow
  rw [Int.toNat_zero, List.drop_zero, take_SS]
 have hle : ∀ j, j <= row.length -> SS (fun u => row.getD u 0) j <= row.sum := fun j hj => by
  have e : row.sum = (row.take j).sum + (row.drop j).sum := by rw [<- List.sum_append, List.take_append_drop]
  have : 0 <= (row.drop j).sum := sum_nnA fun x hx => by
   obtain ⟨k, hk, rfl⟩ := List.getElem_of_mem (List.mem_of_mem_drop hx)
   have := (hc k hk).1
   rw [getD_eq hk] at this; exact this
  rw [e, take_SS]; omega
 have hlin : ∀ j : Nat, j <= row.length -> 0 <= st -> SS (fun u => row.getD u 0) j <= g.2.1 * posI ((j : Int) - st - g.2.2) := fun j hj hst => by
  induction j with
  | zero =>
   rw [SS_zero]
   exact Int.mul_nonneg hg2.2.1.1 (by unfold posI; split <;> omega)
  | succ j ih =>
   rw [SS_succ]
   have hcj := (hc j (by omega)).2
   have ih := ih (by omega)
   unfold mayI at hcj
   have ep : ∀ x : Int, posI x = if 0 <= x then x else 0 := fun x => by unfold posI; split <;> split <;> omega
   split at hcj
   ·rename_i hz
    have : posI ((j : Int) - st - g.2.2) = 0 := by rw [ep]; split <;> omega
    rw [this, Int.mul_zero] at ih
    have h3 : 0 <= g.2.1 * posI (((j + 1 : Nat) : Int) - st - g.2.2) := Int.mul_nonneg hg2.2.1.1 (by rw [ep]; split <;> omega)
    show SS (fun u => row.getD u 0) j + row.getD j 0 <= _
    omega
   ·rename_i hz
    have e1 : posI (((j + 1 : Nat) : Int) - st - g.2.2) = posI ((j : Int) - st - g.2.2) + 1 := by rw [ep, ep]; split <;> split <;> omega
    rw [e1, Int.mul_add, Int.mul_one]
    show SS (fun u => row.getD u 0) j + row.getD j 0 <= _
    omega
 unfold tkI
 by_cases hst : 0 <= st
 ·rw [if_pos hst, hS]
  have a1 := hle (t + 1).toNat (by omega)
  have a2 := hlin (t + 1).toNat (by omega) hst
  rw [show (((t + 1).toNat : Nat) : Int) - st - g.2.2 = t - st - g.2.2 + 1 by omega] at a2
  unfold minI
  split <;> omega
 ·rw [if_neg hst, hS]
  have : SS (fun u => row.getD u 0) (t + 1).toNat = SS (fun _ => 0) (t + 1).toNat := SS_congr fun u hu => by
   have := hc u (by omega)
   unfold mayI at this
   rw [if_pos (.inl (by omega))] at this
   show row.getD u 0 = 0
   omega
  rw [this, SS_const0]; exact Int.le_refl _
theorem sum_map_le {α : Type} {g h : α -> Int} : ∀ {l : List α}, (∀ x ∈ l, g x <= h x) -> (l.map g).sum <= (l.map h).sum
 | [], _ => Int.le_refl _
 | x :: l, e => by
  have := e x (List.mem_cons_self ..)
  have := sum_map_le (l := l) fun y hy => e y (List.mem_cons_of_mem _ hy)
  simp only [List.map_cons, List.sum_cons]; omega
theorem map_range {α : Type} (d : α) (g : α -> Int) (l : List α) : l.map g = (List.range l.length).map fun k => g (l.getD k d) := by
 apply List.ext_getElem
 ·simp
 ·intro k h1 h2
  have hk : k < l.length := by simpa using h1
  simp [List.getD_eq_getElem?_getD, hk]
theorem run_le {f : Fd} {r : Rn} (hf : okF f = true) (h : allowB f r = true) {t : Int} (h0 : 0 <= t) (ht : t < (fIn f).length) : byI r.2 t 0 <= (worstW f t).2 := by
 unfold allowB at h
 simp only [Bool.and_eq_true, decide_eq_true_eq] at h
 obtain ⟨a1, a2, a3, a4⟩ := h
 refine Int.le_trans ?_ ((worstW_valid hf t).2.2 r.1 ⟨lists_iff.1 a1, a2⟩)
 unfold byI takenL tkSum
 simp only [Int.toNat_zero, List.drop_zero]
 rw [map_range ([] : List Int), a3]
 refine sum_map_le fun k hk => ?_
 have hk : k < (fGroups f).length := by simpa using hk
 have hr := List.all_eq_true.1 a4 k (by simp; omega)
 unfold rowOk at hr
 simp only [Bool.and_eq_true, decide_eq_true_eq] at hr
 have hg := grp_at hf (i := (k : Int)) (by omega) (by omega)
 rw [Int.toNat_natCast] at hg
 exact row_take hg hr.2.1 hr.2.2 h0 (by omega)
theorem soundN_get {f : Fd} {l : List Int} : ∀ (ns : List Int) (i : Nat) (m : Int), soundN f l ns i m = true -> ∀ j : Nat, j < ns.length -> ns.getD j 0 <= m + SS (fun u => l.getD (i + u) 0 * ((fPrices f).getD (i + u) (0, 0)).1) (j + 1)
 | [], _, _, _, j, hj => by simp at hj
 | n :: ns, i, m, h, j, hj => by
  simp only [soundN] at h
  split at h
  ·cases h
  ·rename_i hn
   have hm : monI f l (i : Int) m = m + l.getD i 0 * ((fPrices f).getD i (0, 0)).1 := by unfold monI; rw [Int.toNat_natCast]
   rw [hm] at h hn
   match j, hj with
   | 0, _ =>
    rw [SS_succ, SS_zero]
    simp only [List.getD_cons_zero, Nat.add_zero]; omega
   | j + 1, hj =>
    have := soundN_get ns (i + 1) _ h j (by simp only [List.length_cons] at hj; omega)
    rw [SS_front _ (j + 1)]
    simp only [List.getD_cons_succ, Nat.add_zero]
    have e : SS (fun u => l.getD (i + 1 + u) 0 * ((fPrices f).getD (i + 1 + u) (0, 0)).1) (j + 1) = SS (fun u => l.getD (i + (u + 1)) 0 * ((fPrices f).getD (i + (u + 1)) (0, 0)).1) (j + 1) := SS_congr fun u _ => by
     show l.getD (i + 1 + u) 0 * ((fPrices f).getD (i + 1 + u) (0, 0)).1 = l.getD (i + (u + 1)) 0 * ((fPrices f).getD (i + (u + 1)) (0, 0)).1
     rw [show i + 1 + u = i + (u + 1) by omega]
    rw [e] at this
    omega
theorem SS_le {g h : Nat -> Int} : ∀ {j}, (∀ u, u < j -> g u <= h u) -> SS g j <= SS h j
 | 0, _ => Int.le_refl _
 | j + 1, e => by
  have := SS_le (g := g) (h := h) (j := j) fun u hu => e u (by omega)
  have := e j (by omega)
  rw [SS_succ, SS_succ]; omega
theorem goodC_of {f : Fd} {c : Cs} (h : folE f c = 0) : goodC f c := by
 unfold folE at h
 by_cases h1 : okF f = true
 ·rw [if_pos h1] at h
  by_cases h2 : planB f c.1 = true
  ·rw [if_pos h2] at h
   by_cases h3 : allowB f c.2.1 = true
   ·rw [if_pos h3] at h
    by_cases h4 : flowB c.2.2.1 (fIn f) = true /\ flowB c.2.2.2 (fPrices f) = true
    ·exact ⟨h1, h2, h3, h4.1, h4.2⟩
    ·rw [if_neg h4] at h; cases h
   ·rw [if_neg h3] at h; cases h
  ·rw [if_neg h2] at h; cases h
 ·rw [if_neg h1] at h; cases h
theorem folK_len (f : Fd) (c : Cs) : ∀ (k : Nat) (d m : Int), (folK f c k d m).length = k
 | 0, _, _ => rfl
 | k + 1, d, m => by simp only [folK, List.length_cons, folK_len f c k]
theorem pays {f : Fd} {c : Cs} (h : folE f c = 0) (hs : soundB f c.1 = true) : ∀ x ∈ folL f c, 0 <= x := by
 intro x hx
 obtain ⟨hf, hp, ha, hi, hq⟩ := goodC_of h
 have hA := okA_iff.1 (okF_parts hf).1
 obtain ⟨j, hj, rfl⟩ := List.getElem_of_mem hx
 have hj2 : j < (fIn f).length := by
  have : (folL f c).length = (fIn f).length := folK_len f c _ _ _
  omega
 rw [<- getD_eq hj]
 have e : (folL f c).getD j 0 = fCash f + SS (fun u => flowI f c ((0 + u : Nat) : Int) 0 - takeI c.2.1.2 ((0 + u : Nat) : Int) 0) (j + 1) := folK_at f c (fIn f).length 0 (fCash f) j hj2
 have hn : (needsL f).getD j 0 = -(fCash f) + SS (fun u => (fBonds f).getD (0 + u) 0 - ((fIn f).getD (0 + u) (0, 0)).1) (j + 1) + (worstW f ((0 + j : Nat) : Int)).2 := needsK_at f (fIn f).length 0 (-(fCash f)) j hj2
 have hnl : (needsL f).length = (fIn f).length := needsK_len _ _ _
 have hS := soundN_get (f := f) (l := c.1) (needsL f) 0 0 hs j (by omega)
 simp only [Nat.zero_add] at e hn hS
 rw [SS_sub, take_by] at e
 have hw := run_le hf ha (t := (j : Int)) (by omega) (by omega)
 have fi := flow_at hi
 have fp := flow_at hq
 obtain ⟨p1, p2, _⟩ := planB_parts hp
 have hflow : SS (fun u => c.1.getD u 0 * ((fPrices f).getD u (0, 0)).1 - ((fBonds f).getD u 0 - ((fIn f).getD u (0, 0)).1)) (j + 1) <= SS (fun u => flowI f c ((u : Nat) : Int) 0) (j + 1) := SS_le fun u hu => by
  have i1 := (fi.2 (u : Int) (by omega) (by omega)).1
  have i2 := (fp.2 (u : Int) (by omega) (by omega)).1
  have i3 := (planC_in hf p1 p2 (u : Int) (by omega) (by omega)).1
  rw [Int.toNat_natCast] at i1 i2 i3
  have i4 := Int.mul_le_mul_of_nonneg_left i2 i3
  show c.1.getD u 0 * ((fPrices f).getD u (0, 0)).1 - ((fBonds f).getD u 0 - ((fIn f).getD u (0, 0)).1) <= flowI f c ((u : Nat) : Int) 0
  unfold flowI
  rw [Int.toNat_natCast]
  omega
 rw [SS_sub] at hflow
 rw [e]
 omega
end Go.P9
