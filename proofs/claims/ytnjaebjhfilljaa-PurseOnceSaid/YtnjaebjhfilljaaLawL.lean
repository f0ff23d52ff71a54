/- Purses: what a statement needs of acts: plain laws. No conditions. -/
import Derived.Test.YtnjaebjhfilljaaLawQ
import Derived.Test.YtnjaebjhfilljaaRefP
set_option linter.unusedSimpArgs false
set_option linter.unusedVariables false
set_option linter.constructorNameAsVariable false
namespace Go.P7
open Go.Lom Go.Proofs Go

theorem port_paid {price : Int} {ps : List Pa} {os : List Po} (h : portR price ps = (os, 0)) : ∀ o ∈ os, o.2.1.length ≤ 24 := by
  rcases portR_cases h with ⟨-, hp, ⟨h1, h2, h3, h4⟩, hd, rfl⟩ | ⟨h, -⟩
  · obtain ⟨a1, a2, a3⟩ := prices_ok h4 hp.1 hp.2
    intro o ho
    obtain ⟨i, hi, rfl⟩ := List.mem_iff_getElem.1 ho
    rw [List.getElem_zipWith]
    rw [List.length_zipWith] at hi
    have hv : validD (ps[i]'(by omega)).2.2 = true := List.all_eq_true.1 hd _ (List.getElem_mem _)
    have hn := a2 _ (List.getElem_mem (show i < (shareL (vals7 ps) price).length by omega))
    have u := spread_upto (l := (ps[i]'(by omega)).2.2) (s := (shareL (vals7 ps) price)[i]'(by omega)) hv hn.1 (by omega)
    simp only [portion]
    rw [u.len]
    unfold validD at hv
    simp only [Bool.and_eq_true, decide_eq_true_eq] at hv
    exact hv.1
  · exact absurd rfl h
theorem share_mem {w : List Int} {s : Int} (hw : validW w = true) (h0 : 0 ≤ s) : (shareL w s).length ≤ 24 ∧ (∀ x ∈ shareL w s, 0 ≤ x ∧ x ≤ s) ∧ (shareL w s).sum = s := by
  obtain ⟨a1, a2, a3⟩ := share_law hw h0
  have hn : ∀ x ∈ shareL w s, 0 ≤ x := fun x hx => by
    obtain ⟨i, hi, hxi⟩ := List.mem_iff_getElem.1 hx
    have := a1.2.1 i
    rw [List.getD_eq_getElem?_getD, List.getElem?_eq_getElem hi, hxi] at this
    exact this
  refine ⟨?_, fun x hx => ⟨hn x hx, ?_⟩, a3⟩
  · rw [a1.1]; unfold validW at hw; simp only [Bool.and_eq_true, decide_eq_true_eq] at hw; exact hw.1.1.2
  · have := elem_le_sum hn x hx; omega
/-- What an act answers. -/
structure outA (r : PS × List Po × List Int × Int) : Prop where
  po : r.2.1.length ≤ 8 ∧ ∀ o ∈ r.2.1, o.2.1.length ≤ 24 ∧ 0 ≤ o.2.2 ∧ o.2.2 ≤ 67108864
  li : r.2.2.1.length ≤ 24 ∧ ∀ x ∈ r.2.2.1, 0 ≤ x ∧ x ≤ 17179869184
theorem act_out {s : PS} (h : okP s) (a : Ac) : outA (actI s a) := by
  obtain ⟨hb, -, hp⟩ := okP_bd h
  have none : ∀ x : Po, x ∈ ([] : List Po) → x.2.1.length ≤ 24 ∧ 0 ≤ x.2.2 ∧ x.2.2 ≤ 67108864 := fun x hx => by simp at hx
  have nonei : ∀ x : Int, x ∈ ([] : List Int) → 0 ≤ x ∧ x ≤ 17179869184 := fun x hx => by simp at hx
  unfold actI
  split
  · refine ⟨?_, by simp, nonei⟩
    unfold sellI
    split
    · exact ⟨by simp, none⟩
    split
    · exact ⟨by simp, none⟩
    rename_i he
    split
    · exact ⟨by simp, none⟩
    split
    · exact ⟨by simp, none⟩
    have he2 : portR a.2.2.1 a.2.2.2.1 = ((portR a.2.2.1 a.2.2.2.1).1, 0) := Prod.ext rfl (by simpa using he)
    obtain ⟨l1, l2, l3, l4, l5⟩ := port_left he2
    have hpd := port_paid he2
    exact ⟨by simp only; omega, fun o ho => ⟨hpd o ho, l5 o ho⟩⟩
  split
  · refine ⟨⟨by simp, none⟩, by simp, fun x hx => ?_⟩
    simp only [List.mem_singleton] at hx
    subst hx
    unfold payI
    split
    · simp
    split
    · simp
    rename_i hi
    split
    · simp
    obtain ⟨i0, i1, -⟩ := ixS_at hi
    have := sum_mem h _ (getSu_mem (show (ixS s.2.2.2.1 a.2.2.2.2.1).toNat < s.2.2.2.1.length by omega))
    simp only
    omega
  split
  · refine ⟨⟨by simp, none⟩, by simp, fun x hx => ?_⟩
    simp only [List.mem_singleton] at hx
    subst hx
    unfold passI
    split
    · simp
    exact hp _ _
  · refine ⟨⟨by simp, none⟩, ?_⟩
    unfold giveI
    split
    · exact ⟨by simp, nonei⟩
    split
    · exact ⟨by simp, nonei⟩
    rename_i hw
    obtain ⟨b1, b2, b3⟩ := share_mem (w := a.2.2.2.2.2) (s := s.2.1) (by simpa using hw) hb.1
    exact ⟨b1, fun x hx => ⟨(b2 x hx).1, Int.le_trans (b2 x hx).2 hb.2⟩⟩

/-! steps -/
theorem steps_self {s : PS} (h : okP s) {b : List Su} {t d : Int} (ht : t = s.2.2.1) (hl : s.2.2.2.1.length ≤ b.length ∧ b.length ≤ 256) (hs : ∀ j : Nat, j < s.2.2.2.1.length → stepS t d (s.2.2.2.1.getD j U0) (b.getD j U0)) : stepsS s.2.2.2.1 b t d :=
  ⟨hl, hs, fun x hx => ⟨(h.su x hx).day.1, Int.le_trans (h.su x hx).day.2 h.day.2⟩, by rw [ht]; exact h.term⟩
theorem act_steps {s : PS} (h : okP s) (a : Ac) : stepsS s.2.2.2.1 (actI s a).1.2.2.2.1 s.2.2.1 a.2.1 := by
  have same : ∀ b : List Su, b = s.2.2.2.1 → stepsS s.2.2.2.1 b s.2.2.1 a.2.1 := fun b hb => by
    subst hb; exact steps_self h rfl ⟨Nat.le_refl _, h.len⟩ fun j _ => .inl rfl
  unfold actI
  split
  · have hk := okP_sell h a.2.1 a.2.2.1 a.2.2.2.1
    revert hk
    unfold sellI
    split
    · exact fun _ => same _ rfl
    split
    · exact fun _ => same _ rfl
    split
    · exact fun _ => same _ rfl
    split
    · exact fun _ => same _ rfl
    intro hk
    refine steps_self h rfl ⟨by simp [noted], hk.len⟩ fun j hj => .inl ?_
    simp only [noted]
    rw [List.getD_eq_getElem?_getD, List.getD_eq_getElem?_getD, List.getElem?_append_left hj]
  split
  · have hk := okP_pay h a.2.1 a.2.2.2.2.1
    revert hk
    unfold payI
    split
    · exact fun _ => same _ rfl
    split
    · exact fun _ => same _ rfl
    rename_i hi
    split
    · exact fun _ => same _ rfl
    rename_i hb
    intro hk
    simp only [Bool.not_eq_false, Bool.and_eq_true, Bool.not_eq_true', heldB, passB, decide_eq_true_eq, decide_eq_false_iff_not] at hb
    refine steps_self h rfl ⟨by simp [noted], hk.len⟩ fun j hj => ?_
    simp only [noted]
    rw [List.getD_eq_getElem?_getD (l := s.2.2.2.1.set _ _), List.getElem?_set]
    split
    · rename_i e
      rw [if_pos (by omega)]
      rw [← e]
      exact .inr ⟨hb.1, .inl ⟨rfl, by omega⟩⟩
    · exact .inl (by rw [List.getD_eq_getElem?_getD])
  split
  · have hk := okP_pass h a.2.1
    revert hk
    unfold passI
    split
    · exact fun _ => same _ rfl
    intro hk
    refine steps_self h rfl ⟨by simp [noted], hk.len⟩ fun j hj => ?_
    simp only [noted]
    have e : (s.2.2.2.1.map (passS s.2.2.1 a.2.1)).getD j U0 = passS s.2.2.1 a.2.1 (s.2.2.2.1.getD j U0) := by
      rw [List.getD_eq_getElem?_getD, List.getElem?_map, List.getD_eq_getElem?_getD, List.getElem?_eq_getElem hj]; rfl
    rw [e]
    unfold passS
    split
    · rename_i hg
      unfold goB heldB passB at hg
      simp only [Bool.and_eq_true, decide_eq_true_eq] at hg
      exact .inr ⟨hg.1, .inr ⟨rfl, hg.2⟩⟩
    · exact .inl rfl
  · refine same _ ?_
    unfold giveI
    split
    · rfl
    split <;> rfl

/-! books -/
theorem newSu_left {d : Int} : ∀ {ps : List Pa} {os : List Po}, os.length = ps.length → (∀ o ∈ os, 0 ≤ o.2.2) → waitsN (newSu d ps os) = leftN os
  | [], [], _, _ => rfl
  | [], _ :: _, h, _ => by simp at h
  | _ :: _, [], h, _ => by simp at h
  | p :: ps, o :: os, h, ho => by
    have ih := newSu_left (d := d) (ps := ps) (os := os) (by simpa using h) fun x hx => ho x (List.mem_cons_of_mem _ hx)
    have h0 := ho o List.mem_cons_self
    unfold leftN at ih ⊢
    unfold waitsN at ih ⊢
    simp only [newSu, List.map_cons, List.sum_cons]
    split
    · rw [sumB_cons, ih]; simp [heldB]
    · rw [ih]; omega
theorem left_bd : ∀ {os : List Po}, (∀ o ∈ os, 0 ≤ o.2.2 ∧ o.2.2 ≤ 67108864) → 0 ≤ leftN os ∧ leftN os ≤ os.length * 67108864
  | [], _ => by simp [leftN]
  | o :: os, h => by
    have h1 := h o List.mem_cons_self
    have h2 := left_bd fun x hx => h x (List.mem_cons_of_mem _ hx)
    unfold leftN at h2 ⊢
    rw [List.map_cons, List.sum_cons, List.length_cons]
    push_cast
    omega
theorem books_act {s : PS} (h : okP s) {a : Ac} {b0 b1 b2 b3 i : Int} (hb : booksOk s b0 b1 b2 b3 i) (he : (actI s a).2.2.2 = 0) :
    (a.1 = 1 → booksOk (actI s a).1 (b0 + leftN (actI s a).2.1) b1 b2 b3 (i + 1)) ∧
    (a.1 ≠ 1 → a.1 = 2 → booksOk (actI s a).1 b0 (b1 + (actI s a).2.2.1.sum) b2 b3 (i + 1)) ∧
    (a.1 ≠ 1 → a.1 ≠ 2 → a.1 = 3 → booksOk (actI s a).1 b0 b1 (b2 + (actI s a).2.2.1.sum) b3 (i + 1)) ∧
    (a.1 ≠ 1 → a.1 ≠ 2 → a.1 ≠ 3 → booksOk (actI s a).1 b0 b1 b2 (b3 + (actI s a).2.2.1.sum) (i + 1)) := by
  obtain ⟨hwf, -, hp⟩ := okP_bd h
  obtain ⟨c1, c2, c3, c4⟩ := hb
  refine ⟨fun k1 => ?_, fun k1 k2 => ?_, fun k1 k2 k3 => ?_, fun k1 k2 k3 => ?_⟩
  · unfold actI at he ⊢
    rw [if_pos k1] at he ⊢
    revert he
    simp only
    unfold sellI
    split
    · intro he; cases he
    split
    · intro he; rename_i h2; exact absurd he h2
    rename_i h2
    split
    · intro he; cases he
    split
    · intro he; cases he
    intro _
    have he2 : portR a.2.2.1 a.2.2.2.1 = ((portR a.2.2.1 a.2.2.2.1).1, 0) := Prod.ext rfl (by simpa using h2)
    obtain ⟨l1, l2, l3, l4, l5⟩ := port_left he2
    have hlb := left_bd l5
    have hnl := newSu_left (d := a.2.1) l1 fun o ho => (l5 o ho).1
    generalize (portR a.2.2.1 a.2.2.2.1).1 = os at *
    simp only [noted]
    refine ⟨?_, c2, c3, ?_⟩
    · simp only
      unfold waitsN at c1 hnl ⊢
      rw [sumB_append, hnl]; omega
    · omega
  · unfold actI at he ⊢
    rw [if_neg k1, if_pos k2] at he ⊢
    revert he
    simp only
    unfold payI
    split
    · intro he; cases he
    split
    · intro he; cases he
    rename_i hi
    split
    · intro he; cases he
    rename_i hbb
    intro _
    obtain ⟨i0, i1, -⟩ := ixS_at hi
    simp only [Bool.not_eq_false, Bool.and_eq_true] at hbb
    have hlt : (ixS s.2.2.2.1 a.2.2.2.2.1).toNat < s.2.2.2.1.length := by omega
    have hx := sum_mem h _ (getSu_mem hlt)
    have hs := sumB_set heldB (y := overI (s.2.2.2.1.getD (ixS s.2.2.2.1 a.2.2.2.2.1).toNat U0) 2 a.2.1) hlt
    rw [if_pos hbb.1, if_neg (show ¬ heldB (overI _ 2 a.2.1) = true from fun e => by cases e)] at hs
    simp only [noted, List.sum_cons, List.sum_nil]
    unfold waitsN at c1
    refine ⟨?_, c2, ⟨by omega, c3.2⟩, by omega⟩
    simp only
    unfold waitsN
    rw [hs]; omega
  · unfold actI at he ⊢
    rw [if_neg k1, if_neg k2, if_pos k3] at he ⊢
    revert he
    simp only
    unfold passI
    split
    · intro he; cases he
    intro _
    simp only [noted, List.sum_cons, List.sum_nil]
    refine ⟨?_, by simp only; omega, c3, by omega⟩
    simp only
    rw [pass_waits]; omega
  · unfold actI at he ⊢
    rw [if_neg k1, if_neg k2, if_neg k3] at he ⊢
    revert he
    simp only
    unfold giveI
    split
    · intro he; cases he
    split
    · intro he; cases he
    rename_i hw
    intro _
    obtain ⟨-, -, h3⟩ := share_mem (w := a.2.2.2.2.2) (s := s.2.1) (by simpa using hw) hwf.1
    simp only [noted]
    rw [h3]
    refine ⟨by simp only; omega, by simp only; omega, ⟨c3.1, by omega⟩, by omega⟩
theorem act_bad {s : PS} {a : Ac} (he : (actI s a).2.2.2 ≠ 0) : (actI s a).1 = s := by
  revert he
  unfold actI
  split
  · simp only; unfold sellI; repeat' split
    all_goals (first | (intro _; rfl) | (intro h; exact absurd rfl h))
  split
  · simp only; unfold payI; repeat' split
    all_goals (first | (intro _; rfl) | (intro h; exact absurd rfl h))
  split
  · simp only; unfold passI; repeat' split
    all_goals (first | (intro _; rfl) | (intro h; exact absurd rfl h))
  · simp only; unfold giveI; repeat' split
    all_goals (first | (intro _; rfl) | (intro h; exact absurd rfl h))
/-- An act that is done is noted. -/
theorem act_noted {s : PS} {a : Ac} (he : (actI s a).2.2.2 = 0) : ∃ n : Nt, (actI s a).1.2.2.2.2 = s.2.2.2.2 ++ [n] ∧ n.2.1 = a.2.1 := by
  revert he
  unfold actI
  split
  · simp only; unfold sellI
    split
    · intro he; cases he
    split
    · rename_i h; intro he; exact absurd he h
    split
    · intro he; cases he
    split
    · intro he; cases he
    exact fun _ => ⟨_, rfl, rfl⟩
  split
  · simp only; unfold payI
    split
    · intro he; cases he
    split
    · intro he; cases he
    split
    · intro he; cases he
    exact fun _ => ⟨_, rfl, rfl⟩
  split
  · simp only; unfold passI
    split
    · intro he; cases he
    exact fun _ => ⟨_, rfl, rfl⟩
  · simp only; unfold giveI
    split
    · intro he; cases he
    split
    · intro he; cases he
    exact fun _ => ⟨_, rfl, rfl⟩
end Go.P7
