/- Rolls: what a call keeps. No conditions. -/
import Derived.Test.YtcpdcpfbgmiaoaaDoorOnceL
set_option linter.constructorNameAsVariable false
set_option linter.unusedVariables false
set_option linter.unusedSimpArgs false
namespace Go.P3
open Go.Lom Go.Proofs Go

theorem kept_refl (a : List Tk) : keptT a a := ⟨Nat.le_refl _, fun j hj => ⟨rfl, fun _ => rfl⟩⟩
theorem kept_turn {ts : List Tk} {n st si : Int} (h0 : 1 ≤ n) (h1 : n ≤ ts.length) (hl : liveB (tkI ts n) = true) : keptT ts (turnI ts n st si) := by
  refine ⟨by rw [turnI_len]; exact Nat.le_refl _, fun j hj => ?_⟩
  have hg : (turnI ts n st si).getD j T0 = if j = (n - 1).toNat ∧ j < ts.length then ((tkI ts n).1, (tkI ts n).2.1, st, (tkI ts n).2.2.2.1, si, (tkI ts n).2.2.2.2.2) else ts.getD j T0 := by
    rw [List.getD_eq_getElem?_getD, turnI_get]
    split
    · rfl
    · rw [List.getD_eq_getElem?_getD]
  rw [hg]
  by_cases hjn : j = (n - 1).toNat ∧ j < ts.length
  · rw [if_pos hjn]
    have e : ts.getD j T0 = tkI ts n := by rw [hjn.1]; rfl
    rw [e]
    refine ⟨rfl, fun hs => ?_⟩
    have := liveB_iff.1 hl
    omega
  · rw [if_neg hjn]; exact ⟨rfl, fun _ => rfl⟩
theorem kept_app {a b : List Tk} (h : keptT a b) (t : Tk) : keptT a (b ++ [t]) := by
  refine ⟨by rw [List.length_append]; have := h.1; omega, fun j hj => ?_⟩
  have e : (b ++ [t]).getD j T0 = b.getD j T0 := by
    rw [List.getD_eq_getElem?_getD, List.getD_eq_getElem?_getD, List.getElem?_append_left (by have := h.1; omega)]
  rw [e]; exact h.2 j hj
theorem kept_adds {a : List Tk} {ps : List Tx} {es : List (List Int)} {n : Int} : ∀ (k : Nat) (b : List Tk) (i : Nat), keptT a b → keptT a (addsI b ps es n k i)
  | 0, b, i, h => h
  | k + 1, b, i, h => by unfold addsI; exact kept_adds k _ _ (kept_app h _)
/-- What a call does to the tickets, seen by pledges. -/
structure Does (s r : RS) (k : Int) (tx : List Tx) (e : Int) : Prop where
  kept : keptT s.2.2.1 r.2.2.1
  inv : ∀ over, InvT s.2.2.1 over → if (k = 6 ∨ k = 7) ∧ e = 0 then (∃ q, tx = [q] ∧ over.any (eqT q) = false ∧ InvT r.2.2.1 (over ++ [q])) else InvT r.2.2.1 over
theorem does_same {s : RS} {k e : Int} {tx : List Tx} (he : e ≠ 0 ∨ ¬ (k = 6 ∨ k = 7)) : Does s s k tx e := ⟨kept_refl _, fun over h => by rw [if_neg (fun e' => he.elim (fun a => a e'.2) (fun a => a e'.1))]; exact h⟩
section
variable {s : RS} {c p : Tx} {d : Int} {g : List Int} {ps : List Tx} {eds : List (List Int)}
theorem issue_does (h : okR s) : Does s (issueI s p g d).1 1 [(issueI s p g d).2.1] (issueI s p g d).2.2 := by
  unfold issueI
  split
  · exact does_same (.inl (by simp))
  split
  · exact does_same (.inl (by simp))
  rename_i h2
  split
  · exact does_same (.inl (by simp))
  split
  · exact does_same (.inl (by simp))
  simp only [Bool.not_eq_false, Bool.and_eq_true, Bool.not_eq_true'] at h2
  exact ⟨kept_app (kept_refl _) _, fun over hi => by rw [if_neg (fun e => by rcases e.1 with e | e <;> cases e)]; exact inv_new hi (par_of h) h2.2⟩
theorem block_does : Does s (blockI s c d).1 2 [[]] (blockI s c d).2 := by
  unfold blockI
  split
  · exact does_same (.inl (by assumption))
  rename_i hz
  split
  · exact does_same (.inl (by simp))
  obtain ⟨hd, -, h1, h2, h3⟩ := bring_ok (Decidable.not_not.1 hz)
  exact ⟨kept_turn h1 h2 h3, fun over hi => by rw [if_neg (fun e => by rcases e.1 with e | e <;> cases e)]; exact inv_flip hi h1 h2 h3 (.inr rfl)⟩
theorem free_does : Does s (freeI s c g d).1 3 [[]] (freeI s c g d).2 := by
  unfold freeI
  split
  · exact does_same (.inl (by assumption))
  rename_i hz
  split
  · exact does_same (.inl (by simp))
  split
  · exact does_same (.inl (by assumption))
  obtain ⟨hd, -, h1, h2, h3⟩ := bring_ok (Decidable.not_not.1 hz)
  exact ⟨kept_turn h1 h2 h3, fun over hi => by rw [if_neg (fun e => by rcases e.1 with e | e <;> cases e)]; exact inv_flip hi h1 h2 h3 (.inl rfl)⟩
theorem replace_does (h : okR s) : Does s (replaceI s c g d).1 4 [(replaceI s c g d).2.1] (replaceI s c g d).2.2 := by
  unfold replaceI
  split
  · exact does_same (.inl (by assumption))
  rename_i hz
  split
  · exact does_same (.inl (by simp))
  split
  · exact does_same (.inl (by simp))
  split
  · exact does_same (.inl (by simp))
  obtain ⟨hd, -, h1, h2, h3⟩ := bring_ok (Decidable.not_not.1 hz)
  exact ⟨kept_app (kept_turn h1 h2 h3) _, fun over hi => by rw [if_neg (fun e => by rcases e.1 with e | e <;> cases e)]; exact inv_replace hi (par_of h) h1 h2 h3⟩
theorem divide_does (h : okR s) : Does s (divideI s c g ps eds d).1 5 (divideI s c g ps eds d).2.1 (divideI s c g ps eds d).2.2 := by
  unfold divideI
  split
  · exact does_same (.inl (by assumption))
  rename_i hz
  split
  · exact does_same (.inl (by simp))
  split
  · exact does_same (.inl (by assumption))
  split
  · exact does_same (.inl (by simp))
  rename_i hn
  split
  · exact does_same (.inl (by simp))
  split
  · exact does_same (.inl (by simp))
  obtain ⟨hd, -, h1, h2, h3⟩ := bring_ok (Decidable.not_not.1 hz)
  simp only [Bool.not_eq_false, Bool.and_eq_true, decide_eq_true_eq] at hn
  exact ⟨kept_adds _ _ _ (kept_turn h1 h2 h3), fun over hi => by
    rw [if_neg (fun e => by rcases e.1 with e | e <;> cases e)]
    exact inv_divide hi (par_of h) h1 h2 h3 (by omega) fun j hj => (news_at _ _ hn.2 j (by omega) (by omega)).2⟩
theorem redeem_does : Does s (redeemI s c g d).1 6 [(redeemI s c g d).2.1] (redeemI s c g d).2.2 := by
  unfold redeemI
  split
  · exact does_same (.inl (by assumption))
  rename_i hz
  split
  · exact does_same (.inl (by simp))
  split
  · exact does_same (.inl (by assumption))
  obtain ⟨hd, -, h1, h2, h3⟩ := bring_ok (Decidable.not_not.1 hz)
  exact ⟨kept_turn h1 h2 h3, fun over hi => by rw [if_pos ⟨.inl rfl, rfl⟩]; exact ⟨_, rfl, (live_want hi h1 h2 h3).2.2.1, inv_over hi h1 h2 h3 (by decide)⟩⟩
theorem forfeit_does : Does s (forfeitI s c d).1 7 [(forfeitI s c d).2.1] (forfeitI s c d).2.2 := by
  unfold forfeitI
  split
  · exact does_same (.inl (by assumption))
  rename_i hz
  split
  · exact does_same (.inl (by simp))
  obtain ⟨hd, -, h1, h2, h3⟩ := bring_ok (Decidable.not_not.1 hz)
  exact ⟨kept_turn h1 h2 h3, fun over hi => by rw [if_pos ⟨.inr rfl, rfl⟩]; exact ⟨_, rfl, (live_want hi h1 h2 h3).2.2.1, inv_over hi h1 h2 h3 (by decide)⟩⟩
end
theorem call_does {s : RS} (h : okR s) (c : Cl) : Does s (callI s c).1 c.1 (callI s c).2.1 (callI s c).2.2.2 := by
  obtain ⟨k, d, c, p, g, ps, eds⟩ := c
  by_cases hk : 1 ≤ k ∧ k ≤ 7
  · rcases kind7' k hk.1 hk.2 with rfl | rfl | rfl | rfl | rfl | rfl | rfl
    · exact issue_does h
    · exact block_does
    · exact free_does
    · exact replace_does h
    · exact divide_does h
    · exact redeem_does
    · exact forfeit_does
  · have e : (callI s (k, d, c, p, g, ps, eds)).1 = s := (call_leaves h (k, d, c, p, g, ps, eds)).2 hk
    rw [e]
    exact does_same (.inr (by simp only; omega))
theorem sorted_app {es : List Ev} {x : Ev} (h : sortedE es) (hx : ∀ e ∈ es, e.2.1 ≤ x.2.1) : sortedE (es ++ [x]) := fun i hi => by
  rw [List.length_append] at hi
  have hi : i + 1 < es.length + 1 := hi
  have e1 : (es ++ [x]).getD i E0 = es.getD i E0 := by rw [List.getD_eq_getElem?_getD, List.getD_eq_getElem?_getD, List.getElem?_append_left (by omega)]
  rw [e1]
  by_cases hl : i + 1 < es.length
  · rw [show (es ++ [x]).getD (i + 1) E0 = es.getD (i + 1) E0 from by rw [List.getD_eq_getElem?_getD, List.getD_eq_getElem?_getD, List.getElem?_append_left hl]]
    exact h i hl
  · have hie : i + 1 = es.length := by omega
    rw [show (es ++ [x]).getD (i + 1) E0 = x from by rw [List.getD_eq_getElem?_getD, List.getElem?_append_right (by omega), hie, Nat.sub_self]; rfl]
    exact hx _ (getC_mem (by omega))
theorem InvO.t {s : RS} {over : List Tx} (h : InvO s over) : InvT s.2.2.1 over := ⟨h.cnt, h.ov⟩
/-- The invariant behind a call. -/
theorem call_inv {s : RS} (h : okR s) (c : Cl) {over : List Tx} (hi : InvO s over) :
    keptT s.2.2.1 (callI s c).1.2.2.1 ∧ (if (c.1 = 6 ∨ c.1 = 7) ∧ (callI s c).2.2.2 = 0 then (∃ q, (callI s c).2.1 = [q] ∧ over.any (eqT q) = false ∧ InvO (callI s c).1 (over ++ [q])) else InvO (callI s c).1 over) := by
  obtain ⟨d1, d2⟩ := call_does h c
  have d2 := d2 over hi.t
  have hdays : sortedE (callI s c).1.2.2.2 ∧ ∀ e ∈ (callI s c).1.2.2.2, e.2.1 ≤ (callI s c).1.2.1 := by
    obtain ⟨g1, g2⟩ := call_leaves h c
    by_cases hk : 1 ≤ c.1 ∧ c.1 ≤ 7
    · have hl := g1 hk
      by_cases he : (callI s c).2.2.2 = 0
      · obtain ⟨n, la, ma, e1, e2, e3⟩ := hl.note he
        rw [e1, e2]
        refine ⟨sorted_app hi.days.1 fun e he => Int.le_trans (hi.days.2 e he) e3, fun e he => ?_⟩
        rcases List.mem_append.1 he with he | he
        · exact Int.le_trans (hi.days.2 e he) e3
        · rw [List.mem_singleton.1 he]; exact Int.le_refl _
      · rw [hl.same he]; exact hi.days
    · rw [g2 hk]; exact hi.days
  refine ⟨d1, ?_⟩
  split
  · rename_i hc
    rw [if_pos hc] at d2
    obtain ⟨q, q1, q2, q3⟩ := d2
    exact ⟨q, q1, q2, ⟨q3.cnt, q3.ov, hdays⟩⟩
  · rename_i hc
    rw [if_neg hc] at d2
    exact ⟨d2.cnt, d2.ov, hdays⟩
end Go.P3
