/- Rolls: how many tickets of a pledge are live. No conditions. -/
import Derived.Test.YtcpdcpfbgmiaoaaDoorOnceS
import Derived.Test.YtcpdcpfbgmiaoaaDoorRollM
import Derived.Test.YtcpdcpfbgmiaoaaDoorRollK
set_option linter.constructorNameAsVariable false
set_option linter.unusedVariables false
set_option linter.unusedSimpArgs false
namespace Go.P3
open Go.Lom Go.Proofs Go

theorem pcs_len (ts : List Tk) : (pcs ts).length = ts.length := by unfold pcs; rw [List.length_map]
theorem map_set_same {α β : Type} (f : α → β) : ∀ (l : List α) (i : Nat) (x : α), (∀ y, l[i]? = some y → f x = f y) → (l.set i x).map f = l.map f
  | [], _, _, _ => rfl
  | a :: l, 0, x, h => by rw [List.set_cons_zero, List.map_cons, List.map_cons, h a rfl]
  | a :: l, i + 1, x, h => by rw [List.set_cons_succ, List.map_cons, List.map_cons, map_set_same f l i x (fun y hy => h y (by simpa using hy))]
theorem pcs_turn (ts : List Tk) (n st si : Int) : pcs (turnI ts n st si) = pcs ts := by
  unfold pcs turnI
  refine map_set_same _ _ _ _ fun y hy => ?_
  have : tkI ts n = y := by unfold tkI; rw [List.getD_eq_getElem?_getD, hy]; rfl
  rw [this]
theorem any_pcs (ts : List Tk) (p : Tx) : ts.any (named p) = (pcs ts).any fun t => decide (t.1 = p) := by
  unfold pcs; rw [List.any_map]; rfl
theorem any_turn (ts : List Tk) (n st si : Int) (p : Tx) : (turnI ts n st si).any (named p) = ts.any (named p) := by rw [any_pcs, any_pcs, pcs_turn]
theorem cnt_set {α : Type} (f : α → Bool) : ∀ (l : List α) (i : Nat) (x y : α), l[i]? = some y → (l.set i x).countP f + (if f y = true then 1 else 0) = l.countP f + (if f x = true then 1 else 0)
  | [], _, _, _, h => by simp at h
  | a :: l, 0, x, y, h => by
    have h : a = y := by simpa using h
    subst h
    rw [List.set_cons_zero, List.countP_cons, List.countP_cons]; omega
  | a :: l, i + 1, x, y, h => by
    have ih := cnt_set f l i x y (by simpa using h)
    rw [List.set_cons_succ, List.countP_cons, List.countP_cons]; omega
abbrev lv (p : Tx) (t : Tk) : Bool := named p t && liveB t
theorem cnt_turn {ts : List Tk} {n st si : Int} (h0 : 1 ≤ n) (h1 : n ≤ ts.length) (p : Tx) : manyI (turnI ts n st si) p + (if lv p (tkI ts n) = true then 1 else 0) = manyI ts p + (if (tkI ts n).2.1 = p ∧ (st = 1 ∨ st = 2) then 1 else 0) := by
  have h := cnt_set (lv p) ts (n - 1).toNat ((tkI ts n).1, (tkI ts n).2.1, st, (tkI ts n).2.2.2.1, si, (tkI ts n).2.2.2.2.2) (tkI ts n) (tkI_mem h0 h1)
  have e : (lv p ((tkI ts n).1, (tkI ts n).2.1, st, (tkI ts n).2.2.2.1, si, (tkI ts n).2.2.2.2.2) = true) = ((tkI ts n).2.1 = p ∧ (st = 1 ∨ st = 2)) := by
    show ((named p _ && liveB _) = true) = _
    rw [Bool.and_eq_true]; unfold named liveB; rw [decide_eq_true_eq, decide_eq_true_eq]
  simp only [e] at h
  exact h
theorem cnt_app (ts : List Tk) (t : Tk) (p : Tx) : manyI (ts ++ [t]) p = manyI ts p + (if lv p t = true then 1 else 0) := by
  unfold manyI; rw [List.countP_append, List.countP_cons, List.countP_nil]; simp
theorem any_app (ts : List Tk) (t : Tk) (p : Tx) : (ts ++ [t]).any (named p) = (ts.any (named p) || named p t) := by simp [List.any_append]
theorem cnt_none {ts : List Tk} {p : Tx} (h : ts.any (named p) = false) : manyI ts p = 0 := by
  unfold manyI
  rw [List.countP_eq_zero]
  intro t ht e
  rw [List.any_eq_false] at h
  rw [Bool.and_eq_true] at e
  exact h t ht e.1
theorem pcs_app (ts : List Tk) (t : Tk) : pcs (ts ++ [t]) = pcs ts ++ [(t.2.1, t.2.2.2.2.2)] := by unfold pcs; rw [List.map_append]; rfl
/-- Parents are there. -/
def parB (l : List Pc) : Prop := ∀ t ∈ l, t.2 ≤ l.length
theorem nameAt_app {l : List Pc} {x : Pc} {n : Int} (h0 : 0 < n) (h1 : n ≤ l.length) : nameAt' (l ++ [x]) n = nameAt' l n := by
  unfold nameAt'
  rw [List.getD_eq_getElem?_getD, List.getD_eq_getElem?_getD, List.getElem?_append_left (by omega)]
theorem div_app {l : List Pc} (hp : parB l) {q : Tx} {m : Int} (hm : m ≤ l.length) (p : Tx) : divB (l ++ [(q, m)]) p = (divB l p || (decide (0 < m) && decide (nameAt' l m = p) && !decide (q = p))) := by
  unfold divB
  rw [List.any_append, List.any_cons, List.any_nil, Bool.or_false]
  congr 1
  · rw [Bool.eq_iff_iff, List.any_eq_true, List.any_eq_true]
    constructor
    · rintro ⟨t, ht, h⟩
      simp only [Bool.and_eq_true, decide_eq_true_eq] at h
      refine ⟨t, ht, ?_⟩
      simp only [Bool.and_eq_true, decide_eq_true_eq]
      have := hp t ht
      rw [nameAt_app h.1.1.1 this] at h
      exact ⟨⟨⟨h.1.1.1, this⟩, h.1.2⟩, h.2⟩
    · rintro ⟨t, ht, h⟩
      simp only [Bool.and_eq_true, decide_eq_true_eq] at h
      refine ⟨t, ht, ?_⟩
      simp only [Bool.and_eq_true, decide_eq_true_eq]
      rw [nameAt_app h.1.1.1 h.1.1.2, List.length_append]
      exact ⟨⟨⟨h.1.1.1, by simp; omega⟩, h.1.2⟩, h.2⟩
  · by_cases h0 : 0 < m
    · rw [nameAt_app h0 hm, decide_eq_true h0, List.length_append, decide_eq_true (show m ≤ ((l.length + [(q, m)].length : Nat) : Int) by simp; omega)]; simp
    · rw [decide_eq_false h0]; simp
theorem par_of {s : RS} (h : okR s) : parB (pcs s.2.2.1) := fun t ht => by
  unfold pcs at ht
  obtain ⟨x, hx, rfl⟩ := List.mem_map.1 ht
  obtain ⟨i, hi⟩ := List.mem_iff_getElem?.1 hx
  have h1 := (h.tk i x hi).comes
  have h2 : i < s.2.2.1.length := (List.getElem?_eq_some_iff.1 hi).1
  rw [pcs_len]; simp only; omega
theorem name_pcs {ts : List Tk} {n : Int} (h0 : 1 ≤ n) (h1 : n ≤ ts.length) : nameAt' (pcs ts) n = (tkI ts n).2.1 := by
  unfold nameAt' pcs tkI
  have h : (n - 1).toNat < ts.length := by omega
  rw [List.getD_eq_getElem?_getD, List.getD_eq_getElem?_getD, List.getElem?_map, List.getElem?_eq_getElem h]; rfl
theorem div_none {l : List Pc} {p : Tx} (h : (l.any fun t => decide (t.1 = p)) = false) : divB l p = false := by
  unfold divB
  rw [List.any_eq_false]
  intro t ht e
  simp only [Bool.and_eq_true, decide_eq_true_eq] at e
  rw [List.any_eq_false] at h
  have hm : (t.2 - 1).toNat < l.length := by omega
  have := h (l[(t.2 - 1).toNat]) (List.getElem_mem _)
  apply this
  rw [decide_eq_true_eq, ← e.1.2]
  unfold nameAt'
  rw [List.getD_eq_getElem?_getD, List.getElem?_eq_getElem hm]; rfl
/-! what holds of tickets and pledges that are over -/
structure InvT (ts : List Tk) (over : List Tx) : Prop where
  cnt : ∀ p, ts.any (named p) = true → manyI ts p = wantI ts over p
  ov : ∀ p ∈ over, ts.any (named p) = true
theorem want_turn (ts : List Tk) (n st si : Int) (over : List Tx) (p : Tx) : wantI (turnI ts n st si) over p = wantI ts over p := by unfold wantI; rw [pcs_turn]
/-- A ticket is blocked or freed. -/
theorem inv_flip {ts : List Tk} {over : List Tx} (h : InvT ts over) {n st si : Int} (h0 : 1 ≤ n) (h1 : n ≤ ts.length) (hl : liveB (tkI ts n) = true) (hst : st = 1 ∨ st = 2) : InvT (turnI ts n st si) over := by
  refine ⟨fun p hp => ?_, fun p hp => by rw [any_turn]; exact h.ov p hp⟩
  rw [any_turn] at hp
  rw [want_turn, ← h.cnt p hp]
  have hc := cnt_turn (st := st) (si := si) h0 h1 p
  by_cases hn : (tkI ts n).2.1 = p
  · rw [if_pos (show lv p (tkI ts n) = true by show (named p _ && liveB _) = true; rw [hl, show named p (tkI ts n) = true from decide_eq_true hn]; rfl), if_pos ⟨hn, hst⟩] at hc
    omega
  · rw [if_neg (show ¬ lv p (tkI ts n) = true by show ¬ (named p _ && liveB _) = true; rw [show named p (tkI ts n) = false from decide_eq_false hn]; simp), if_neg (fun e => hn e.1)] at hc
    omega
/-- A live ticket's pledge is not over, and was not divided. -/
theorem live_want {ts : List Tk} {over : List Tx} (h : InvT ts over) {n : Int} (h0 : 1 ≤ n) (h1 : n ≤ ts.length) (hl : liveB (tkI ts n) = true) :
    ts.any (named (tkI ts n).2.1) = true ∧ divB (pcs ts) (tkI ts n).2.1 = false ∧ over.any (eqT (tkI ts n).2.1) = false ∧ manyI ts (tkI ts n).2.1 = 1 := by
  have hm : tkI ts n ∈ ts := List.mem_of_getElem? (tkI_mem h0 h1)
  have ha : ts.any (named (tkI ts n).2.1) = true := List.any_eq_true.2 ⟨_, hm, decide_eq_true rfl⟩
  have hc := h.cnt _ ha
  have hpos : 0 < manyI ts (tkI ts n).2.1 := by
    unfold manyI
    rw [List.countP_pos_iff]
    exact ⟨_, hm, by rw [hl, show named (tkI ts n).2.1 (tkI ts n) = true from decide_eq_true rfl]; rfl⟩
  unfold wantI at hc
  split at hc
  · omega
  · rename_i hd
    simp only [Bool.not_eq_true, Bool.or_eq_false_iff] at hd
    exact ⟨ha, hd.1, hd.2, hc⟩
/-- A live ticket is spent. -/
theorem cnt_spend {ts : List Tk} {n st si : Int} (h0 : 1 ≤ n) (h1 : n ≤ ts.length) (hl : liveB (tkI ts n) = true) (hst : ¬ (st = 1 ∨ st = 2)) (p : Tx) : manyI (turnI ts n st si) p + (if (tkI ts n).2.1 = p then 1 else 0) = manyI ts p := by
  have hc := cnt_turn (st := st) (si := si) h0 h1 p
  by_cases hn : (tkI ts n).2.1 = p
  · rw [if_pos (show lv p (tkI ts n) = true by show (named p _ && liveB _) = true; rw [hl, show named p (tkI ts n) = true from decide_eq_true hn]; rfl), if_neg (fun e => hst e.2)] at hc
    rw [if_pos hn]; exact hc
  · rw [if_neg (show ¬ lv p (tkI ts n) = true by show ¬ (named p _ && liveB _) = true; rw [show named p (tkI ts n) = false from decide_eq_false hn]; simp), if_neg (fun e => hst e.2)] at hc
    rw [if_neg hn]; exact hc
theorem inv_over {ts : List Tk} {over : List Tx} (h : InvT ts over) {n st si : Int} (h0 : 1 ≤ n) (h1 : n ≤ ts.length) (hl : liveB (tkI ts n) = true) (hst : ¬ (st = 1 ∨ st = 2)) : InvT (turnI ts n st si) (over ++ [(tkI ts n).2.1]) := by
  obtain ⟨a1, a2, a3, a4⟩ := live_want h h0 h1 hl
  refine ⟨fun p hp => ?_, fun p hp => ?_⟩
  · rw [any_turn] at hp
    have hc := cnt_spend (si := si) h0 h1 hl hst p
    have hw := h.cnt p hp
    unfold wantI at hw ⊢
    rw [pcs_turn, List.any_append, List.any_cons, List.any_nil, Bool.or_false]
    by_cases hn : (tkI ts n).2.1 = p
    · rw [if_pos hn] at hc
      rw [show eqT p (tkI ts n).2.1 = true from decide_eq_true hn.symm, Bool.or_true, Bool.or_true, if_pos rfl]
      rw [hn] at a4; omega
    · rw [if_neg hn] at hc
      rw [show eqT p (tkI ts n).2.1 = false from decide_eq_false (fun e => hn e.symm), Bool.or_false, ← hw]; omega
  · rw [any_turn]
    rcases List.mem_append.1 hp with hp | hp
    · exact h.ov p hp
    · rw [List.mem_singleton.1 hp]; exact a1
theorem inv_new {ts : List Tk} {over : List Tx} (h : InvT ts over) (hp : parB (pcs ts)) {no : Int} {q : Tx} {g : List Int} (hq : ts.any (named q) = false) : InvT (ts ++ [(no, q, 1, g, 0, 0)]) over := by
  have hl : ∀ p, lv p ((no, q, 1, g, 0, 0) : Tk) = decide (q = p) := fun p => by show (decide (q = p) && liveB _) = _; rw [show liveB ((no, q, 1, g, 0, 0) : Tk) = true from rfl, Bool.and_true]
  refine ⟨fun p ha => ?_, fun p hpo => by rw [any_app, h.ov p hpo]; rfl⟩
  rw [cnt_app, hl]
  unfold wantI
  rw [pcs_app, div_app hp (by simp only; exact Int.natCast_nonneg _) p, show decide ((0 : Int) < 0) = false from rfl, Bool.false_and, Bool.false_and, Bool.or_false]
  rw [any_app] at ha
  by_cases hqp : q = p
  · subst hqp
    rw [decide_eq_true rfl, if_pos rfl, cnt_none hq]
    rw [any_pcs] at hq
    rw [div_none hq, Bool.false_or]
    cases ho : over.any (eqT q) with
    | false => rfl
    | true =>
      obtain ⟨x, hx, he⟩ := List.any_eq_true.1 ho
      have he : q = x := of_decide_eq_true he
      have := h.ov x hx
      rw [← he, any_pcs, hq] at this; cases this
  · have hn : named p ((no, q, 1, g, 0, 0) : Tk) = false := decide_eq_false hqp
    rw [hn, Bool.or_false] at ha
    have hc := h.cnt p ha
    unfold wantI at hc
    rw [decide_eq_false hqp, if_neg (by decide), hc]; rfl
theorem inv_replace {ts : List Tk} {over : List Tx} (h : InvT ts over) (hp : parB (pcs ts)) {n no : Int} {g : List Int} (h0 : 1 ≤ n) (h1 : n ≤ ts.length) (hl : liveB (tkI ts n) = true) : InvT (turnI ts n 3 0 ++ [(no, (tkI ts n).2.1, 1, g, 0, n)]) over := by
  obtain ⟨a1, a2, a3, a4⟩ := live_want h h0 h1 hl
  have hany : ∀ p, (turnI ts n 3 0 ++ [((no, (tkI ts n).2.1, 1, g, 0, n) : Tk)]).any (named p) = ts.any (named p) := fun p => by
    rw [any_app, any_turn]
    by_cases hn : (tkI ts n).2.1 = p
    · subst hn; rw [a1]; rfl
    · rw [show named p ((no, (tkI ts n).2.1, 1, g, 0, n) : Tk) = false from decide_eq_false hn, Bool.or_false]
  refine ⟨fun p ha => ?_, fun p hpo => by rw [hany]; exact h.ov p hpo⟩
  rw [hany] at ha
  have hc := cnt_spend (st := 3) (si := 0) h0 h1 hl (by decide) p
  have hw := h.cnt p ha
  rw [cnt_app, show lv p ((no, (tkI ts n).2.1, 1, g, 0, n) : Tk) = decide ((tkI ts n).2.1 = p) from by show (decide _ && liveB _) = _; rw [show liveB ((no, (tkI ts n).2.1, 1, g, 0, n) : Tk) = true from rfl, Bool.and_true]]
  unfold wantI at hw ⊢
  rw [pcs_app, pcs_turn, div_app hp (by rw [pcs_len]; exact h1) p, name_pcs h0 h1]
  have e : (decide (0 < n) && decide ((tkI ts n).2.1 = p) && !decide ((tkI ts n).2.1 = p)) = false := by cases decide ((tkI ts n).2.1 = p) <;> simp
  rw [show ((no, (tkI ts n).2.1, 1, g, 0, n) : Tk).2.1 = (tkI ts n).2.1 from rfl, show ((no, (tkI ts n).2.1, 1, g, 0, n) : Tk).2.2.2.2.2 = n from rfl, e, Bool.or_false, ← hw]
  by_cases hn : (tkI ts n).2.1 = p
  · rw [if_pos hn] at hc; rw [decide_eq_true hn, if_pos rfl]; omega
  · rw [if_neg hn] at hc; rw [decide_eq_false hn, if_neg (by decide)]; omega
/-- While a ticket is divided: its own pledge has none. -/
structure Inv2 (q : Tx) (ts : List Tk) (over : List Tx) : Prop where
  cnt : ∀ p, ts.any (named p) = true → manyI ts p = if p = q then 0 else wantI ts over p
  ov : ∀ p ∈ over, ts.any (named p) = true
theorem inv2_app {q : Tx} {ts : List Tk} {over : List Tx} (h : Inv2 q ts over) (hp : parB (pcs ts)) {n no : Int} {x : Tx} {g : List Int} (h0 : 1 ≤ n) (h1 : n ≤ ts.length) (hq : nameAt' (pcs ts) n = q) (hqa : ts.any (named q) = true) (hx : ts.any (named x) = false) :
    Inv2 q (ts ++ [(no, x, 1, g, 0, n)]) over ∧ divB (pcs (ts ++ [((no, x, 1, g, 0, n) : Tk)])) q = true := by
  have hxq : ¬ x = q := fun e => by rw [e, hqa] at hx; cases hx
  have hdiv : ∀ p, divB (pcs (ts ++ [((no, x, 1, g, 0, n) : Tk)])) p = (divB (pcs ts) p || (decide (q = p) && !decide (x = p))) := fun p => by
    rw [pcs_app, show ((no, x, 1, g, 0, n) : Tk).2.1 = x from rfl, show ((no, x, 1, g, 0, n) : Tk).2.2.2.2.2 = n from rfl, div_app hp (by rw [pcs_len]; exact h1) p, hq, decide_eq_true (show 0 < n by omega), Bool.true_and]
  refine ⟨⟨fun p ha => ?_, fun p hpo => by rw [any_app, h.ov p hpo]; rfl⟩, by rw [hdiv, decide_eq_true rfl, decide_eq_false hxq]; simp⟩
  rw [cnt_app, show lv p ((no, x, 1, g, 0, n) : Tk) = decide (x = p) from by show (decide _ && liveB _) = _; rw [show liveB ((no, x, 1, g, 0, n) : Tk) = true from rfl, Bool.and_true]]
  unfold wantI
  rw [hdiv]
  rw [any_app, show named p ((no, x, 1, g, 0, n) : Tk) = decide (x = p) from rfl] at ha
  by_cases hxp : x = p
  · subst hxp
    rw [decide_eq_true rfl, if_pos rfl, cnt_none hx, if_neg hxq]
    rw [any_pcs] at hx
    rw [div_none hx, Bool.not_true, Bool.and_false, Bool.false_or, Bool.false_or]
    cases ho : over.any (eqT x) with
    | false => rfl
    | true =>
      obtain ⟨y, hy, he⟩ := List.any_eq_true.1 ho
      have he : x = y := of_decide_eq_true he
      have := h.ov y hy
      rw [← he, any_pcs, hx] at this; cases this
  · rw [decide_eq_false hxp, Bool.or_false] at ha
    have hc := h.cnt p ha
    rw [decide_eq_false hxp, if_neg (by decide), Bool.not_false, Bool.and_true, hc]
    by_cases hpq : p = q
    · rw [if_pos hpq, if_pos hpq]
    · rw [if_neg hpq, if_neg hpq, decide_eq_false (fun e => hpq e.symm), Bool.or_false]; rfl
theorem par_app {ts : List Tk} (hp : parB (pcs ts)) {t : Tk} (ht : t.2.2.2.2.2 ≤ ts.length) : parB (pcs (ts ++ [t])) := fun x hx => by
  rw [pcs_app] at hx ⊢
  rw [List.length_append]
  rcases List.mem_append.1 hx with hx | hx
  · have := hp x hx; simp; omega
  · rw [List.mem_singleton.1 hx, pcs_len]; simp; omega
theorem inv2_adds {q : Tx} {ts0 : List Tk} {over : List Tx} {ps : List Tx} {es : List (List Int)} {n : Int} (h0 : 1 ≤ n) : ∀ (k i : Nat) (ts : List Tk), i + k ≤ ps.length → Inv2 q ts over → parB (pcs ts) → n ≤ ts.length → nameAt' (pcs ts) n = q → ts.any (named q) = true →
    (∀ p, ts.any (named p) = (ts0.any (named p) || (ps.take i).any (eqT p))) → (∀ j, i ≤ j → j < i + k → ts0.any (named (ps.getD j [])) = false ∧ (ps.take j).any (eqT (ps.getD j [])) = false) →
    Inv2 q (addsI ts ps es n k i) over ∧ (divB (pcs ts) q = true ∨ 0 < k → divB (pcs (addsI ts ps es n k i)) q = true)
  | 0, i, ts, _, h, _, _, _, _, _, _ => ⟨h, fun e => e.elim id (fun e => absurd e (by decide))⟩
  | k + 1, i, ts, hk, h, hp, h1, hq, hqa, hnames, hnew => by
    unfold addsI
    have hx := hnew i (Nat.le_refl _) (by omega)
    have hxa : ts.any (named (ps.getD i [])) = false := by rw [hnames, hx.1, hx.2]; rfl
    obtain ⟨g1, g2⟩ := inv2_app (no := (ts.length : Int) + 1) (g := es.getD i []) h hp h0 h1 hq hqa hxa
    have ih := inv2_adds (ts0 := ts0) (over := over) (es := es) h0 k (i + 1) (ts ++ [((ts.length : Int) + 1, ps.getD i [], 1, es.getD i [], 0, n)]) (by omega) g1 (par_app hp h1) (by rw [List.length_append]; simp; omega)
      (by rw [pcs_app, nameAt_app (by omega) (by rw [pcs_len]; exact h1)]; exact hq) (by rw [any_app, hqa]; rfl)
      (fun p => by
        rw [any_app, hnames, List.take_add_one, List.any_append, Bool.or_assoc]
        congr 2
        have hi : i < ps.length := by omega
        rw [List.getD_eq_getElem?_getD, List.getElem?_eq_getElem hi]
        show decide (ps[i] = p) = ([ps[i]] : List Tx).any (eqT p)
        simp [eqT, eq_comm])
      (fun j h1 h2 => hnew j (by omega) (by omega))
    exact ⟨ih.1, fun _ => ih.2 (.inl g2)⟩
theorem inv_divide {ts : List Tk} {over : List Tx} (h : InvT ts over) (hp : parB (pcs ts)) {n : Int} {ps : List Tx} {es : List (List Int)} (h0 : 1 ≤ n) (h1 : n ≤ ts.length) (hl : liveB (tkI ts n) = true) (hk : 0 < ps.length)
    (hnew : ∀ j, j < ps.length → ts.any (named (ps.getD j [])) = false ∧ (ps.take j).any (eqT (ps.getD j [])) = false) : InvT (addsI (turnI ts n 3 0) ps es n ps.length 0) over := by
  obtain ⟨a1, a2, a3, a4⟩ := live_want h h0 h1 hl
  have h2 : Inv2 (tkI ts n).2.1 (turnI ts n 3 0) over := ⟨fun p ha => by
    rw [any_turn] at ha
    have hc := cnt_spend (st := 3) (si := 0) h0 h1 hl (by decide) p
    have hw := h.cnt p ha
    rw [want_turn, ← hw]
    by_cases hn : (tkI ts n).2.1 = p
    · rw [if_pos hn] at hc; rw [if_pos hn.symm]; rw [hn] at a4; omega
    · rw [if_neg hn] at hc; rw [if_neg (fun e => hn e.symm)]; omega, fun p hpo => by rw [any_turn]; exact h.ov p hpo⟩
  obtain ⟨b1, b2⟩ := inv2_adds (ts0 := ts) (es := es) h0 ps.length 0 (turnI ts n 3 0) (by omega) h2 (by rw [pcs_turn]; exact hp) (by rw [turnI_len]; exact h1) (by rw [pcs_turn]; exact name_pcs h0 h1) (by rw [any_turn]; exact a1)
    (fun p => by rw [any_turn]; simp) (fun j _ hj => hnew j (by omega))
  refine ⟨fun p ha => ?_, b1.ov⟩
  rw [b1.cnt p ha]
  by_cases hn : p = (tkI ts n).2.1
  · rw [if_pos hn]; unfold wantI; rw [hn, b2 (.inr hk), Bool.true_or, if_pos rfl]
  · rw [if_neg hn]
end Go.P3
