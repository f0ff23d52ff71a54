/- Audits: the worst loss, and the cheapest sample: plain. No conditions. -/
import Derived.Test.YtfbbpilflbpifaaCheapS
set_option linter.constructorNameAsVariable false
set_option linter.unusedVariables false
set_option linter.unusedSimpArgs false
set_option maxRecDepth 100000
namespace Go.P10
open Go.Lom Go.Proofs Go

/-! Ahead -/
theorem ahead_irr : ∀ l : List Int, aheadI l l = false
  | [] => rfl
  | x :: l => by rw [aheadI, if_pos rfl]; exact ahead_irr l
theorem ahead_asymm : ∀ {a b : List Int}, aheadI a b = true → aheadI b a = false
  | [], [], h => by cases h
  | [], _ :: _, _ => rfl
  | _ :: _, [], h => by cases h
  | x :: a, y :: b, h => by
    rw [aheadI] at h ⊢
    by_cases e : x = y
    · rw [if_pos e] at h; rw [if_pos e.symm]; exact ahead_asymm h
    · rw [if_neg e] at h; rw [if_neg (fun g => e g.symm)]
      have := of_decide_eq_true h
      exact decide_eq_false (by omega)
theorem ahead_app : ∀ (l a b : List Int), aheadI (l ++ a) (l ++ b) = aheadI a b
  | [], _, _ => rfl
  | x :: l, a, b => by rw [List.cons_append, List.cons_append, aheadI, if_pos rfl]; exact ahead_app l a b
/-! choices -/
theorem chs_mono {m n s : Int} (h0 : 0 ≤ m) (h1 : m ≤ n) (h2 : n ≤ 8) (s0 : 0 ≤ s) (s1 : s ≤ 8) : chs m s ≤ chs n s := by
  have h : ∀ a : Fin 9, ∀ b : Fin 9, ∀ c : Fin 9, a.val ≤ b.val → chs a.val c.val ≤ chs b.val c.val := by decide +kernel
  have := h ⟨m.toNat, by omega⟩ ⟨n.toNat, by omega⟩ ⟨s.toNat, by omega⟩ (by show m.toNat ≤ n.toNat; omega)
  rw [show (m.toNat : Int) = m by omega, show (n.toNat : Int) = n by omega, show (s.toNat : Int) = s by omega] at this
  exact this
theorem chs_none {n x : Int} (h0 : 1 ≤ x) (h1 : x ≤ n) (h2 : n ≤ 8) : chs (n - x) n = 0 := by
  have h : ∀ a : Fin 9, ∀ b : Fin 9, 1 ≤ b.val → b.val ≤ a.val → chs ((a.val : Int) - b.val) a.val = 0 := by decide +kernel
  have := h ⟨n.toNat, by omega⟩ ⟨x.toNat, by omega⟩ (by show 1 ≤ x.toNat; omega) (by show x.toNat ≤ n.toNat; omega)
  rw [show (n.toNat : Int) = n by omega, show (x.toNat : Int) = x by omega] at this
  exact this
theorem each_sum : ∀ {st l : List Int}, eachB st l = true → 0 ≤ l.sum ∧ l.sum ≤ st.sum
  | [], [], _ => ⟨Int.le_refl 0, Int.le_refl 0⟩
  | [], _ :: _, h => by simp [eachB] at h
  | _ :: _, [], h => by simp [eachB] at h
  | n :: st, x :: l, h => by
    simp only [eachB, Bool.and_eq_true, decide_eq_true_eq] at h
    have := each_sum h.2
    rw [List.sum_cons, List.sum_cons]; omega
theorem each_cons {n x : Int} {st l : List Int} : eachB (n :: st) (x :: l) = true ↔ (0 ≤ x ∧ x ≤ n) ∧ eachB st l = true := by simp [eachB]
/-- The lists of losses. -/
theorem mem_gW : ∀ {st l : List Int} {left : Int} {l' : List Int}, (∀ n ∈ st, 1 ≤ n ∧ n ≤ 8) → 0 ≤ left → (l' ∈ gW st l left ↔ ∃ t, l' = l ++ t ∧ eachB st t = true ∧ t.sum = left)
  | [], l, left, l', _, h => by
    rw [gW]
    constructor
    · intro hm
      split at hm
      · simp at hm
      · rw [List.mem_singleton] at hm
        exact ⟨[], by rw [hm, List.append_nil], rfl, by rw [List.sum_nil]; omega⟩
    · rintro ⟨t, h1, h2, h3⟩
      have ht : t = [] := by cases t; rfl; simp [eachB] at h2
      subst ht
      rw [List.sum_nil] at h3
      rw [if_neg (by omega), h1, List.append_nil]; exact List.mem_singleton.2 rfl
  | n :: st, l, left, l', hst, h => by
    have hn := hst n List.mem_cons_self
    have hst' : ∀ n ∈ st, 1 ≤ n ∧ n ≤ 8 := fun x hx => hst x (List.mem_cons_of_mem _ hx)
    rw [gW, List.mem_flatMap]
    constructor
    · rintro ⟨k, hk, hm⟩
      have hk := List.mem_range.1 hk
      obtain ⟨t, h1, h2, h3⟩ := (mem_gW hst' (show 0 ≤ left - k by omega)).1 hm
      exact ⟨(k : Int) :: t, by rw [h1, List.append_assoc]; rfl, each_cons.2 ⟨⟨by omega, by omega⟩, h2⟩, by rw [List.sum_cons]; omega⟩
    · rintro ⟨t, h1, h2, h3⟩
      cases t with
      | nil => simp [eachB] at h2
      | cons x t =>
        obtain ⟨⟨h4, h5⟩, h6⟩ := each_cons.1 h2
        rw [List.sum_cons] at h3
        have := each_sum h6
        refine ⟨x.toNat, List.mem_range.2 (by omega), (mem_gW hst' (by omega)).2 ⟨t, ?_, h6, by omega⟩⟩
        rw [h1, show ((x.toNat : Nat) : Int) = x by omega, List.append_assoc]; rfl
/-- A loss can be made smaller: no fewer choices miss it. -/
theorem loss_less : ∀ {st sa lo : List Int} {left : Int}, (∀ n ∈ st, 1 ≤ n ∧ n ≤ 8) → eachB st sa = true → eachB st lo = true → 0 ≤ left → left ≤ lo.sum → ∃ t, eachB st t = true ∧ t.sum = left ∧ prodM st sa lo ≤ prodM st sa t
  | [], [], [], left, _, _, _, h0, h1 => ⟨[], rfl, by rw [List.sum_nil] at h1 ⊢; omega, Int.le_refl _⟩
  | [], _ :: _, _, _, _, h, _, _, _ => by simp [eachB] at h
  | [], [], _ :: _, _, _, _, h, _, _ => by simp [eachB] at h
  | _ :: _, [], _, _, _, h, _, _, _ => by simp [eachB] at h
  | _ :: _, _ :: _, [], _, _, _, h, _, _ => by simp [eachB] at h
  | n :: st, s :: sa, x :: lo, left, hst, hs, hl, h0, h1 => by
    have hn := hst n List.mem_cons_self
    have hst' : ∀ n ∈ st, 1 ≤ n ∧ n ≤ 8 := fun x hx => hst x (List.mem_cons_of_mem _ hx)
    obtain ⟨⟨s0, s1⟩, hs⟩ := each_cons.1 hs
    obtain ⟨⟨x0, x1⟩, hl⟩ := each_cons.1 hl
    rw [List.sum_cons] at h1
    have hlo := each_sum hl
    obtain ⟨t, t1, t2, t3⟩ := loss_less (left := left - min x left) hst' hs hl (by omega) (by omega)
    refine ⟨min x left :: t, each_cons.2 ⟨⟨by omega, by omega⟩, t1⟩, by rw [List.sum_cons]; omega, ?_⟩
    rw [prodM, prodM]
    have c1 := chs_mono (m := n - x) (n := n - min x left) (s := s) (by omega) (by omega) (by omega) s0 (by omega)
    have c0 := (chs_bd (n - x) s).1
    have p0 := (prodM_bd (st := st) sa lo).1
    exact Int.mul_le_mul c1 t3 p0 (by omega)
theorem prodM_stock : ∀ {st t : List Int}, (∀ n ∈ st, 1 ≤ n ∧ n ≤ 8) → eachB st t = true → 1 ≤ t.sum → prodM st st t = 0
  | [], [], _, _, h => by simp at h
  | [], _ :: _, _, h, _ => by simp [eachB] at h
  | _ :: _, [], _, h, _ => by simp [eachB] at h
  | n :: st, x :: t, hst, h, hs => by
    have hn := hst n List.mem_cons_self
    have hst' : ∀ n ∈ st, 1 ≤ n ∧ n ≤ 8 := fun x hx => hst x (List.mem_cons_of_mem _ hx)
    obtain ⟨⟨x0, x1⟩, h⟩ := each_cons.1 h
    rw [List.sum_cons] at hs
    rw [prodM]
    by_cases e : 1 ≤ x
    · rw [chs_none e x1 hn.2, Int.zero_mul]
    · rw [prodM_stock hst' h (by omega), Int.mul_zero]
theorem each_stock : ∀ {st : List Int}, (∀ n ∈ st, 1 ≤ n ∧ n ≤ 8) → eachB st st = true
  | [], _ => rfl
  | n :: st, h => each_cons.2 ⟨⟨by have := h n List.mem_cons_self; omega, Int.le_refl n⟩, each_stock fun x hx => h x (List.mem_cons_of_mem _ hx)⟩
/-! the worst loss -/
theorem runW_best {st sa : List Int} : ∀ (L : List (List Int)) (x : W3), x.2.1 ≤ (runW st sa x L).2.1 ∧ (∀ l ∈ L, prodM st sa l ≤ (runW st sa x L).2.1) ∧
    (runW st sa x L = x ∨ ((runW st sa x L).1 ∈ L ∧ (runW st sa x L).2.1 = prodM st sa (runW st sa x L).1 ∧ (runW st sa x L).2.2 = allM st sa))
  | [], x => ⟨Int.le_refl _, fun l h => by simp at h, .inl rfl⟩
  | l :: L, x => by
    have ih := runW_best (st := st) (sa := sa) L (updW st sa x l)
    have e : runW st sa x (l :: L) = runW st sa (updW st sa x l) L := rfl
    rw [← e] at ih
    obtain ⟨i1, i2, i3⟩ := ih
    by_cases h : prodM st sa l > x.2.1
    · rw [show updW st sa x l = (l, prodM st sa l, allM st sa) by rw [updW, if_pos h]] at i1 i3
      refine ⟨by dsimp only at i1; omega, fun m hm => ?_, ?_⟩
      · rcases List.mem_cons.1 hm with rfl | hm
        · exact i1
        · exact i2 m hm
      · right
        rcases i3 with i3 | ⟨i4, i5, i6⟩
        · rw [i3]; exact ⟨List.mem_cons_self, rfl, rfl⟩
        · exact ⟨List.mem_cons_of_mem _ i4, i5, i6⟩
    · rw [show updW st sa x l = x by rw [updW, if_neg h]] at i1 i3
      refine ⟨i1, fun m hm => ?_, ?_⟩
      · rcases List.mem_cons.1 hm with rfl | hm
        · omega
        · exact i2 m hm
      · rcases i3 with i3 | ⟨i4, i5, i6⟩
        · exact .inl i3
        · exact .inr ⟨List.mem_cons_of_mem _ i4, i5, i6⟩
structure Worst (a : Au) (sa : List Int) (w : W3) : Prop where
  each : eachB a.1 w.1 = true
  sum : w.1.sum = a.2.2.1
  val : w.2.1 = prodM a.1 sa w.1
  all : w.2.2 = allM a.1 sa
  max : ∀ t, eachB a.1 t = true → a.2.2.1 ≤ t.sum → prodM a.1 sa t ≤ w.2.1
theorem worst_spec {a : Au} {sa : List Int} (h : okA a) (hs : eachB a.1 sa = true) : Worst a sa (worstF a sa) := by
  have hst := h.1.2
  have hl := h.2.2.2.1
  have hm := fun {t : List Int} => mem_gW (st := a.1) (l := []) (left := a.2.2.1) (l' := t) hst (by omega)
  obtain ⟨b1, b2, b3⟩ := runW_best (st := a.1) (sa := sa) (gW a.1 [] a.2.2.1) ([], -1, 0)
  have big : ∀ t, eachB a.1 t = true → a.2.2.1 ≤ t.sum → prodM a.1 sa t ≤ (worstF a sa).2.1 := fun t h1 h2 => by
    obtain ⟨t', t1, t2, t3⟩ := loss_less hst hs h1 (by omega) h2
    exact Int.le_trans t3 (b2 t' (hm.2 ⟨t', rfl, t1, t2⟩))
  have h0 := big a.1 (each_stock hst) hl.2
  have p0 := (prodM_bd (st := a.1) sa a.1).1
  rcases b3 with b3 | ⟨b4, b5, b6⟩
  · exfalso
    have : worstF a sa = ([], -1, 0) := b3
    rw [this] at h0
    dsimp only at h0; omega
  · obtain ⟨t, t1, t2, t3⟩ := hm.1 b4
    rw [List.nil_append] at t1
    have t1 : (worstF a sa).1 = t := t1
    exact ⟨by rw [t1]; exact t2, by rw [t1]; exact t3, b5, b6, big⟩
/-! the cheapest sample -/
theorem mem_gA : ∀ {st l l' : List Int}, (∀ n ∈ st, 1 ≤ n ∧ n ≤ 8) → (l' ∈ gA st l ↔ ∃ t, l' = l ++ t ∧ eachB st t = true)
  | [], l, l', _ => by
    rw [gA, List.mem_singleton]
    constructor
    · intro h; exact ⟨[], by rw [h, List.append_nil], rfl⟩
    · rintro ⟨t, h1, h2⟩
      have ht : t = [] := by cases t; rfl; simp [eachB] at h2
      rw [h1, ht, List.append_nil]
  | n :: st, l, l', hst => by
    have hn := hst n List.mem_cons_self
    have hst' : ∀ n ∈ st, 1 ≤ n ∧ n ≤ 8 := fun x hx => hst x (List.mem_cons_of_mem _ hx)
    rw [gA, List.mem_flatMap]
    constructor
    · rintro ⟨k, hk, hm⟩
      have hk := List.mem_range.1 hk
      obtain ⟨t, h1, h2⟩ := (mem_gA hst').1 hm
      exact ⟨(k : Int) :: t, by rw [h1, List.append_assoc]; rfl, each_cons.2 ⟨⟨by omega, by omega⟩, h2⟩⟩
    · rintro ⟨t, h1, h2⟩
      cases t with
      | nil => simp [eachB] at h2
      | cons x t =>
        obtain ⟨⟨h4, h5⟩, h6⟩ := each_cons.1 h2
        refine ⟨x.toNat, List.mem_range.2 (by omega), (mem_gA hst').2 ⟨t, ?_, h6⟩⟩
        rw [h1, show ((x.toNat : Nat) : Int) = x by omega, List.append_assoc]; rfl
theorem gA_sorted : ∀ {st l : List Int}, (∀ n ∈ st, 1 ≤ n ∧ n ≤ 8) → (gA st l).Pairwise fun x y => aheadI x y = true
  | [], l, _ => List.pairwise_singleton ..
  | n :: st, l, hst => by
    have hst' : ∀ n ∈ st, 1 ≤ n ∧ n ≤ 8 := fun x hx => hst x (List.mem_cons_of_mem _ hx)
    rw [gA, List.pairwise_flatMap]
    refine ⟨fun k _ => gA_sorted hst', List.pairwise_lt_range.imp ?_⟩
    intro i j hij x hx y hy
    obtain ⟨t, h1, _⟩ := (mem_gA hst').1 hx
    obtain ⟨u, h2, _⟩ := (mem_gA hst').1 hy
    rw [h1, h2, List.append_assoc, List.append_assoc, ahead_app, List.singleton_append, List.singleton_append, aheadI, if_neg (by omega)]
    exact decide_eq_true (by omega)
structure Best (a : Au) (P : List (List Int)) (x : L2) : Prop where
  no : x.1 = [] → ∀ l ∈ P, findsF a l = false
  yes : x.1 ≠ [] → x.1 ∈ P ∧ findsF a x.1 = true ∧ x.2 = costF x.1 a.2.1 ∧ ∀ l ∈ P, findsF a l = true → x.2 < costF l a.2.1 ∨ x.2 = costF l a.2.1 ∧ (x.1 = l ∨ aheadI x.1 l = true)
theorem best_step {a : Au} {P : List (List Int)} {x : L2} {l : List Int} (h : Best a P x) (hl : l ≠ []) (hs : ∀ m ∈ P, aheadI m l = true) : Best a (P ++ [l]) (updL a x l) := by
  have mem : ∀ {m : List Int}, m ∈ P ++ [l] → m ∈ P ∨ m = l := fun hm => by simpa using hm
  by_cases hf : findsF a l = true
  · by_cases hx : x.1 = []
    · have e : updL a x l = (l, costF l a.2.1) := by rw [updL, hx, hf]; rfl
      rw [e]
      refine ⟨fun h => absurd h hl, fun _ => ⟨by simp, hf, rfl, fun m hm hm2 => ?_⟩⟩
      rcases mem hm with hm | rfl
      · rw [h.no hx m hm] at hm2; cases hm2
      · exact .inr ⟨rfl, .inl rfl⟩
    · obtain ⟨y1, y2, y3, y4⟩ := h.yes hx
      have hxe : x.1.isEmpty = false := by cases h : x.1; exact absurd h hx; rfl
      by_cases hc : costF l a.2.1 < x.2
      · have e : updL a x l = (l, costF l a.2.1) := by rw [updL, hf, decide_eq_true hc]; simp
        rw [e]
        refine ⟨fun h => absurd h hl, fun _ => ⟨by simp, hf, rfl, fun m hm hm2 => ?_⟩⟩
        rcases mem hm with hm | rfl
        · dsimp only
          rcases y4 m hm hm2 with h | h
          · left; omega
          · left; omega
        · exact .inr ⟨rfl, .inl rfl⟩
      · have e : updL a x l = x := by rw [updL, hxe, decide_eq_false hc]; rfl
        rw [e]
        refine ⟨fun h => absurd h hx, fun _ => ⟨by simp [y1], y2, y3, fun m hm hm2 => ?_⟩⟩
        rcases mem hm with hm | rfl
        · exact y4 m hm hm2
        · by_cases he : x.2 = costF m a.2.1
          · exact .inr ⟨he, .inr (hs _ y1)⟩
          · left; omega
  · have hf : findsF a l = false := by simpa using hf
    have e : updL a x l = x := by rw [updL, hf, Bool.and_false]; rfl
    rw [e]
    refine ⟨fun hx m hm => ?_, fun hx => ?_⟩
    · rcases mem hm with hm | rfl
      · exact h.no hx m hm
      · exact hf
    · obtain ⟨y1, y2, y3, y4⟩ := h.yes hx
      refine ⟨by simp [y1], y2, y3, fun m hm hm2 => ?_⟩
      rcases mem hm with hm | rfl
      · exact y4 m hm hm2
      · rw [hf] at hm2; cases hm2
theorem best_run {a : Au} : ∀ (L P : List (List Int)) (x : L2), Best a P x → ((P ++ L).Pairwise fun x y => aheadI x y = true) → (∀ l ∈ L, l ≠ []) → Best a (P ++ L) (runL a x L)
  | [], P, x, h, _, _ => by rw [List.append_nil]; exact h
  | l :: L, P, x, h, hp, hn => by
    have e : P ++ l :: L = P ++ [l] ++ L := by simp
    have hs : ∀ m ∈ P, aheadI m l = true := fun m hm => (List.pairwise_append.1 hp).2.2 m hm l List.mem_cons_self
    have := best_run L (P ++ [l]) (updL a x l) (best_step h (hn l List.mem_cons_self) hs) (by rw [← e]; exact hp) fun m hm => hn m (List.mem_cons_of_mem _ hm)
    rw [e]; exact this
structure Least (a : Au) (s : List Int) (c : Int) : Prop where
  each : eachB a.1 s = true
  finds : findsF a s = true
  cost : c = costF s a.2.1
  best : ∀ l, eachB a.1 l = true → findsF a l = true → c < costF l a.2.1 ∨ c = costF l a.2.1 ∧ (s = l ∨ aheadI s l = true)
theorem finds_stock {a : Au} (h : okA a) : findsF a a.1 = true := by
  have hw := worst_spec h (each_stock h.1.2)
  have hb := worst_bd h.1 a.1
  have h0 := prodM_stock h.1.2 hw.each (by rw [hw.sum]; exact h.2.2.2.1.1)
  unfold findsF
  rw [hw.val, h0]
  have := Int.mul_nonneg hb.2.2.1 (show 0 ≤ 1000 - a.2.2.2 by have := h.2.2.2.2; omega)
  exact decide_eq_true (by omega)
theorem least_spec {a : Au} (h : okA a) : Least a (runL a ([], 0) (gA a.1 [])).1 (runL a ([], 0) (gA a.1 [])).2 := by
  have hst := h.1.2
  have hm := fun {t : List Int} => mem_gA (st := a.1) (l := []) (l' := t) hst
  have hne : ∀ l ∈ gA a.1 [], l ≠ [] := fun l hl => by
    obtain ⟨t, t1, t2⟩ := hm.1 hl
    rw [List.nil_append] at t1
    subst t1
    intro e
    have := (each_at t2).1
    rw [e] at this
    have h1 := h.1.1.1
    simp at this; omega
  have hb := best_run (a := a) (gA a.1 []) [] ([], 0) ⟨fun _ l hl => by simp at hl, fun h => absurd rfl h⟩ (by rw [List.nil_append]; exact gA_sorted hst) hne
  rw [List.nil_append] at hb
  generalize runL a ([], 0) (gA a.1 []) = x at *
  have hx : x.1 ≠ [] := fun e => by
    have := hb.no e a.1 (hm.2 ⟨a.1, rfl, each_stock hst⟩)
    rw [finds_stock h] at this; cases this
  obtain ⟨y1, y2, y3, y4⟩ := hb.yes hx
  obtain ⟨t, t1, t2⟩ := hm.1 y1
  rw [List.nil_append] at t1
  exact ⟨by rw [t1]; exact t2, y2, y3, fun l h1 h2 => y4 l (hm.2 ⟨l, rfl, h1⟩) h2⟩
end Go.P10
