/- Audits: the reference's lists of losses, and its worst one: plain. No conditions. -/
import Derived.Test.YtfbbpilflbpifaaRefaS
set_option linter.constructorNameAsVariable false
set_option linter.unusedVariables false
set_option linter.unusedSimpArgs false
set_option maxRecDepth 100000
namespace Go.P10
open Go.Lom Go.Proofs Go

theorem cR_end {n k : Int} (h0 : 0 ≤ k) (h1 : k ≤ n) (h2 : n ≤ 8) : cR n k k.toNat = chs n k := by
  have h : ∀ a : Fin 9, ∀ b : Fin 9, b.val ≤ a.val → cR a.val b.val b.val = chs a.val b.val := by decide +kernel
  have := h ⟨n.toNat, by omega⟩ ⟨k.toNat, by omega⟩ (by show k.toNat ≤ n.toNat; omega)
  dsimp only at this
  rw [show (n.toNat : Int) = n by omega, show (k.toNat : Int) = k by omega] at this
  exact this
theorem cR_bd {n k : Int} {i : Nat} (h0 : 0 ≤ k) (h1 : k ≤ n) (h2 : n ≤ 8) (h3 : i ≤ k.toNat) : 0 ≤ cR n k i ∧ cR n k i ≤ 1000 := by
  have h : ∀ a : Fin 9, ∀ b : Fin 9, ∀ c : Fin 9, b.val ≤ a.val → c.val ≤ b.val → 0 ≤ cR a.val b.val c.val ∧ cR a.val b.val c.val ≤ 1000 := by decide +kernel
  have := h ⟨n.toNat, by omega⟩ ⟨k.toNat, by omega⟩ ⟨i, by omega⟩ (by show k.toNat ≤ n.toNat; omega) (by show i ≤ k.toNat; omega)
  dsimp only at this
  rw [show (n.toNat : Int) = n by omega, show (k.toNat : Int) = k by omega] at this
  exact this
theorem chs_zero {n k : Int} (h0 : 0 ≤ n) (h1 : n < k) (h2 : k ≤ 8) : chs n k = 0 := by
  have h : ∀ a : Fin 9, ∀ b : Fin 9, a.val < b.val → chs a.val b.val = 0 := by decide +kernel
  have := h ⟨n.toNat, by omega⟩ ⟨k.toNat, by omega⟩ (by show n.toNat < k.toNat; omega)
  dsimp only at this
  rw [show (n.toNat : Int) = n by omega, show (k.toNat : Int) = k by omega] at this
  exact this
theorem prodM_none : ∀ {st sa : List Int} {n : Nat}, st.length = sa.length → n = sa.length → prodM st sa (List.replicate n 0) = allM st sa
  | [], [], n, _, h => by subst h; rfl
  | [], _ :: _, _, h, _ => by simp at h
  | _ :: _, [], _, h, _ => by simp at h
  | x :: st, s :: sa, n, h, hn => by
    subst hn
    rw [List.length_cons, List.replicate_succ, prodM, allM, prodM_none (by simpa using h) rfl, Int.sub_zero]
theorem each_none : ∀ {st : List Int}, (∀ n ∈ st, 1 ≤ n ∧ n ≤ 8) → eachB st (List.replicate st.length 0) = true
  | [], _ => rfl
  | n :: st, h => by
    have := h n List.mem_cons_self
    rw [List.length_cons, List.replicate_succ]
    exact each_cons.2 ⟨⟨Int.le_refl 0, by omega⟩, each_none fun x hx => h x (List.mem_cons_of_mem _ hx)⟩
/-! how many lists -/
theorem flat_len {α : Type} {f : α → List (List Int)} {m : Nat} : ∀ {l : List α}, (∀ x ∈ l, (f x).length ≤ m) → (l.flatMap f).length ≤ l.length * m
  | [], _ => by simp
  | x :: l, h => by
    rw [List.flatMap_cons, List.length_append, List.length_cons, Nat.add_mul, Nat.one_mul]
    have h1 := h x List.mem_cons_self
    have h2 := flat_len (f := f) (m := m) (l := l) fun y hy => h y (List.mem_cons_of_mem _ hy)
    omega
theorem gA_len : ∀ {st l : List Int}, (∀ n ∈ st, 1 ≤ n ∧ n ≤ 8) → (gA st l).length ≤ 9 ^ st.length
  | [], l, _ => by simp [gA]
  | n :: st, l, h => by
    have hn := h n List.mem_cons_self
    rw [gA, List.length_cons, Nat.pow_succ, Nat.mul_comm]
    have := flat_len (f := fun k : Nat => gA st (l ++ [(k : Int)])) (m := 9 ^ st.length) (l := List.range (n.toNat + 1)) fun k _ => gA_len fun x hx => h x (List.mem_cons_of_mem _ hx)
    rw [List.length_range] at this
    exact Nat.le_trans this (Nat.mul_le_mul_right _ (by omega))
theorem pow9 {n : Nat} (h : n ≤ 4) : 9 ^ n ≤ 6561 := by
  have : n = 0 ∨ n = 1 ∨ n = 2 ∨ n = 3 ∨ n = 4 := by omega
  rcases this with h | h | h | h | h <;> rw [h] <;> decide
/-! the losses are those of the other way -/
theorem gW_filter : ∀ {st l : List Int} {left : Int}, (∀ n ∈ st, 1 ≤ n ∧ n ≤ 8) → 0 ≤ left → gW st l left = (gA st l).filter fun m => m.sum == l.sum + left
  | [], l, left, _, h => by
    rw [gW, gA]
    by_cases e : left > 0
    · rw [if_pos e, List.filter_cons_of_neg (by simp; omega)]; rfl
    · rw [if_neg e, List.filter_cons_of_pos (by simp; omega)]; rfl
  | n :: st, l, left, hst, h => by
    have hn := hst n List.mem_cons_self
    have hst' : ∀ n ∈ st, 1 ≤ n ∧ n ≤ 8 := fun x hx => hst x (List.mem_cons_of_mem _ hx)
    rw [gW, gA, List.filter_flatMap]
    have hsum : ∀ k : Nat, (l ++ [(k : Int)]).sum = l.sum + k := fun k => by simp
    have e1 : ∀ k : Nat, (k : Int) ≤ left → (gA st (l ++ [(k : Int)])).filter (fun m => m.sum == l.sum + left) = gW st (l ++ [(k : Int)]) (left - k) := fun k hk => by
      rw [gW_filter hst' (by omega), hsum]
      congr 1; funext m; congr 1; omega
    have e2 : ∀ k : Nat, left < k → (gA st (l ++ [(k : Int)])).filter (fun m => m.sum == l.sum + left) = [] := fun k hk => by
      rw [List.filter_eq_nil_iff]
      intro m hm
      obtain ⟨t, t1, t2⟩ := (mem_gA hst').1 hm
      have := each_sum t2
      have : m.sum = l.sum + k + t.sum := by rw [t1, List.sum_append, hsum]
      simp only [beq_iff_eq]; omega
    obtain ⟨d, hd⟩ : ∃ d, n.toNat + 1 = (min n left).toNat + 1 + d := ⟨n.toNat - (min n left).toNat, by omega⟩
    have e3 : List.range ((min n left).toNat + 1 + d) = List.range ((min n left).toNat + 1) ++ (List.range d).map fun x => (min n left).toNat + 1 + x := List.range_add ..
    rw [hd, e3, List.flatMap_append]
    have h1 : (List.range ((min n left).toNat + 1)).flatMap (fun k : Nat => (gA st (l ++ [(k : Int)])).filter fun m => m.sum == l.sum + left) = (List.range ((min n left).toNat + 1)).flatMap fun k : Nat => gW st (l ++ [(k : Int)]) (left - k) := by
      rw [List.flatMap_def, List.flatMap_def]
      congr 1
      exact List.map_congr_left fun k hk => e1 k (by have := List.mem_range.1 hk; omega)
    have h2 : ((List.range d).map fun x => (min n left).toNat + 1 + x).flatMap (fun k : Nat => (gA st (l ++ [(k : Int)])).filter fun m => m.sum == l.sum + left) = [] := by
      rw [List.flatMap_eq_nil_iff]
      intro k hk
      obtain ⟨x, hx, rfl⟩ := List.mem_map.1 hk
      have hx := List.mem_range.1 hx
      exact e2 _ (by omega)
    rw [h1, h2, List.append_nil]
theorem loss_eq {a : Au} (h : okA a) : lossL a = gW a.1 [] a.2.2.1 := by
  rw [gW_filter h.1.2 (by have := h.2.2.2.1; omega)]
  unfold lossL
  congr 1; funext m; congr 1; simp
theorem loss_ok {a : Au} (h : okA a) : okLs a (lossL a) := by
  have hst := h.1.2
  have hl := h.2.2.2.1
  refine ⟨fun l hl => ?_, ?_, ?_⟩
  · have hl := (List.mem_filter.1 hl).1
    obtain ⟨t, t1, t2⟩ := (mem_gA hst).1 hl
    rw [t1, List.nil_append]; exact t2
  · obtain ⟨t, t1, t2, _⟩ := loss_less (sa := a.1) hst (each_stock hst) (each_stock hst) (show 0 ≤ a.2.2.1 by omega) hl.2
    have : t ∈ lossL a := by
      rw [loss_eq h]; exact (mem_gW hst (by omega)).2 ⟨t, rfl, t1, t2⟩
    exact List.length_pos_of_mem this
  · have h1 : (lossL a).length ≤ (gA a.1 []).length := List.length_filter_le ..
    have h2 := gA_len (l := []) hst
    have h3 := pow9 h.1.1.2
    omega
/-! the worst one is that of the other way -/
theorem runW_upB {st sa : List Int} : ∀ (L : List (List Int)) (b : List Int), runW st sa (b, prodM st sa b, allM st sa) L = (L.foldl (upB st sa) b, prodM st sa (L.foldl (upB st sa) b), allM st sa)
  | [], b => rfl
  | l :: L, b => by
    show runW st sa (updW st sa (b, prodM st sa b, allM st sa) l) L = _
    rw [List.foldl_cons]
    have : updW st sa (b, prodM st sa b, allM st sa) l = (upB st sa b l, prodM st sa (upB st sa b l), allM st sa) := by
      unfold updW upB
      split <;> rfl
    rw [this]
    exact runW_upB L _
theorem worst_eq {a : Au} (h : okA a) (sa : List Int) : worstF a sa = (worstB a.1 sa (lossL a), prodM a.1 sa (worstB a.1 sa (lossL a)), allM a.1 sa) := by
  have hn := (loss_ok h).2.1
  unfold worstF
  rw [← loss_eq h]
  cases hL : lossL a with
  | nil => rw [hL] at hn; simp at hn
  | cons l L =>
    have p0 := (prodM_bd (st := a.1) sa l).1
    show runW a.1 sa (updW a.1 sa ([], -1, 0) l) L = _
    rw [show updW a.1 sa ([], -1, 0) l = (l, prodM a.1 sa l, allM a.1 sa) by rw [updW, if_pos (by dsimp only; omega)], runW_upB]
    have : worstB a.1 sa (l :: L) = L.foldl (upB a.1 sa) l := by
      unfold worstB
      rw [List.foldl_cons]
      have : upB a.1 sa ((l :: L).headD []) l = l := by unfold upB; split <;> rfl
      rw [this]
    rw [this]
theorem finds_eq {a : Au} (h : okA a) (sa : List Int) : findsB a sa (lossL a) = findsF a sa := by
  unfold findsB findsF
  rw [worst_eq h]
/-! the cheapest one -/
theorem least_unique {a : Au} {s t : List Int} {c d : Int} (h1 : Least a s c) (h2 : Least a t d) : s = t ∧ c = d := by
  have e1 := h1.best t h2.each h2.finds
  have e2 := h2.best s h1.each h1.finds
  rw [← h2.cost] at e1
  rw [← h1.cost] at e2
  rcases e1 with e1 | ⟨e1, e3 | e3⟩
  · rcases e2 with e2 | ⟨e2, _⟩ <;> omega
  · exact ⟨e3, e1⟩
  · rcases e2 with e2 | ⟨e2, e4 | e4⟩
    · omega
    · exact ⟨e4.symm, e1⟩
    · rw [ahead_asymm e3] at e4; cases e4
theorem least_of {a : Au} {s : List Int} (h : okA a) (hs : LeI a (gA a.1 []) s) : leastV a = (s, costF s a.2.1, 0) := by
  have h1 := least_spec h
  have h2 : Least a s (costF s a.2.1) := ⟨hs.each, hs.finds, rfl, fun l e f => hs.best l ((mem_gA h.1.2).2 ⟨l, rfl, e⟩) f⟩
  obtain ⟨e1, e2⟩ := least_unique h1 h2
  rw [leastV, if_pos h, e1, e2]
end Go.P10
