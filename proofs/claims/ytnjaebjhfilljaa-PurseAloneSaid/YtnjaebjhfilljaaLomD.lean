/- More operations that leave memory alone: comparisons, arithmetic, slices, composites; they are sound. -/
import Derived.Test.YtnjaebjhfilljaaLomC
import Derived.Laws.StructEq
namespace Go.Lom
open Go.RowKit

section
variable {P : Program} {base : Nat → Prop} {w0 : Start} {Z : ZMap} {φ : PMap} {H : Heap} {nx : Nat} {w : World}

theorem toList_mk (s : List UInt8) : (⟨s.toArray⟩ : ByteArray).toList = s := by
  rw [ByteArray.toList_eq]
theorem size_mk (s : List UInt8) : (⟨s.toArray⟩ : ByteArray).size = s.length := by
  show s.toArray.size = _; simp

theorem run_eqFs (d : Nat) (IH : ∀ (t : TypeId) (x y : AV) (u v : Value) (b : Bool), Rep Z φ x u → Rep Z φ y v → aeqIn P d t x y = some b → (Op.equalIn d t u v).run P w = .ok b w)
    {xs ys : List AV} {us vs : Array Value} (hx : Reps Z φ xs us) (hy : Reps Z φ ys vs) : ∀ (fs : List Field) (b : Bool), eqFs P (aeqIn P d) xs ys fs = some b → (Op.eqFields d us vs fs).run P w = .ok b w
  | [], b, h => by simp [eqFs] at h; subst h; rfl
  | f :: fs, b, h => by
    simp only [eqFs] at h
    by_cases hn : f.name = "_"
    · rw [if_pos hn] at h
      have := run_eqFs d IH hx hy fs b h
      simpa [Op.eqFields, hn] using this
    · rw [if_neg hn] at h
      simp only [Option.bind_eq_bind, Option.bind_eq_some_iff] at h
      obtain ⟨a, ha, c, hc, r, hr, h⟩ := h
      obtain ⟨u, hu, ru⟩ := run_part (w := w) ha hx
      obtain ⟨v, hv, rv⟩ := run_part (w := w) hc hy
      have he := IH _ _ _ _ _ _ ru rv hr
      simp only [Op.eqFields, hn, ne_eq, not_false_eq_true, if_true]
      refine run_bind' hu (run_bind' hv (run_bind' he ?_))
      cases r
      · simp at h; subst h; simp [go_sem]
      · simp only [if_true] at h
        simpa using run_eqFs d IH hx hy fs b h

theorem run_eqIs (d : Nat) (IH : ∀ (t : TypeId) (x y : AV) (u v : Value) (b : Bool), Rep Z φ x u → Rep Z φ y v → aeqIn P d t x y = some b → (Op.equalIn d t u v).run P w = .ok b w)
    {xs ys : List AV} {us vs : Array Value} (hx : Reps Z φ xs us) (hy : Reps Z φ ys vs) (e : TypeId) (n : Nat) : ∀ (is : List Nat) (b : Bool), eqIs P (aeqIn P d) e n xs ys is = some b → (Op.eqItems d e n us vs is).run P w = .ok b w
  | [], b, h => by simp [eqIs] at h; subst h; rfl
  | i :: is, b, h => by
    simp only [eqIs] at h
    simp only [Option.bind_eq_bind, Option.bind_eq_some_iff] at h
    obtain ⟨a, ha, c, hc, r, hr, h⟩ := h
    obtain ⟨u, hu, ru⟩ := run_part (w := w) ha hx
    obtain ⟨v, hv, rv⟩ := run_part (w := w) hc hy
    have he := IH _ _ _ _ _ _ ru rv hr
    simp only [Op.eqItems]
    refine run_bind' hu (run_bind' hv (run_bind' he ?_))
    cases r
    · simp at h; subst h; simp [go_sem]
    · simp only [if_true] at h
      simpa using run_eqIs d IH hx hy e n is b h

theorem szOf_info {t n : Nat} (h : szOf P t = some n) : ∃ i, P.info? t = some i ∧ P.cellsOf t = n := by
  unfold szOf at h
  cases hi : P.info? t with
  | none => simp [hi] at h
  | some i => exact ⟨i, rfl, by simpa [Program.cellsOf, hi] using h⟩

set_option maxHeartbeats 2000000 in
theorem sound_eqIn : ∀ (d : Nat) (t : TypeId) (x y : AV) (u v : Value) (b : Bool), Rep Z φ x u → Rep Z φ y v → aeqIn P d t x y = some b → (Op.equalIn d t u v).run P w = .ok b w
  | 0, _, _, _, _, _, _, _, _, h => by simp [aeqIn] at h
  | d + 1, t, x, y, u, v, b, hx, hy, h => by
    have IH := fun t x y u v b => sound_eqIn d t x y u v b
    unfold aeqIn at h
    split at h
    · rename_i hu; cases hx; cases hy; injection h with h; subst h; simp [Op.equalIn, run_underlying' hu, Sem.run_bind, go_sem]
    · rename_i hu; cases hx; cases hy
      split at h
      · rename_i hk; subst hk; injection h with h; subst h; simp [Op.equalIn, run_underlying' hu, Sem.run_bind, go_sem]
      · cases h
    · rename_i hu; cases hx; cases hy; injection h with h; subst h; simp [Op.equalIn, run_underlying' hu, Sem.run_bind, go_sem, beq_toListBytes]
    all_goals try (rename_i hu; cases hx; cases hy; injection h with h; subst h; simp [Op.equalIn, run_underlying' hu, Sem.run_bind, go_sem]; done)
    · rename_i fs xs ys hu
      cases hx with
      | agg hl1 h1 =>
      cases hy with
      | agg hl2 h2 =>
      split at h
      · cases h
      · rename_i hst
        have hst' : P.stoodInHeld t = false := by simpa using hst
        rw [run_equalIn_struct w d t _ _ (by unfold Program.fieldsOf; rw [hu]) hst']
        have e1 : P.fieldsOf t = fs := by unfold Program.fieldsOf; rw [hu]
        rw [e1]
        exact run_eqFs d IH ⟨hl1, h1⟩ ⟨hl2, h2⟩ fs.toList b h
    · rename_i len e xs ys hu
      cases hx with
      | agg hl1 h1 =>
      cases hy with
      | agg hl2 h2 =>
      simp only [Option.bind_eq_some_iff] at h
      obtain ⟨n, hn, h⟩ := h
      obtain ⟨i, hi, hc⟩ := szOf_info hn
      rw [run_equalIn_array w d _ _ hu hi, hc]
      exact run_eqIs d IH ⟨hl1, h1⟩ ⟨hl2, h2⟩ e n _ b h
    · cases h

end
end Go.Lom
