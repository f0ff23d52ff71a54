/- Arithmetic, conversions, slices, composites: sound. -/
import Derived.Test.YtnjaebjhfilljaaLomD
set_option linter.unusedSimpArgs false
namespace Go.Lom
open Go.RowKit

section
variable {P : Program} {base : Nat → Prop} {w0 : Start} {Z : ZMap} {φ : PMap} {H : Heap} {nx : Nat} {w : World}

theorem run_binI {op : BinOp} {k : IntKind} {a b : Int} {r : AV} (t : TypeId) (h : binI op k a b = some r) (h1 : op ≠ .shl) (h2 : op ≠ .shr) :
    ∃ v, (Go.binOp op t (.int k a) (.int k b)).run P w = .ok v w ∧ Rep Z φ r v := by
  cases op <;> simp [binI, bitI, cmpI] at h h1 h2 <;> (first | subst h | (obtain ⟨h0, h⟩ := h; subst h))
  all_goals (refine ⟨_, ?_, by constructor⟩; simp [Go.binOp, Op.intArith, Op.intDiv, Op.intBits, Op.intCmp, *]; try rfl)

theorem run_binS {op : BinOp} {x y : List UInt8} {r : AV} (t : TypeId) (h : binS op x y = some r) :
    ∃ v, (Go.binOp op t (.string ⟨x.toArray⟩) (.string ⟨y.toArray⟩)).run P w = .ok v w ∧ Rep Z φ r v := by
  cases op <;> simp [binS] at h <;> (first | subst h | (obtain ⟨h0, h⟩ := h; subst h))
  case add =>
    refine ⟨.string ⟨(x ++ y).toArray⟩, ?_, .str _⟩
    have h1 : ¬ (((⟨x.toArray⟩ : ByteArray).size + (⟨y.toArray⟩ : ByteArray).size : Nat) : Int) > IntKind.i64.max := by rw [size_mk, size_mk]; simpa using h0
    simp only [Go.binOp, Op.stringOp]
    rw [if_neg h1]
    have : (⟨x.toArray⟩ : ByteArray) ++ ⟨y.toArray⟩ = ⟨(x ++ y).toArray⟩ := by
      apply ByteArray.ext
      simp
    rw [this]; rfl
  all_goals (refine ⟨_, ?_, by constructor⟩; simp only [Go.binOp, Op.stringOp, toList_mk]; first | rfl | (rw [Bool.not_or]; rfl))

theorem eqGuard_other {op : BinOp} (h1 : op ≠ .eql) (h2 : op ≠ .neq) (t : TypeId) (ox oy : Operand) (u v : Value) : (eqGuard op t ox oy u v).run P w = .ok () w := by
  unfold eqGuard; cases op <;> first | exact absurd rfl h1 | exact absurd rfl h2 | rfl
theorem eqGuard_int (op : BinOp) (t : TypeId) (ox oy : Operand) (k k' : IntKind) (a b : Int) : (eqGuard op t ox oy (.int k a) (.int k' b)).run P w = .ok () w := by
  unfold eqGuard; cases op <;> rfl
theorem eqGuard_str (op : BinOp) (t : TypeId) (ox oy : Operand) (a b : ByteArray) : (eqGuard op t ox oy (.string a) (.string b)).run P w = .ok () w := by
  unfold eqGuard; cases op <;> rfl

theorem run_eqGuard {op : BinOp} {t : TypeId} {ox oy : Operand} {x y : AV} {u v : Value} (hx : Rep Z φ x u) (hy : Rep Z φ y v) (h : abin.guardOk P t ox oy x y = true) (hop : op = .eql ∨ op = .neq) :
    (eqGuard op t ox oy u v).run P w = .ok () w := by
  unfold abin.guardOk at h
  split at h
  · cases hx; cases hy
    rcases hop with rfl | rfl <;> (unfold eqGuard; cases ox <;> cases oy <;> first | rfl | (simp [isNilConst] at h; done))
  · cases hx; cases hy
    simp only [Bool.not_eq_true'] at h
    rcases hop with rfl | rfl <;> (unfold eqGuard; simp [go_sem, h])
  · cases h
  · cases h
  · rename_i g1 g2 g3 g4
    rcases hop with rfl | rfl <;> (unfold eqGuard; cases hx <;> cases hy <;> first | rfl | exact absurd rfl (g3 _) | exact absurd rfl g3 | exact absurd rfl (g4 _) | exact absurd rfl g4 | (simp_all; done))

theorem asInts {k : IntKind} {n : Int} {u : Value} (h : Rep Z φ (.int k n) u) : u = .int k n := by cases h; rfl

theorem sound_bin {op : BinOp} {t : TypeId} {ox oy : Operand} {x y r : AV} {u v : Value} (hx : Rep Z φ x u) (hy : Rep Z φ y v) (h : abin P op t ox oy x y = some r) :
    ∃ q, (do eqGuard op t ox oy u v; Go.binOp op t u v : Sem Value).run P w = .ok q w ∧ Rep Z φ r q := by
  have guardInt : ∀ (k k' : IntKind) (a b : Int), (eqGuard op t ox oy (.int k a) (.int k' b)).run P w = .ok () w := fun k k' a b => eqGuard_int ..
  have guardStr : ∀ (a b : ByteArray), (eqGuard op t ox oy (.string a) (.string b)).run P w = .ok () w := fun a b => eqGuard_str ..
  unfold abin at h
  split at h
  · cases hx; cases hy
    split at h
    · cases h
    · rename_i hb
      injection h with h; subst h
      refine ⟨_, run_bind' (guardInt _ _ _ _) ?_, by constructor⟩
      simp [Go.binOp, Op.shift, hb]
  · cases hx; cases hy
    split at h
    · cases h
    · rename_i hb
      injection h with h; subst h
      refine ⟨_, run_bind' (guardInt _ _ _ _) ?_, by constructor⟩
      simp [Go.binOp, Op.shift, hb]
  · rename_i h1 h2
    cases hx; cases hy
    split at h
    · rename_i hk; subst hk
      obtain ⟨q, hq, hr⟩ := run_binI (P := P) (w := w) (Z := Z) (φ := φ) t h (fun e => h1 e) (fun e => h2 e)
      exact ⟨q, run_bind' (guardInt _ _ _ _) hq, hr⟩
    · cases h
  · cases hx; cases hy
    obtain ⟨q, hq, hr⟩ := run_binS (P := P) (w := w) (Z := Z) (φ := φ) t h
    exact ⟨q, run_bind' (guardStr _ _) hq, hr⟩
  · rename_i n1 n2 n3
    split at h
    · rename_i hg
      simp only [Option.map_eq_some_iff] at h
      obtain ⟨b, hb, rfl⟩ := h
      refine ⟨.bool b, run_bind' (run_eqGuard hx hy hg (by simp)) ?_, .bool _⟩
      have he : (Op.equal t u v).run P w = .ok b w := sound_eqIn 10000 t _ _ _ _ _ hx hy hb
      have : Go.binOp .eql t u v = (do pure (.bool (← Op.equal t u v)) : Sem Value) := by
        cases hx <;> cases hy <;> first | rfl | exact (n2 _ _ _ _ rfl rfl).elim | exact (n3 _ _ rfl rfl).elim | (simp_all [abin.guardOk]; done)
      rw [this]
      exact run_bind' he rfl
    · cases h
  · rename_i n1 n2 n3
    split at h
    · rename_i hg
      simp only [Option.map_eq_some_iff] at h
      obtain ⟨b, hb, rfl⟩ := h
      refine ⟨.bool (!b), run_bind' (run_eqGuard hx hy hg (by simp)) ?_, .bool _⟩
      have he : (Op.equal t u v).run P w = .ok b w := sound_eqIn 10000 t _ _ _ _ _ hx hy hb
      have : Go.binOp .neq t u v = (do pure (.bool (!(← Op.equal t u v))) : Sem Value) := by
        cases hx <;> cases hy <;> first | rfl | exact (n2 _ _ _ _ rfl rfl).elim | exact (n3 _ _ rfl rfl).elim | (simp_all [abin.guardOk]; done)
      rw [this]
      exact run_bind' he rfl
    · cases h
  · cases h

theorem sound_un {op : UnOp} {x r : AV} {u : Value} (hx : Rep Z φ x u) (h : aun op x = some r) : ∃ q, (Op.unary op u).run P w = .ok q w ∧ Rep Z φ r q := by
  unfold aun at h
  split at h
  · cases hx; injection h with h; subst h; exact ⟨_, rfl, .int _ _⟩
  · cases hx
    simp only [bitI, Option.map_some, Option.some.injEq] at h; subst h
    exact ⟨_, rfl, .int _ _⟩
  · cases hx; injection h with h; subst h; exact ⟨_, rfl, .bool _⟩
  · cases h

end
end Go.Lom
