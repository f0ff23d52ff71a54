/- Maps read: sound; and all quiet operations together. -/
import Derived.Test.YtnjaebjhfilljaaLomH
set_option linter.unusedSimpArgs false
namespace Go.Lom
open Go.RowKit

section
variable {P : Program} {base : Nat → Prop} {w0 : Start} {Z : ZMap} {φ : PMap} {H : Heap} {nx : Nat} {w : World}

theorem run_forIn_unit {α : Type} (f : α → PUnit → Sem (ForInStep PUnit)) : ∀ (l : List α), (∀ x ∈ l, (f x PUnit.unit).run P w = .ok (.yield PUnit.unit) w) → (forIn l PUnit.unit f).run P w = .ok PUnit.unit w
  | [], _ => rfl
  | x :: l, h => by
    rw [List.forIn_cons]
    refine run_bind' (h x (by simp)) ?_
    exact run_forIn_unit f l fun y hy => h y (by simp [hy])

theorem run_checkKey (em : Bool) : ∀ (d : Nat) (t : TypeId) (x : AV) (u : Value), Rep Z φ x u → keyOk P d t x = true → (Instr.checkKey em d t u).run P w = .ok () w
  | 0, _, _, _, _, h => by simp [keyOk] at h
  | d + 1, t, x, u, hx, h => by
    unfold keyOk at h
    unfold Instr.checkKey
    split at h
    · rename_i hu; exact run_bind' (run_underlying' hu w) rfl
    · rename_i hu; exact run_bind' (run_underlying' hu w) rfl
    · rename_i hu; exact run_bind' (run_underlying' hu w) rfl
    · rename_i len e cs hu
      cases hx with
      | agg hl hr =>
      refine run_bind' (run_underlying' hu w) ?_
      cases hs : szOf P e with
      | none => simp [hs] at h
      | some n =>
        simp only [hs, List.all_eq_true] at h
        simp only [Std.Legacy.Range.forIn_eq_forIn_range', Std.Legacy.Range.size, Nat.sub_zero, Nat.add_one_sub_one, Nat.div_one]
        refine run_bind' (run_forIn_unit _ _ fun i hi => ?_) rfl
        have h2 := h i (by simpa [List.mem_range'_1] using hi)
        split at h2
        · rename_i y hy
          obtain ⟨v, hv, hrv⟩ := run_part (w := w) hy ⟨hl, hr⟩
          refine run_bind' (run_szOf hs w) (run_bind' hv (run_bind' (run_checkKey em d e y v hrv h2) rfl))
        · cases h2
    · rename_i fs cs hu
      cases hx with
      | agg hl hr =>
      refine run_bind' (run_underlying' hu w) ?_
      simp only [List.all_eq_true] at h
      refine run_bind' (x := PUnit.unit) (w' := w) ?_ rfl
      rw [← Array.forIn_toList]
      refine run_forIn_unit _ _ fun f hf => ?_
      have h2 := h f hf
      by_cases hn : f.name = "_"
      · simp [hn, go_sem]
      · have hn2 : (f.name == "_") = false := by simpa using hn
        rw [hn2, Bool.false_or] at h2
        split at h2
        · rename_i y hy
          obtain ⟨v, hv, hrv⟩ := run_part (w := w) hy ⟨hl, hr⟩
          have h3 := run_checkKey em d f.type y v hrv h2
          simp only [hn, ne_eq, not_false_eq_true, if_true]
          refine run_bind' hv ?_
          exact run_bind' h3 rfl
        · cases h2
    · cases h

theorem sameNow_of {d : Nat} {t : TypeId} {x y : AV} {u v : Value} {b : Bool} {td : TypeDesc} (hu : P.underlying t = some td) (hp : td = .bool ∨ td = .string ∨ ∃ k, td = .int k) (hx : Rep Z φ x u) (hy : Rep Z φ y v) (h : aeqIn P d t x y = some b) :
    Instr.sameNow td u v = some b := by
  cases d with
  | zero => simp [aeqIn] at h
  | succ d =>
    unfold aeqIn at h
    rw [hu] at h
    rcases hp with rfl | rfl | ⟨k, rfl⟩
    · cases x <;> cases y <;> simp at h
      cases hx; cases hy; subst h; rfl
    · cases x <;> cases y <;> simp at h
      cases hx; cases hy; subst h
      simp [Instr.sameNow, beq_toListBytes, toList_mk]
    · cases x <;> cases y <;> simp at h
      cases hx; cases hy; obtain ⟨rfl, rfl⟩ := h
      simp [Instr.sameNow]

/-- What finding a key gives: the place and the value, related. -/
def FoundR (Z : ZMap) (φ : PMap) : Option (Nat × AV) → Option (Nat × Value) → Prop
  | none, none => True
  | some (i, x), some (j, u) => i = j ∧ Rep Z φ x u
  | _, _ => False

def EntR (Z : ZMap) (φ : PMap) (es : List (AV × AV)) (ms : List MapEntry) : Prop :=
  ms.length = es.length ∧ ∀ (i : Nat) (k v : AV) (m : MapEntry), es[i]? = some (k, v) → ms[i]? = some m → Rep Z φ k m.key ∧ Rep Z φ v m.val

theorem EntR.tail {e : AV × AV} {m : MapEntry} {es : List (AV × AV)} {ms : List MapEntry} (h : EntR Z φ (e :: es) (m :: ms)) : EntR Z φ es ms :=
  ⟨by simpa using h.1, fun i k v m' a b => h.2 (i + 1) k v m' (by simpa using a) (by simpa using b)⟩

theorem found_now {kt : TypeId} {td : TypeDesc} (hu : P.underlying kt = some td) (hp : td = .bool ∨ td = .string ∨ ∃ k, td = .int k) {k : AV} {uk : Value} (hk : Rep Z φ k uk) :
    ∀ (es : List (AV × AV)) (ms : List MapEntry) (i : Nat) (r : Option (Nat × AV)), EntR Z φ es ms → findK P kt k es i = some r → ∃ q, Instr.findNow td uk ms i = some q ∧ FoundR Z φ r q
  | [], ms, i, r, h, hr => by
    cases ms with
    | nil => simp only [findK, Option.some.injEq] at hr; subst hr; exact ⟨none, rfl, trivial⟩
    | cons _ _ => have := h.1; simp at this
  | (x, v) :: es, ms, i, r, h, hr => by
    cases ms with
    | nil => have := h.1; simp at this
    | cons m ms =>
      simp only [findK, Option.bind_eq_bind, Option.bind_eq_some_iff] at hr
      obtain ⟨b, hb, hr⟩ := hr
      obtain ⟨h1, h2⟩ := h.2 0 x v m rfl rfl
      have hs := sameNow_of hu hp hk h1 hb
      unfold Instr.findNow
      rw [hs]
      cases b
      · simp only [Bool.false_eq_true, if_false] at hr
        exact found_now hu hp hk es ms (i + 1) r h.tail hr
      · simp only [if_true, Option.some.injEq] at hr; subst hr
        exact ⟨_, rfl, rfl, h2⟩

theorem found_asking {kt : TypeId} {k : AV} {uk : Value} (hk : Rep Z φ k uk) :
    ∀ (es : List (AV × AV)) (ms : List MapEntry) (i : Nat) (r : Option (Nat × AV)), EntR Z φ es ms → findK P kt k es i = some r → ∃ q, (Instr.findAsking kt uk ms i).run P w = .ok q w ∧ FoundR Z φ r q
  | [], ms, i, r, h, hr => by
    cases ms with
    | nil => simp only [findK, Option.some.injEq] at hr; subst hr; exact ⟨none, rfl, trivial⟩
    | cons _ _ => have := h.1; simp at this
  | (x, v) :: es, ms, i, r, h, hr => by
    cases ms with
    | nil => have := h.1; simp at this
    | cons m ms =>
      simp only [findK, Option.bind_eq_bind, Option.bind_eq_some_iff] at hr
      obtain ⟨b, hb, hr⟩ := hr
      obtain ⟨h1, h2⟩ := h.2 0 x v m rfl rfl
      have hs : (Op.equal kt uk m.key).run P w = .ok b w := sound_eqIn 10000 kt _ _ _ _ _ hk h1 hb
      unfold Instr.findAsking
      cases b
      · simp only [Bool.false_eq_true, if_false] at hr
        obtain ⟨q, hq, hrq⟩ := found_asking hk es ms (i + 1) r h.tail hr
        exact ⟨q, run_bind' hs (by simpa using hq), hrq⟩
      · simp only [if_true, Option.some.injEq] at hr; subst hr
        exact ⟨_, run_bind' hs rfl, rfl, h2⟩

theorem run_findKey {kt : TypeId} {k : AV} {uk : Value} (hk : Rep Z φ k uk) {es : List (AV × AV)} {ms : List MapEntry} {r : Option (Nat × AV)} (he : EntR Z φ es ms) (hok : keyOk P 10000 kt k = true) (hr : findK P kt k es 0 = some r) :
    ∃ q, (Instr.findKey kt uk ms).run P w = .ok q w ∧ FoundR Z φ r q := by
  cases hu : P.underlying kt with
  | none => simp [keyOk, hu] at hok
  | some td =>
    unfold Instr.findKey
    by_cases hp : td = .bool ∨ td = .string ∨ ∃ k, td = .int k
    · obtain ⟨q, hq, hrq⟩ := found_now hu hp hk es ms 0 r he hr
      exact ⟨q, run_bind' (run_underlying' hu w) (by rw [hq]; rfl), hrq⟩
    · cases ms with
      | nil =>
        have : es = [] := List.eq_nil_of_length_eq_zero (by have := he.1; simpa using this.symm)
        subst this
        simp only [findK, Option.some.injEq] at hr; subst hr
        exact ⟨none, run_bind' (run_underlying' hu w) rfl, trivial⟩
      | cons m ms =>
        obtain ⟨q, hq, hrq⟩ := found_asking (w := w) hk es (m :: ms) 0 r he hr
        refine ⟨q, run_bind' (run_underlying' hu w) ?_, hrq⟩
        have : Instr.findNow td uk (m :: ms) 0 = none := by
          have h2 : Instr.sameNow td uk m.key = none := by
            unfold Instr.sameNow
            split <;> first | rfl | (exfalso; apply hp; simp; done)
          unfold Instr.findNow; rw [h2]
        rw [this]; exact hq

theorem mapT_some {t kt et : TypeId} (h : mapT P t = some (kt, et)) : P.underlying t = some (.map kt et) := by
  unfold mapT at h
  split at h
  · rename_i h2; injection h with h; injection h with h h'; subst h h'; exact h2
  · cases h

theorem sound_lookup (h : HRel base w0 Z φ H nx w) {t : TypeId} {x k r : AV} {u uk : Value} {ok : Bool} (hx : Rep Z φ x u) (hk : Rep Z φ k uk) (hr : alookup P t x k ok H = some r) :
    ∃ q, (Instr.lookup t u uk ok).run P w = .ok q w ∧ Rep Z φ r q := by
  unfold alookup at hr
  simp only [Option.bind_eq_bind, Option.bind_eq_some_iff] at hr
  obtain ⟨⟨kt, et⟩, hmt, es, hes, hr⟩ := hr
  have hu := mapT_some hmt
  split at hr
  · cases hr
  rename_i hok
  have hok : keyOk P 10000 kt k = true := by simpa using hok
  simp only [Option.bind_eq_some_iff] at hr
  obtain ⟨fnd, hfnd, hr⟩ := hr
  have fin : ∀ (ms : Array MapEntry), EntR Z φ es ms.toList → ∃ q, (do
      Instr.checkKey ms.isEmpty 10000 kt uk
      let (v, ok2) ← match ← Instr.findKey kt uk ms.toList with
        | some (_, v) => pure (v, true)
        | none => pure (← zeroValue et, false)
      pure (if ok then .tuple #[v, .bool ok2] else v) : Sem Value).run P w = .ok q w ∧ Rep Z φ r q := by
    intro ms hent
    obtain ⟨q, hq, hrq⟩ := run_findKey (w := w) hk hent hok hfnd
    cases fnd with
    | none =>
      cases q with
      | some _ => exact hrq.elim
      | none =>
        simp only [Option.bind_eq_some_iff, Option.some.injEq] at hr
        obtain ⟨z, hz, rfl⟩ := hr
        obtain ⟨zu, hzu, hzr⟩ := run_zeroValue (Z := Z) (φ := φ) hz w
        refine ⟨if ok then .tuple #[zu, .bool false] else zu, ?_, by
          cases ok with
          | false => exact hzr
          | true => exact rep_pair hzr (.bool _)⟩
        refine run_bind' (run_checkKey _ 10000 kt k uk hk hok) ?_
        refine run_bind' hq ?_
        exact run_bind' hzu rfl
    | some p =>
      obtain ⟨i, v⟩ := p
      cases q with
      | none => exact hrq.elim
      | some q =>
        obtain ⟨j, vu⟩ := q
        obtain ⟨_, hrv⟩ := hrq
        simp only [Option.some.injEq] at hr; subst hr
        refine ⟨if ok then .tuple #[vu, .bool true] else vu, ?_, by
          cases ok with
          | false => exact hrv
          | true => exact rep_pair hrv (.bool _)⟩
        refine run_bind' (run_checkKey _ 10000 kt k uk hk hok) ?_
        exact run_bind' hq rfl
  unfold entriesOf at hes
  cases hx with
  | nilm =>
    injection hes with hes; subst hes
    obtain ⟨q, hq, hrq⟩ := fin #[] ⟨rfl, fun i k v m a => by simp at a⟩
    refine ⟨q, ?_, hrq⟩
    unfold Instr.lookup
    refine run_bind' (run_underlying' hu w) ?_
    exact hq
  | mp hf =>
    simp only [Option.bind_eq_some_iff] at hes
    obtain ⟨blk, hb, hes⟩ := hes
    cases blk <;> simp [asMp] at hes
    subst hes
    obtain ⟨ms, clk, hw, hsz, hent⟩ := h.entries hf hb
    obtain ⟨q, hq, hrq⟩ := fin ms ⟨by simpa using hsz, fun i k v m a b => hent i k v m a (by simpa using b)⟩
    refine ⟨q, ?_, hrq⟩
    unfold Instr.lookup
    refine run_bind' (run_underlying' hu w) ?_
    refine run_bind' (run_getObj_map' hw) ?_
    exact hq
  | _ => simp at hes

end
end Go.Lom
