/- Operations that make or write memory: sound. -/
import Derived.Test.YtnjaebjhfilljaaLomK
set_option linter.unusedSimpArgs false
set_option linter.unusedVariables false
namespace Go.Lom
open Go.RowKit

section
variable {P : Program} {base : Nat → Prop} {w0 : Start} {Z : ZMap} {φ : PMap} {H : Heap} {nx : Nat} {w : World}

/-- The outcome of an operation. -/
def OutOk (base : Nat → Prop) (w0 : Start) (Z : ZMap) (φ : PMap) (r : AV) (H' : Heap) (nx' : Nat) (x : Result Next) : Prop :=
  ∃ n w' Z' φ', x = .ok n w' ∧ ((∃ v, n = .value v ∧ Rep Z' φ' r v) ∨ (n = .skip ∧ r = .undef)) ∧ ZLe Z Z' ∧ PLe φ φ' ∧ HRel base w0 Z' φ' H' nx' w'

def ValOk (base : Nat → Prop) (w0 : Start) (Z : ZMap) (φ : PMap) (r : AV) (H' : Heap) (nx' : Nat) (x : Result Value) : Prop :=
  ∃ v w' Z' φ', x = .ok v w' ∧ Rep Z' φ' r v ∧ ZLe Z Z' ∧ PLe φ φ' ∧ HRel base w0 Z' φ' H' nx' w'

theorem ValOk.out {r : AV} {H' : Heap} {nx' : Nat} {s : Sem Value} (h : ValOk base w0 Z φ r H' nx' (s.run P w)) : OutOk base w0 Z φ r H' nx' ((do pure (Next.value (← s)) : Sem Next).run P w) := by
  obtain ⟨v, w', Z', φ', hv, hr, a, b, c⟩ := h
  exact ⟨.value v, w', Z', φ', run_bind' hv rfl, .inl ⟨v, rfl, hr⟩, a, b, c⟩

/-- One new row: known elements. -/
theorem row_new (hh : HRel base w0 Z φ H nx w) {e : TypeId} {s : Nat} {es : List (List AV)} {c : Array Value} {lim : Nat} {fz : Nat × Nat} (hlim : es.length ≤ lim) (hsz : lim * s ≤ c.size) (hfz : ∀ x, x < c.size → ¬ (fz.1 ≤ x ∧ x < fz.2))
    (hes : ∀ (i : Nat) (el : List AV), es[i]? = some el → el.length = s ∧ el.all oneC = true ∧ ∀ (j : Nat) (v : AV), el[j]? = some v → ∃ u, c[i * s + j]? = some u ∧ Rep Z φ v u) :
    HRel base w0 Z (φ.set nx ⟨w.heap.size, 0, s, lim⟩) (H.set nx (.row s es)) (nx + 1) (w.alloc (.cells c e fz)) := by
  refine hh.alloc (Nat.le_refl _) rfl ⟨rfl, hlim, c, e, fz, heap_new w _, by simpa using hsz, hfz, fun i el hi => ⟨(hes i el hi).1, (hes i el hi).2.1, fun j v hj => ?_⟩⟩
  obtain ⟨u, hu, hr⟩ := (hes i el hi).2.2 j v hj
  exact ⟨u, by simpa using hu, hr.mono (ZLe.refl _) (PMap.le_set (hh.fresh (Nat.le_refl _)))⟩

theorem run_newRow (e : TypeId) (c : Array Value) (w : World) : (newRow e c).run P w = .ok ⟨w.heap.size, 0, none⟩ (w.alloc (.cells c e)) := rfl

theorem sound_var (hh : HRel base w0 Z φ H nx w) {t : TypeId} {x : AV} {u : Value} {cs : List AV} (hx : Rep Z φ x u) (hc : cellsOf x = some cs) :
    ∃ p, (newVar t u).run P w = .ok p (w.alloc (.cells u.cells t)) ∧ Rep Z (φ.set nx ⟨w.heap.size, 0, cs.length, 1⟩) (.ptr nx 0 0) (.pointer (some p)) ∧
      HRel base w0 Z (φ.set nx ⟨w.heap.size, 0, cs.length, 1⟩) (H.set nx (.row cs.length [cs])) (nx + 1) (w.alloc (.cells u.cells t)) := by
  obtain ⟨hr, h1⟩ := rep_cells hc hx
  refine ⟨_, rfl, ?_, row_new hh (by simp) (by rw [hr.1]; omega) (fun x _ => by simp) fun i el hi => ?_⟩
  · have := Rep.ptr (Z := Z) (φ := φ.set nx ⟨w.heap.size, 0, cs.length, 1⟩) (b := nx) (i := 0) (o := 0) (PMap.set_self _ _ _)
    simpa using this
  · match i with
    | 0 =>
      simp at hi; subst hi
      refine ⟨rfl, h1, fun j v hj => ?_⟩
      have hlt : j < u.cells.size := by have := (List.getElem?_eq_some_iff.1 hj).1; have := hr.1; omega
      exact ⟨u.cells[j], by simp [hlt], hr.2 j v _ hj (Array.getElem?_eq_getElem hlt)⟩
    | i + 1 => simp at hi

theorem sound_alloc (hh : HRel base w0 Z φ H nx w) {t : TypeId} {r : AV} {H' : Heap} {nx' : Nat} (hr : aalloc P t H nx = some (r, H', nx')) :
    ValOk base w0 Z φ r H' nx' ((Instr.alloc t true (.tuple #[])).run P w) := by
  unfold aalloc zeroCellsOf at hr
  simp only [Option.bind_eq_bind, Option.bind_eq_some_iff, Option.some.injEq, Prod.mk.injEq] at hr
  obtain ⟨cs, ⟨z, hz, hcs⟩, rfl, rfl, rfl⟩ := hr
  obtain ⟨u, hu, hru⟩ := run_zeroValue (Z := Z) (φ := φ) hz w
  obtain ⟨p, hp, hrp, hh'⟩ := sound_var (P := P) (t := t) hh hru hcs
  exact ⟨.pointer (some p), _, Z, _, run_bind' hu (run_bind' hp rfl), hrp, ZLe.refl _, PMap.le_set (hh.fresh (Nat.le_refl _)), hh'⟩

theorem sound_box (hh : HRel base w0 Z φ H nx w) {t : TypeId} {x r : AV} {u : Value} {H' : Heap} {nx' : Nat} (hx : Rep Z φ x u) (hr : abox x H nx = some (r, H', nx')) :
    ValOk base w0 Z φ r H' nx' ((Instr.box t u).run P w) := by
  unfold abox at hr
  simp only [Option.bind_eq_bind, Option.bind_eq_some_iff, Option.some.injEq, Prod.mk.injEq] at hr
  obtain ⟨cs, hcs, rfl, rfl, rfl⟩ := hr
  obtain ⟨p, hp, hrp, hh'⟩ := sound_var (P := P) (t := t) hh hx hcs
  exact ⟨.pointer (some p), _, Z, _, run_bind' hp rfl, hrp, ZLe.refl _, PMap.le_set (hh.fresh (Nat.le_refl _)), hh'⟩

theorem sliceElem_some {t e : TypeId} (h : sliceElem P t = some e) : P.underlying t = some (.slice e) := by
  unfold sliceElem at h
  split at h
  · rename_i h2; injection h with h; subst h; exact h2
  · cases h

theorem flatten_replicate_get (z : List AV) : ∀ (n i : Nat), i < n * z.length → (List.replicate n z).flatten[i]? = z[i % z.length]?
  | 0, i, h => by omega
  | n + 1, i, h => by
    simp only [List.replicate_succ, List.flatten_cons]
    by_cases hi : i < z.length
    · rw [List.getElem?_append_left hi, Nat.mod_eq_of_lt hi]
    · rw [List.getElem?_append_right (by omega), flatten_replicate_get z n (i - z.length) (by rw [Nat.add_mul] at h; omega)]
      rw [Nat.mod_eq_sub_mod (a := i) (by omega)]

/-- The zero cells of a row. -/
theorem reps_zeros {z : List AV} {zu : Array Value} (hz : Reps Z φ z zu) (n : Nat) : Reps Z φ (List.replicate n z).flatten ((Array.range (n * z.length)).map (fun i => zu[i % zu.size]!)) := by
  have hl : (List.replicate n z).flatten.length = n * z.length := by simp
  refine ⟨by simp, fun i v u hi hu => ?_⟩
  have hlt : i < n * z.length := by have := (List.getElem?_eq_some_iff.1 hi).1; omega
  have hz0 : 0 < z.length := by
    rcases Nat.eq_zero_or_pos z.length with h | h
    · rw [h] at hlt; omega
    · exact h
  rw [flatten_replicate_get z n i hlt] at hi
  have hm : i % z.length < zu.size := by rw [hz.1]; exact Nat.mod_lt _ hz0
  simp [hlt] at hu
  subst hu
  refine hz.2 _ v _ hi ?_
  rw [hz.1]
  rw [getElem!_pos zu _ hm]
  exact Array.getElem?_eq_getElem hm

theorem chunk_get {s n : Nat} {cs : List AV} (hl : cs.length = n * s) {i : Nat} {e : List AV} (h : (chunk s n cs)[i]? = some e) : i < n ∧ e.length = s ∧ ∀ j, j < s → e[j]? = cs[i * s + j]? := by
  unfold chunk at h
  have hi : i < n := by have := (List.getElem?_eq_some_iff.1 h).1; simpa using this
  simp [hi] at h
  subst h
  have h2 : i * s + s ≤ n * s := by have : (i + 1) * s ≤ n * s := Nat.mul_le_mul_right _ hi; rwa [Nat.add_mul, Nat.one_mul] at this
  refine ⟨hi, by simp; omega, fun j hj => ?_⟩
  rw [List.getElem?_take, if_pos hj, List.getElem?_drop]

theorem afill_length : ∀ (ps : List (Nat × AV)) (pl : Nat → Option (Nat × Nat)) (e r : List AV), afill pl e ps = some r → r.length = e.length
  | [], _, _, _, h => by simp only [afill, Option.some.injEq] at h; subst h; rfl
  | (i, v) :: ps, pl, e, r, h => by
    simp only [afill, Option.bind_eq_bind, Option.bind_eq_some_iff] at h
    obtain ⟨⟨off, size⟩, _, cs, _, h⟩ := h
    split at h
    · rw [afill_length ps pl _ r h, splice_length]
    · cases h

theorem all_splice : ∀ (cs e : List AV) (o : Nat), e.all oneC = true → cs.all oneC = true → (splice e o cs).all oneC = true
  | [], _, _, h, _ => h
  | v :: cs, e, o, h, h2 => by
    simp only [splice]
    simp only [List.all_cons, Bool.and_eq_true] at h2
    refine all_splice cs _ _ ?_ h2.2
    rw [List.all_eq_true] at h ⊢
    intro x hx
    rcases List.mem_or_eq_of_mem_set hx with h3 | h3
    · exact h x h3
    · subst h3; exact h2.1
theorem cellsOf_all {x : AV} {cs : List AV} (h : cellsOf x = some cs) : cs.all oneC = true := by
  unfold cellsOf at h
  split at h
  · split at h
    · rename_i ha; injection h with h; subst h; exact ha
    · cases h
  · split at h
    · rename_i ha; injection h with h; subst h; simp [ha]
    · cases h
theorem afill_all : ∀ (ps : List (Nat × AV)) (pl : Nat → Option (Nat × Nat)) (e r : List AV), e.all oneC = true → afill pl e ps = some r → r.all oneC = true
  | [], _, _, _, h0, h => by simp only [afill, Option.some.injEq] at h; subst h; exact h0
  | (i, v) :: ps, pl, e, r, h0, h => by
    simp only [afill, Option.bind_eq_bind, Option.bind_eq_some_iff] at h
    obtain ⟨⟨off, size⟩, _, cs, hcs, h⟩ := h
    split at h
    · exact afill_all ps pl _ r (all_splice _ _ _ h0 (cellsOf_all hcs)) h
    · cases h

/-- A slice literal's cells. -/
theorem run_literal {t : TypeId} {len : Nat} {ps : List (Nat × AV)} {qs : Array (Nat × Value)} {s : Nat} {es : List (List AV)} (hl : qs.size = ps.length)
    (hp : ∀ (i : Nat) (p : Nat × AV) (q : Nat × Value), ps[i]? = some p → qs[i]? = some q → p.1 = q.1 ∧ Rep Z φ p.2 q.2) (hr : aliteral P t len ps = some (s, es)) :
    es.length = len ∧ ∃ c e, (Instr.buildSlice t len qs).run P w = .ok (.slice (some ⟨w.heap.size, 0, none⟩) len len) (w.alloc (.cells c e)) ∧ c.size = len * s ∧
      ∀ (i : Nat) (el : List AV), es[i]? = some el → el.length = s ∧ el.all oneC = true ∧ ∀ (j : Nat) (v : AV), el[j]? = some v → ∃ u, c[i * s + j]? = some u ∧ Rep Z φ v u := by
  unfold aliteral at hr
  simp only [Option.bind_eq_bind, Option.bind_eq_some_iff] at hr
  obtain ⟨e, he, s', hs, z, hz, hr⟩ := hr
  split at hr
  · rename_i hh
    obtain ⟨hzl, hsmall⟩ := hh
    simp only [Option.bind_eq_some_iff, Option.some.injEq, Prod.mk.injEq] at hr
    obtain ⟨cs, hcs, rfl, rfl⟩ := hr
    unfold zeroCellsOf at hz
    simp only [Option.bind_eq_some_iff] at hz
    obtain ⟨z0, hz0, hz⟩ := hz
    obtain ⟨zu, hzu, hzr⟩ := run_zeroValue (Z := Z) (φ := φ) hz0 w
    obtain ⟨hzc, hz1⟩ := rep_cells hz hzr
    have hu := sliceElem_some he
    have hzeros : Reps Z φ (List.replicate len z).flatten ((Array.range (len * s')).map (fun i => (if len * s' = 0 then #[] else zu.cells)[i % (if len * s' = 0 then #[] else zu.cells).size]!)) := by
      by_cases h0 : len * s' = 0
      · have : (List.replicate len z).flatten = [] := List.eq_nil_of_length_eq_zero (by simp [hzl]; exact h0)
        rw [this, h0]
        exact ⟨by simp, fun i v u a => by simp at a⟩
      · rw [if_neg h0, ← hzl]
        exact reps_zeros hzc len
    obtain ⟨c, hc, hrc⟩ := sound_fill ps qs.toList _ cs _ hzeros (by simpa using hl) (fun i p q a b => hp i p q a (by simpa using b)) hcs
    have hcl : cs.length = len * s' := by rw [afill_length _ _ _ _ hcs]; simp [hzl]
    have hall : cs.all oneC = true := by
      refine afill_all _ _ _ _ ?_ hcs
      rw [List.all_eq_true]
      intro x hx
      simp only [List.mem_flatten, List.mem_replicate] at hx
      obtain ⟨y, ⟨_, rfl⟩, hxy⟩ := hx
      exact List.all_eq_true.1 hz1 x hxy
    refine ⟨by simp [chunk], c, e, ?_, by rw [hrc.1, hcl], fun i el hi => ?_⟩
    · unfold Instr.buildSlice
      refine run_bind' (run_underlying' hu w) (run_bind' (run_szOf hs w) ?_)
      simp only
      rw [if_neg (by omega)]
      have hzero : (if len * s' = 0 then pure #[] else do pure (← zeroValue e).cells : Sem (Array Value)).run P w = .ok (if len * s' = 0 then #[] else zu.cells) w := by
        by_cases h0 : len * s' = 0
        · rw [if_pos h0, if_pos h0]; rfl
        · rw [if_neg h0, if_neg h0]; exact run_bind' hzu rfl
      by_cases h0 : len * s' = 0
      · rw [if_pos h0] at hc
        rw [if_pos h0]
        refine run_bind' (x := (#[] : Array Value)) (w' := w) rfl ?_
        rw [hc]; rfl
      · rw [if_neg h0] at hc
        rw [if_neg h0]
        refine run_bind' hzu ?_
        refine run_bind' (x := zu.cells) (w' := w) rfl ?_
        rw [hc]; rfl
    · obtain ⟨hi1, hi2, hi3⟩ := chunk_get hcl hi
      refine ⟨hi2, ?_, fun j v hj => ?_⟩
      · rw [List.all_eq_true]
        intro x hx
        obtain ⟨j, hjlt, hj⟩ := List.mem_iff_getElem.1 hx
        have : cs[i * s' + j]? = some x := by rw [← hi3 j (by omega), List.getElem?_eq_getElem hjlt, hj]
        exact List.all_eq_true.1 hall x (List.mem_of_getElem? this)
      · have hjl : j < s' := by have := (List.getElem?_eq_some_iff.1 hj).1; omega
        rw [hi3 j hjl] at hj
        have hlt : i * s' + j < c.size := by have := (List.getElem?_eq_some_iff.1 hj).1; rw [hrc.1]; omega
        exact ⟨c[i * s' + j], Array.getElem?_eq_getElem hlt, hrc.2 _ v _ hj (Array.getElem?_eq_getElem hlt)⟩
  · cases hr

theorem sound_buildSlice (hh : HRel base w0 Z φ H nx w) {t : TypeId} {len : Nat} {ps : List (Nat × AV)} {qs : Array (Nat × Value)} {r : AV} {H' : Heap} {nx' : Nat} (hl : qs.size = ps.length)
    (hp : ∀ (i : Nat) (p : Nat × AV) (q : Nat × Value), ps[i]? = some p → qs[i]? = some q → p.1 = q.1 ∧ Rep Z φ p.2 q.2) (hr : abuildSlice P t len ps H nx = some (r, H', nx')) :
    ValOk base w0 Z φ r H' nx' ((Instr.buildSlice t len qs).run P w) := by
  unfold abuildSlice at hr
  simp only [Option.bind_eq_bind, Option.bind_eq_some_iff, Option.some.injEq, Prod.mk.injEq] at hr
  obtain ⟨⟨s, es⟩, hlit, rfl, rfl, rfl⟩ := hr
  obtain ⟨hlen, c, e, hrun, hsz, hes⟩ := run_literal (w := w) hl hp hlit
  refine ⟨_, _, Z, _, hrun, ?_, ZLe.refl _, PMap.le_set (hh.fresh (Nat.le_refl _)), row_new (lim := len) hh (Nat.le_of_eq hlen) (Nat.le_of_eq hsz.symm) (fun x _ => by simp) hes⟩
  exact .sl (PMap.set_self _ _ _) rfl rfl (Nat.le_refl _) (by simp) (.inl (by simp))

end
end Go.Lom
