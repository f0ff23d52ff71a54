/- Maps written, append, conversion to bytes: sound; and all operations that make or write memory together. -/
import Derived.Test.YtnjaebjhfilljaaLomM
set_option linter.unusedSimpArgs false
set_option linter.unusedVariables false
namespace Go.Lom
open Go.RowKit

section
variable {P : Program} {base : Nat → Prop} {w0 : Start} {Z : ZMap} {φ : PMap} {H : Heap} {nx : Nat} {w : World}

theorem sameKoneBits {x y : AV} {u v : Value} (n : Nat) (hx : Rep Z φ x u) (hy : Rep Z φ y v) (h : sameK1 x y = true) : Instr.sameBits n u v = true := by
  unfold sameK1 at h
  split at h
  · cases hx; cases hy; unfold Instr.sameBits; exact h
  · cases hx; cases hy; unfold Instr.sameBits; exact h
  · cases hx; cases hy; unfold Instr.sameBits; rw [beq_toListBytes, toList_mk, toList_mk]; exact h
  · cases h

theorem sameK_bits {x y : AV} {u v : Value} (hx : Rep Z φ x u) (hy : Rep Z φ y v) (h : sameK x y = true) : Instr.sameBits 10000 u v = true := by
  unfold sameK at h
  split at h
  · rename_i xs ys
    cases hx with
    | agg hl1 h1 =>
    cases hy with
    | agg hl2 h2 =>
    rename_i us vs
    simp only [Bool.and_eq_true, beq_iff_eq, List.all_eq_true] at h
    obtain ⟨hlen, hall⟩ := h
    have : ∀ n, Instr.sameBits (n + 1) (.agg us) (.agg vs) = (us.size == vs.size && (us.toList.zip vs.toList).all fun (x, y) => Instr.sameBits n x y) := fun n => by rw [Instr.sameBits]
    rw [this 9999]
    simp only [Bool.and_eq_true, beq_iff_eq, List.all_eq_true]
    refine ⟨by omega, fun p hp => ?_⟩
    obtain ⟨j, hj, hpe⟩ := List.mem_iff_getElem.1 hp
    simp only [List.length_zip, Array.length_toList] at hj
    have hja : j < xs.length := by omega
    have hjb : j < ys.length := by omega
    have hpe2 : p = (us[j]'(by omega), vs[j]'(by omega)) := by rw [← hpe]; simp
    subst hpe2
    refine sameKoneBits _ (h1 j xs[j] _ (List.getElem?_eq_getElem hja) (Array.getElem?_eq_getElem _)) (h2 j ys[j] _ (List.getElem?_eq_getElem hjb) (Array.getElem?_eq_getElem _)) (hall (xs[j], ys[j]) ?_)
    exact List.mem_iff_getElem.2 ⟨j, by simp; omega, by simp⟩
  · exact sameKoneBits _ hx hy h

theorem setObj_map {B : Nat} {ms : Array MapEntry} {clk : Nat} (h : w.heap[B]? = some (.map ms clk)) (o : Obj) : (setObj B o).run P w = .ok () { w with heap := w.heap.setIfInBounds B o } := by
  simp [setObj, Sem.run, h]

theorem found_lt {kt : TypeId} {k : AV} : ∀ (es : List (AV × AV)) (i : Nat) (j : Nat) (v : AV), findK P kt k es i = some (some (j, v)) → i ≤ j ∧ j < i + es.length
  | [], i, j, v, h => by simp [findK] at h
  | (x, y) :: es, i, j, v, h => by
    simp only [findK, Option.bind_eq_bind, Option.bind_eq_some_iff] at h
    obtain ⟨b, _, h⟩ := h
    split at h
    · simp at h; simp; omega
    · have := found_lt es (i + 1) j v h; simp; omega

theorem sound_mapUpdate (hh : HRel base w0 Z φ H nx w) {t : TypeId} {m k v r : AV} {um uk uv : Value} {H' : Heap} {nx' : Nat} (hm : Rep Z φ m um) (hk : Rep Z φ k uk) (hv : Rep Z φ v uv) (hr : amapUpdate P t m k v H nx = some (r, H', nx')) :
    ∃ w', (Instr.mapUpdate t um uk uv).run P w = .ok () w' ∧ r = .undef ∧ HRel base w0 Z φ H' nx' w' := by
  unfold amapUpdate at hr
  cases hm with
  | mp hf =>
    rename_i b l
    simp only [Option.bind_eq_bind, Option.bind_eq_some_iff] at hr
    obtain ⟨⟨kt, et⟩, hmt, blk, hb, es, hes, hr⟩ := hr
    cases blk with
    | row s3 es3 => simp [asMp] at hes
    | lst t3 xs3 => simp [asMp] at hes
    | mp es2 =>
    simp only [asMp, Option.some.injEq] at hes
    subst hes
    split at hr
    · cases hr
    rename_i hok
    have hok : keyOk P 10000 kt k = true := by simpa using hok
    simp only [Option.bind_eq_some_iff] at hr
    obtain ⟨fnd, hfnd, hr⟩ := hr
    obtain ⟨ms, clk, hw, hsz, hent⟩ := hh.entries hf hb
    have hE : EntR Z φ es2 ms.toList := ⟨by simpa using hsz, fun i a b m h1 h2 => hent i a b m h1 (by simpa using h2)⟩
    obtain ⟨q, hq, hrq⟩ := run_findKey (w := w) hk hE hok hfnd
    have hBlt : l.B < w.heap.size := hh.flt _ _ hf
    have fin : ∀ (ms' : Array MapEntry) (clk' : Nat) (es' : List (AV × AV)), ms'.size = es'.length → (∀ (i : Nat) (a c : AV) (m : MapEntry), es'[i]? = some (a, c) → ms'[i]? = some m → Rep Z φ a m.key ∧ Rep Z φ c m.val) →
        HRel base w0 Z φ (H.set b (.mp es')) nx { w with heap := w.heap.setIfInBounds l.B (.map ms' clk') } := fun ms' clk' es' h1 h2 =>
      hh.upd hb hf rfl rfl rfl (by simp) (fun k hk _ => by show (w.heap.setIfInBounds _ _)[k]? = _; rw [Array.getElem?_setIfInBounds, if_neg (Ne.symm hk)])
        ⟨ms', clk', by show (w.heap.setIfInBounds _ _)[l.B]? = _; rw [Array.getElem?_setIfInBounds, if_pos rfl, if_pos hBlt], h1, h2⟩
    have head : ∀ (s : Sem Unit) (w' : World), (do
        match ← Instr.findKey kt uk ms.toList with
        | some (i, _) => do
          let key ← Instr.keyThatStays (((ms[i]?).map (·.key)).getD uk) uk
          setObj l.B (.map (ms.modify i fun e => { e with key, val := uv }) clk)
        | none => setObj l.B (.map (ms.push { key := uk, val := uv, born := clk }) (clk + 1)) : Sem Unit).run P w = .ok () w' →
        (Instr.mapUpdate t (.map (some l.B)) uk uv).run P w = .ok () w' := by
      intro s w' hs
      unfold Instr.mapUpdate
      refine run_bind' (run_underlying' (mapT_some hmt) w) ?_
      simp only
      refine run_bind' (run_getObj_map' hw) ?_
      simp only
      exact run_bind' (run_checkKey false 10000 kt k uk hk hok) hs
    cases fnd with
    | none =>
      cases q with
      | some _ => exact hrq.elim
      | none =>
        simp only [Option.some.injEq, Prod.mk.injEq] at hr
        obtain ⟨rfl, rfl, rfl⟩ := hr
        refine ⟨_, head (pure ()) _ (run_bind' hq (setObj_map hw _)), rfl, fin _ _ _ (by simp [hsz]) fun i a c m h1 h2 => ?_⟩
        rw [Array.getElem?_push] at h2
        by_cases hi : i = ms.size
        · rw [if_pos hi] at h2; injection h2 with h2; subst h2
          rw [List.getElem?_append_right (by omega)] at h1
          have : i - es2.length = 0 := by omega
          rw [this] at h1; simp at h1
          obtain ⟨rfl, rfl⟩ := h1
          exact ⟨hk, hv⟩
        · rw [if_neg hi] at h2
          have hlt := (Array.getElem?_eq_some_iff.1 h2).1
          rw [List.getElem?_append_left (by omega)] at h1
          exact hent i a c m h1 h2
    | some p =>
      obtain ⟨i, x⟩ := p
      cases q with
      | none => exact hrq.elim
      | some q =>
        obtain ⟨j, ux⟩ := q
        obtain ⟨rfl, _⟩ := hrq
        simp only [Option.bind_eq_some_iff] at hr
        obtain ⟨pe, hpe, hr⟩ := hr
        split at hr
        · rename_i hsame
          simp only [Option.some.injEq, Prod.mk.injEq] at hr
          obtain ⟨rfl, rfl, rfl⟩ := hr
          have hil : i < ms.size := by have := (List.getElem?_eq_some_iff.1 hpe).1; omega
          have hme : ms[i]? = some ms[i] := Array.getElem?_eq_getElem hil
          obtain ⟨k0, v0⟩ := pe
          have hk0 := (hent i k0 v0 _ hpe hme).1
          have hst : (Instr.keyThatStays (((ms[i]?).map (·.key)).getD uk) uk).run P w = .ok uk w := by
            unfold Instr.keyThatStays
            rw [hme]
            simp only [Option.map_some, Option.getD_some]
            rw [if_pos (sameK_bits hk0 hk hsame)]; rfl
          refine ⟨_, head (pure ()) _ (run_bind' hq (run_bind' hst (setObj_map hw _))), rfl, fin _ _ _ (by simp [hsz]) fun n a c m h1 h2 => ?_⟩
          rw [Array.getElem?_modify] at h2
          rw [List.getElem?_set] at h1
          by_cases hn : i = n
          · subst hn
            rw [if_pos rfl] at h1 h2
            split at h1
            · rw [hme] at h2
              simp only [Option.map_some, Option.some.injEq] at h2
              injection h1 with h1; injection h1 with e1 e2; subst e1 e2 h2
              exact ⟨hk, hv⟩
            · cases h1
          · rw [if_neg hn] at h1 h2
            exact hent n a c m h1 h2
        · cases hr
  | _ => simp at hr

/-! append -/

theorem fitsS_all {es : List (List AV)} {s : Nat} {a : Addr} (h : SliceAt Z φ w a es) (hf : ¬ fitsS es s = false) : ∀ e ∈ es, e.length = s := by
  rcases h with rfl | ⟨B, off, s', rfl, h⟩
  · intro e he; simp at he
  · intro e he
    cases es with
    | nil => simp at he
    | cons e0 es =>
      simp only [fitsS, beq_eq_false_iff_ne, ne_eq, Decidable.not_not] at hf
      obtain ⟨i, hi, hie⟩ := List.mem_iff_getElem.1 he
      have h1 := (h 0 e0 rfl).1
      have h2 := (h i e (by rw [List.getElem?_eq_getElem hi, hie])).1
      omega
theorem sliceAt_one {es : List (List AV)} {a : Addr} (h : SliceAt Z φ w a es) : ∀ e ∈ es, e.all oneC = true := by
  rcases h with rfl | ⟨B, off, s', rfl, h⟩
  · intro e he; simp at he
  · intro e he
    obtain ⟨i, hi, hie⟩ := List.mem_iff_getElem.1 he
    exact (h i e (by rw [List.getElem?_eq_getElem hi, hie])).2.1

theorem flat_append {s : Nat} {es fs : List (List AV)} {us vs : List Value} (h1 : Flat Z φ s es us) (h2 : Flat Z φ s fs vs) : Flat Z φ s (es ++ fs) (us ++ vs) := by
  obtain ⟨a1, a2, a3⟩ := h1
  obtain ⟨b1, b2, b3⟩ := h2
  refine ⟨by simp [a1, b1, Nat.add_mul], fun u hu => by rcases List.mem_append.1 hu with h | h <;> first | exact a2 u h | exact b2 u h, fun i e hi => ?_⟩
  by_cases hlt : i < es.length
  · rw [List.getElem?_append_left hlt] at hi
    obtain ⟨c1, c2⟩ := a3 i e hi
    refine ⟨c1, fun j v hj => ?_⟩
    obtain ⟨u, hu, hr⟩ := c2 j v hj
    exact ⟨u, by rw [List.getElem?_append_left (List.getElem?_eq_some_iff.1 hu).1]; exact hu, hr⟩
  · rw [List.getElem?_append_right (by omega)] at hi
    obtain ⟨c1, c2⟩ := b3 _ e hi
    refine ⟨c1, fun j v hj => ?_⟩
    obtain ⟨u, hu, hr⟩ := c2 j v hj
    refine ⟨u, ?_, hr⟩
    have hle : es.length * s ≤ i * s := Nat.mul_le_mul_right _ (by omega)
    rw [List.getElem?_append_right (by omega), a1, ← hu]
    congr 1
    rw [Nat.sub_mul]; omega

/-- A row made of known elements. -/
theorem row_flat (hh : HRel base w0 Z φ H nx w) {e : TypeId} {s n : Nat} {es : List (List AV)} {us : List Value} {rest : Array Value} (hfl : Flat Z φ s es us) (hone : ∀ el ∈ es, el.all oneC = true)
    (hrest : rest.size = n * s) {w1 : World} (hw1 : w1 = w ∨ w1 = w.drew) :
    HRel base w0 Z (φ.set nx ⟨w.heap.size, 0, s, es.length + n⟩) (H.set nx (.row s es)) (nx + 1) (w1.alloc (.cells (us.toArray ++ rest) e)) := by
  have hh1 : HRel base w0 Z φ H nx w1 := by rcases hw1 with rfl | rfl <;> first | exact hh | exact hh.drew
  have hs1 : w1.heap.size = w.heap.size := by rcases hw1 with rfl | rfl <;> rfl
  have := row_new (e := e) (lim := es.length + n) (fz := (0, 0)) (c := us.toArray ++ rest) hh1 (Nat.le_add_right _ _) (by simp [hfl.1, hrest, Nat.add_mul]) (fun x _ => by simp) (fun i el hi => ⟨(hfl.2.2 i el hi).1, hone el (List.mem_of_getElem? hi), fun j v hj => by
    obtain ⟨u, hu, hr⟩ := (hfl.2.2 i el hi).2 j v hj
    exact ⟨u, by rw [Array.getElem?_append_left (by simpa using (List.getElem?_eq_some_iff.1 hu).1)]; simpa using hu, hr⟩⟩)
  rw [hs1] at this
  exact this

theorem fitsA_some {e : TypeId} {s n : Nat} (h : fitsA P e s n = some ()) : ∃ i z, P.info? e = some i ∧ i.size = s ∧ i.zero = some z ∧ z.cells.size = s ∧ n * i.bytes ≤ 140737488355328 ∧ n ≤ maxLen := by
  unfold fitsA at h
  simp only [Option.bind_eq_bind, Option.bind_eq_some_iff] at h
  obtain ⟨s', hs, by_, hby, z, hz, h⟩ := h
  split at h
  · rename_i hc
    obtain ⟨h1, h2, h3, h4⟩ := hc
    obtain ⟨i, hi, hib, his⟩ := bytesOf_info hby hs
    subst hib his
    unfold zeroCellsOf zeroOf at hz
    simp only [Option.bind_eq_some_iff, Option.map_eq_some_iff] at hz
    obtain ⟨a, ⟨v, ⟨i', hi', hv⟩, rfl⟩, hz⟩ := hz
    rw [hi] at hi'; injection hi' with hi'; subst hi'
    refine ⟨i, v, hi, h1, hv, ?_, h3, h4⟩
    have := (rep_cells hz (rep_lift (fun _ => none) (fun _ => none) v)).1.1
    omega
  · cases h

/-- The cells of a row behind a write of whole elements. -/
theorem cells_after {c : Array Value} {es news : List (List AV)} {vs : List Value} {ob s k : Nat}
    (hes : ∀ (i : Nat) (e : List AV), es[i]? = some e → e.length = s ∧ e.all oneC = true ∧ ∀ (j : Nat) (v : AV), e[j]? = some v → ∃ u, c[ob + i * s + j]? = some u ∧ Rep Z φ v u)
    (hfv : Flat Z φ s news vs) (hone : ∀ el ∈ news, el.all oneC = true) (hsz : ob + (k + news.length) * s ≤ c.size) {i : Nat} {el : List AV}
    (h : ((i < k ∨ k + news.length ≤ i) ∧ es[i]? = some el) ∨ (k ≤ i ∧ news[i - k]? = some el)) :
    el.length = s ∧ el.all oneC = true ∧ ∀ (j : Nat) (v : AV), el[j]? = some v → ∃ u, (foldSet c (ob + k * s) vs)[ob + i * s + j]? = some u ∧ Rep Z φ v u := by
  rcases h with ⟨hik, hi⟩ | ⟨hki, hi⟩
  · obtain ⟨h1, h2, h3⟩ := hes i el hi
    refine ⟨h1, h2, fun j v hj => ?_⟩
    have hjl : j < s := by have := (List.getElem?_eq_some_iff.1 hj).1; omega
    rw [foldSet_get, if_neg]
    · exact h3 j v hj
    · intro hx
      rw [hfv.1] at hx
      rcases hik with hlt | hge
      · have : (i + 1) * s ≤ k * s := Nat.mul_le_mul_right _ hlt
        rw [Nat.add_mul, Nat.one_mul] at this; omega
      · have : (k + news.length) * s ≤ i * s := Nat.mul_le_mul_right _ hge
        rw [Nat.add_mul] at this; omega
  · obtain ⟨h1, h2⟩ := hfv.2.2 _ el hi
    refine ⟨h1, hone el (List.mem_of_getElem? hi), fun j v hj => ?_⟩
    obtain ⟨u, hu, hr⟩ := h2 j v hj
    have hjl : j < s := by have := (List.getElem?_eq_some_iff.1 hj).1; omega
    have hul := (List.getElem?_eq_some_iff.1 hu).1
    have hks : k * s ≤ i * s := Nat.mul_le_mul_right _ hki
    have hil : i - k < news.length := (List.getElem?_eq_some_iff.1 hi).1
    have hin : (i + 1) * s ≤ (k + news.length) * s := Nat.mul_le_mul_right _ (by omega)
    rw [Nat.add_mul, Nat.one_mul] at hin
    refine ⟨u, ?_, hr⟩
    rw [Nat.sub_mul] at hu hul
    rw [foldSet_get, if_pos ⟨by omega, by omega, by omega⟩, ← hu]
    congr 1; omega

theorem sub_del_set (H : Heap) (b c : Nat) (x : Blk) : Sub ((H.del b).set c x) (H.set c x) := by
  intro d y hd
  rw [Heap.get_set] at hd ⊢
  by_cases e : d = c
  · rw [if_pos e] at hd ⊢; exact hd
  · rw [if_neg e] at hd ⊢
    rw [Heap.get_del] at hd
    split at hd
    · cases hd
    · exact hd

theorem sound_append (hh : HRel base w0 Z φ H nx w) {t ty : TypeId} {x y r : AV} {ux uy : Value} {H' : Heap} {nx' : Nat} (hx : Rep Z φ x ux) (hy : Rep Z φ y uy) (hr : aappend P t x y H nx = some (r, H', nx')) :
    ValOk base w0 Z φ r H' nx' ((Builtin.append_ #[t, t] ty #[ux, uy]).run P w) := by
  have hr0 := hr
  unfold aappend at hr
  simp only [Option.bind_eq_bind, Option.bind_eq_some_iff] at hr
  obtain ⟨e, he, s, hs, news, hnews, hr⟩ := hr
  have hu := sliceElem_some he
  have hsame := hh.elems hy hnews
  split at hr
  · cases hr
  rename_i hfit
  obtain ⟨i, hi, hcz⟩ := szOf_info hs
  have hiz : i.size = s := by unfold szOf at hs; simp [hi] at hs; exact hs
  split at hr
  · rename_i hnil
    subst hnil
    -- nothing is appended
    have hn : ∀ (ao : Option Addr) (n c : Nat), n ≤ c → (Builtin.append_ #[t, t] ty #[.slice ao n c, uy]).run P w = .ok (.slice ao n c) w := by
      intro ao n c hnc
      have hlo : ∃ bo cc, uy = .slice bo 0 cc := by
        rcases hsame with ⟨rfl, _⟩ | ⟨a, c2, rfl, _, _⟩
        · exact ⟨_, _, rfl⟩
        · exact ⟨_, _, rfl⟩
      obtain ⟨bo, cc, rfl⟩ := hlo
      cases bo <;> cases ao <;> simp [Builtin.append_, run_underlying' hu, sizeOf, typeInfo, hi, Builtin.lenOf, hnc, Builtin.firstCells, loadCells, loadCellsFrom, storeCells, Sem.run_bind, go_sem]
    cases hx <;> simp at hr
    · obtain ⟨rfl, rfl, rfl⟩ := hr
      exact ⟨_, w, Z, φ, hn none 0 0 (Nat.le_refl _), .nils, ZLe.refl _, PLe.refl _, hh⟩
    · obtain ⟨rfl, rfl, rfl⟩ := hr
      exact ⟨_, w, Z, φ, hn _ 0 0 (Nat.le_refl _), .emp _, ZLe.refl _, PLe.refl _, hh⟩
    · rename_i hf hls hc hl hm ha
      obtain ⟨rfl, rfl, rfl⟩ := hr
      exact ⟨_, w, Z, φ, hn _ _ _ hl, .sl hf hls hc hl hm ha, ZLe.refl _, PLe.refl _, hh⟩
    · rename_i us hn' hc ha h0 h1 h2
      obtain ⟨rfl, rfl, rfl⟩ := hr
      exact ⟨_, w, Z, φ, hn _ _ _ hc, .rs us hn' hc ha h0 h1 h2, ZLe.refl _, PLe.refl _, hh⟩
    · rename_i hc
      obtain ⟨rfl, rfl, rfl⟩ := hr
      exact ⟨_, w, Z, φ, hn _ _ _ (Nat.le_refl _), .sl0n hc, ZLe.refl _, PLe.refl _, hh⟩
    · rename_i hc a
      obtain ⟨rfl, rfl, rfl⟩ := hr
      exact ⟨_, w, Z, φ, hn _ _ _ (Nat.le_refl _), .sl0s hc a, ZLe.refl _, PLe.refl _, hh⟩
    · rename_i hx
      obtain ⟨rfl, rfl, rfl⟩ := hr
      have hle : ∀ {v : Value} {zs : List (List AV)}, Rep Z φ (.rs zs) v → ∀ ao n c, v = .slice ao n c → n ≤ c := by
        intro v zs h ao n c hv
        subst hv
        cases h with
        | rs us hn' hc ha h0 h1 h2 => exact hc
        | rs0 => exact Nat.le_refl _
      exact ⟨_, w, Z, φ, hn _ _ _ (hle hx _ _ _ rfl), .rl hx, ZLe.refl _, PLe.refl _, hh⟩
    · obtain ⟨rfl, rfl, rfl⟩ := hr
      exact ⟨_, w, Z, φ, hn none 0 0 (Nat.le_refl _), .rs0, ZLe.refl _, PLe.refl _, hh⟩
  rename_i hne
  -- the source
  rcases hsame with ⟨rfl, h0⟩ | ⟨ay, cy, rfl, hcy, hay⟩
  · exact absurd h0 hne
  obtain ⟨vs, hfv, hvs⟩ := hay.flat (fitsS_all hay hfit)
  have hone := sliceAt_one hay
  have hnpos : 0 < news.length := List.length_pos_iff.2 hne
  have grow : ∀ (b : Addr) (n cap : Nat) (olds : List (List AV)) (us : List Value), olds.length = n → Flat Z φ s olds us → (∀ el ∈ olds, el.all oneC = true) → (∀ j u, us[j]? = some u → w.cell? (b.add j) = some u) → cap < n + news.length →
      fitsA P e s (n + news.length) = some () →
      ValOk base w0 Z φ (.sl nx s 0 (n + news.length) none) (H.set nx (.row s (olds ++ news))) (nx + 1) ((Builtin.append_ #[t, t] ty #[.slice (some b) n cap, .slice (some ay) news.length cy]).run P w) := by
    intro b n cap olds us hn hfo hoo huc hcap hfits
    obtain ⟨i', z, hi', hsz, hz, hzs, hby, hml⟩ := fitsA_some hfits
    rw [hi] at hi'; injection hi' with hi'; subst hi'
    have hl1 : us.length = n * i.size := by rw [hfo.1, hn, hsz]
    have hl2 : vs.length = news.length * i.size := by rw [hfv.1, hsz]
    have hrun := run_append_grow (P := P) w t ty e i z hu hi hz b n cap us hl1 huc ay news.length cy vs hl2 hvs hcap (by unfold maxLen at hml; omega) (growslice_fits hcap hby)
    have hge := grownCap_ge w (n + news.length) cap e
    have hrow := row_flat (e := e) (n := grownCap w (n + news.length) cap e - (n + news.length)) (rest := Builtin.zeroCells z.cells (grownCap w (n + news.length) cap e - (n + news.length))) hh (flat_append hfo hfv) (fun el hel => by rcases List.mem_append.1 hel with h | h <;> first | exact hoo el h | exact hone el h) (by simp [Builtin.zeroCells, hzs]) (.inr rfl)
    have e1 : (us.toArray ++ vs.toArray : Array Value) = (us ++ vs).toArray := by simp
    rw [e1] at hrun
    refine ⟨_, _, Z, _, hrun, ?_, ZLe.refl _, PMap.le_set (hh.fresh (Nat.le_refl _)), hrow⟩
    exact .sl (PMap.set_self _ _ _) rfl hge (by omega) (by simp; omega) (.inl (by simp))
  have fromNil : fitsA P e s news.length = some () → ValOk base w0 Z φ (.sl nx s 0 news.length none) (H.set nx (.row s news)) (nx + 1) ((Builtin.append_ #[t, t] ty #[.slice none 0 0, .slice (some ay) news.length cy]).run P w) := by
    intro hfits
    obtain ⟨i', z, hi', hsz, hz, hzs, hby, hml⟩ := fitsA_some hfits
    rw [hi] at hi'; injection hi' with hi'; subst hi'
    have hl2 : vs.length = news.length * i.size := by rw [hfv.1, hsz]
    have hrun := run_append_nil (P := P) w t ty e i z hu hi hz ay news.length cy vs hl2 hvs hnpos (by unfold maxLen at hml; omega) (by omega)
    have hge := grownCap_ge w news.length 0 e
    have hrow := row_flat (e := e) (n := grownCap w news.length 0 e - news.length) (rest := Builtin.zeroCells z.cells (grownCap w news.length 0 e - news.length)) hh hfv hone (by simp [Builtin.zeroCells, hzs]) (.inr rfl)
    refine ⟨_, _, Z, _, hrun, ?_, ZLe.refl _, PMap.le_set (hh.fresh (Nat.le_refl _)), hrow⟩
    exact .sl (PMap.set_self _ _ _) rfl hge (by omega) (by simp; omega) (.inl (by simp))
  have fromEmp : ∀ b : Addr, fitsA P e s news.length = some () → ValOk base w0 Z φ (.sl nx s 0 news.length none) (H.set nx (.row s news)) (nx + 1) ((Builtin.append_ #[t, t] ty #[.slice (some b) 0 0, .slice (some ay) news.length cy]).run P w) := by
    intro b hfits
    have := grow b 0 0 [] [] rfl (flat_nil s) (fun el h => by simp at h) (fun j u h => by simp at h) (by omega) (by simpa using hfits)
    simpa using this
  have zero : ∀ (v : Value) (b off s' : Nat) (cap : Option Nat), (v = .slice none 0 0 ∨ ∃ a, v = .slice (some a) 0 0) → capOk cap 0 0 → aappend P t (.sl b s' off 0 cap) y H nx = some (r, H', nx') →
      ValOk base w0 Z φ r H' nx' ((Builtin.append_ #[t, t] ty #[v, .slice (some ay) news.length cy]).run P w) := by
    intro v b off s' cap hv hc hr
    unfold aappend at hr
    simp only [he, hs, hnews, Option.bind_eq_bind, Option.bind_some] at hr
    rw [if_neg hfit, if_neg hne] at hr
    split at hr
    · cases hr
    simp only [Option.bind_eq_some_iff] at hr
    obtain ⟨blk, hb, ⟨s3, es⟩, hrow, hr⟩ := hr
    simp only at hr
    split at hr
    · cases hr
    have both : fitsA P e s news.length = some () → ValOk base w0 Z φ (.sl nx s 0 news.length none) (H.set nx (.row s news)) (nx + 1) ((Builtin.append_ #[t, t] ty #[v, .slice (some ay) news.length cy]).run P w) := fun hfits => by
      rcases hv with rfl | ⟨a, rfl⟩
      · exact fromNil hfits
      · exact fromEmp a hfits
    split at hr
    · rename_i k
      have hk : 0 = k := hc
      rw [if_neg (by omega)] at hr
      simp only [Option.bind_eq_some_iff, Option.some.injEq, Prod.mk.injEq, Nat.zero_add, List.take_zero, List.nil_append] at hr
      obtain ⟨_, hfits, rfl, rfl, rfl⟩ := hr
      exact both hfits
    · simp only [Option.bind_eq_some_iff, Option.some.injEq, Prod.mk.injEq, Nat.zero_add, List.take_zero, List.nil_append] at hr
      obtain ⟨_, hfits, rfl, rfl, rfl⟩ := hr
      obtain ⟨v, w', Z', φ', g1, g2, g3, g4, g5⟩ := both hfits
      exact ⟨v, w', Z', φ', g1, g2, g3, g4, g5.sub (sub_del_set H b nx _)⟩
  cases hx with
  | nils =>
    simp only [Option.bind_eq_some_iff, Option.some.injEq, Prod.mk.injEq] at hr
    obtain ⟨_, hfits, rfl, rfl, rfl⟩ := hr
    exact fromNil hfits
  | sl0n hc => exact zero _ _ _ _ _ (.inl rfl) hc hr0
  | sl0s hc a => exact zero _ _ _ _ _ (.inr ⟨_, rfl⟩) hc hr0
  | emp b =>
    simp only [Option.bind_eq_some_iff, Option.some.injEq, Prod.mk.injEq] at hr
    obtain ⟨_, hfits, rfl, rfl, rfl⟩ := hr
    exact fromEmp b hfits
  | sl hf hls hc hl hm ha =>
    rename_i b s' off len c l cap a
    simp only at hr
    split at hr
    · cases hr
    rename_i hss
    have hss : s' = s := by simpa using hss
    subst hss
    simp only [Option.bind_eq_some_iff] at hr
    obtain ⟨blk, hb, ⟨s3, es⟩, hrow, hr⟩ := hr
    have hes4 : ∃ es4, es4 = es := ⟨es, rfl⟩
    obtain ⟨es4, hes4⟩ := hes4
    subst hes4
    simp only at hr
    split at hr
    · cases hr
    rename_i hlen
    have hlen : off + len ≤ es4.length := by simpa using hlen
    have hels : elems H (.sl b s' off len cap) = some ((es4.drop off).take len) := by
      simp [Lom.elems, hb, hrow, hlen]
    have hxr : Rep Z φ (.sl b s' off len cap) (.slice (some a) len c) := .sl hf hls hc hl hm ha
    have hol : ((es4.drop off).take len).length = len := by simp; omega
    rcases hh.elems hxr hels with ⟨h1, _⟩ | ⟨a2, c2, h1, _, hsl⟩
    · cases h1
    have ha2 : a2 = a := by injection h1 with h1; injection h1 with h1; exact h1.symm
    subst ha2
    obtain ⟨hz2, hss2, hlim, cc, T, fz, hw, hsz, hfz, hes⟩ := hh.rowOf hb hrow hf
    have hs4 : s3 = s' := by rw [hss2]; exact hls
    subst hs4
    have hlens : ∀ el ∈ (es4.drop off).take len, el.length = s3 := by
      intro el hel
      have hel2 : el ∈ es4 := List.mem_of_mem_drop (List.mem_of_mem_take hel)
      obtain ⟨k, hk, hke⟩ := List.mem_iff_getElem.1 hel2
      exact (hh.cellsAt' hb hrow (by rw [List.getElem?_eq_getElem hk, hke]) hf).2.1
    obtain ⟨us, hfu, husc⟩ := hsl.flat hlens
    have honeo := sliceAt_one hsl
    have hnl : vs.length = news.length * i.size := by rw [hfv.1, hiz]
    -- the arm with room
    have room : len + news.length ≤ c → (∀ u ∈ vs, u.oneCell' = true) → l.ob + (off + len + news.length) * s3 ≤ cc.size ∧ a2 = ⟨l.B, l.ob + off * s3, none⟩ ∧
        (Builtin.append_ #[t, t] ty #[.slice (some a2) len c, .slice (some ay) news.length cy]).run P w = .ok (.slice (some a2) (len + news.length) c) (w.setCells l.B (l.ob + (off + len) * s3) vs) := by
      intro hroom hov
      have hin : (off + len + news.length) * l.s ≤ l.lim * l.s := Nat.mul_le_mul_right _ (by omega)
      have hin2 : (off + len + news.length) * l.s = (off + len) * l.s + news.length * l.s := by rw [Nat.add_mul]
      have haa : a2 = ⟨l.B, l.ob + off * s3, none⟩ := by rcases ha with h | h; · exact h
                                                         · omega
      refine ⟨by rw [← hls]; omega, haa, ?_⟩
      subst haa
      have e1 : l.ob + off * s3 + len * i.size = l.ob + (off + len) * s3 := by rw [hiz, Nat.add_mul]; omega
      have := run_append_room_cells (P := P) w t ty e i hu hi l.B (l.ob + off * s3) len c ay news.length cy vs hnl hvs hov hroom (fun j hj => by
        rw [e1]
        simp only [World.cell?, hw]
        have : l.ob + (off + len) * s3 + j < cc.size := by rw [hnl, hiz] at hj; rw [← hls] at hj ⊢; omega
        simp [this]) (fun j hj => by
        rw [e1]
        simp only [World.frozen?, hw]
        have := hfz (l.ob + (off + len) * s3 + j) (by rw [hnl, hiz] at hj; rw [← hls] at hj ⊢; omega)
        simpa using this)
      rw [e1] at this
      exact this
    obtain ⟨q1, q2, q3, q4⟩ := setCells_rest vs w l.B (l.ob + (off + len) * s3)
    have hcells : l.ob + (off + len + news.length) * s3 ≤ cc.size → ∀ (k : Nat) (el : List AV), ((k < off + len ∨ off + len + news.length ≤ k) ∧ es4[k]? = some el) ∨ (off + len ≤ k ∧ news[k - (off + len)]? = some el) →
        el.length = l.s ∧ el.all oneC = true ∧ ∀ (j : Nat) (v : AV), el[j]? = some v → ∃ u, (foldSet cc (l.ob + (off + len) * s3) vs)[l.ob + k * l.s + j]? = some u ∧ Rep Z φ v u := by
      intro hsz2 k el hk
      have hfv' : Flat Z φ l.s news vs := by rw [hls]; exact hfv
      have := cells_after (k := off + len) hes hfv' hone (by rw [hls]; exact hsz2) hk
      rw [hls] at this ⊢
      exact this
    split at hr
    · rename_i k
      have hck : c = k := hc
      subst hck
      split at hr
      · rename_i hroom
        split at hr
        · rename_i hin
          simp only [Option.some.injEq, Prod.mk.injEq] at hr
          obtain ⟨rfl, rfl, rfl⟩ := hr
          obtain ⟨hsz2, haa, hrun⟩ := room hroom hfv.2.1
          refine ⟨_, _, Z, φ, hrun, .sl hf hls hc hroom hm ha, ZLe.refl _, PLe.refl _, hh.upd hb hf q1 q2 q3 (by omega) (fun k hk _ => setCells_other vs w _ _ k hk)
            ⟨hss2, ?_, _, T, fz, setCells_block vs w _ _ cc T fz hw, by rw [foldSet_size]; exact hsz, by rw [foldSet_size]; exact hfz, fun k el hk => hcells hsz2 k el ?_⟩⟩
          · simp; omega
          · rw [List.append_assoc] at hk
            by_cases h1 : k < off + len
            · rw [List.getElem?_append_left (by simp; omega), List.getElem?_take, if_pos h1] at hk
              exact .inl ⟨.inl h1, hk⟩
            · rw [List.getElem?_append_right (by simp; omega)] at hk
              have e3 : k - (es4.take (off + len)).length = k - (off + len) := by simp; omega
              rw [e3] at hk
              by_cases h2 : k - (off + len) < news.length
              · rw [List.getElem?_append_left h2] at hk
                exact .inr ⟨by omega, hk⟩
              · rw [List.getElem?_append_right (by omega), List.getElem?_drop] at hk
                have e4 : off + len + news.length + (k - (off + len) - news.length) = k := by omega
                rw [e4] at hk
                exact .inl ⟨.inr (by omega), hk⟩
        · cases hr
      · rename_i hroom
        simp only [Option.bind_eq_some_iff, Option.some.injEq, Prod.mk.injEq] at hr
        obtain ⟨_, hfits, rfl, rfl, rfl⟩ := hr
        exact grow a2 len c _ us hol hfu honeo husc (by omega) hfits
    · simp only [Option.bind_eq_some_iff, Option.some.injEq, Prod.mk.injEq] at hr
      obtain ⟨_, hfits, rfl, rfl, rfl⟩ := hr
      by_cases hroom : len + news.length ≤ c
      · obtain ⟨hsz2, haa, hrun⟩ := room hroom hfv.2.1
        subst haa
        have hadopt := hh.adopt (c := nx) (Nat.le_refl _) (x' := .row s3 ((es4.drop off).take len ++ news)) (l' := ⟨l.B, l.ob + off * s3, s3, l.lim - off⟩) hb hf (w' := w.setCells l.B (l.ob + (off + len) * s3) vs) rfl q1 q2 q3 (by omega) (fun k hk _ => setCells_other vs w _ _ k hk)
          ⟨rfl, by simp; omega, _, T, fz, setCells_block vs w _ _ cc T fz hw, by
            rw [foldSet_size]
            have : off * s3 + (l.lim - off) * s3 = l.lim * s3 := by rw [← Nat.add_mul]; congr 1; omega
            rw [hls] at hsz
            simp only; omega, by rw [foldSet_size]; exact hfz, fun k el hk => by
            have hk2 : ((off + k < off + len ∨ off + len + news.length ≤ off + k) ∧ es4[off + k]? = some el) ∨ (off + len ≤ off + k ∧ news[off + k - (off + len)]? = some el) := by
              by_cases h1 : k < len
              · rw [List.getElem?_append_left (by omega), List.getElem?_take, if_pos h1, List.getElem?_drop] at hk
                exact .inl ⟨.inl (by omega), hk⟩
              · rw [List.getElem?_append_right (by omega), hol] at hk
                refine .inr ⟨by omega, ?_⟩
                have : off + k - (off + len) = k - len := by omega
                rw [this]; exact hk
            obtain ⟨g1, g2, g3⟩ := hcells hsz2 (off + k) el hk2
            rw [hls] at g1 g3
            refine ⟨g1, g2, fun j v hj => ?_⟩
            obtain ⟨u, hu', hr'⟩ := g3 j v hj
            refine ⟨u, ?_, hr'.mono (ZLe.refl _) (PMap.le_set (hh.fresh (Nat.le_refl _)))⟩
            rw [← hu']
            congr 1
            rw [Nat.add_mul]; simp only; omega⟩
        refine ⟨_, _, Z, _, hrun, ?_, ZLe.refl _, PMap.le_set (hh.fresh (Nat.le_refl _)), hadopt⟩
        exact .sl (PMap.set_self _ _ _) rfl hroom hroom (by simp; omega) (.inl (by simp))
      · obtain ⟨v, w', Z', φ', g1, g2, g3, g4, g5⟩ := grow a2 len c _ us hol hfu honeo husc (by omega) hfits
        exact ⟨v, w', Z', φ', g1, g2, g3, g4, g5.sub (sub_del_set H b nx _)⟩
  | _ => simp at hr

theorem repP_ev {F : Fr} {a : Act} (hF : FrRel Z φ F a.tmps) (ps : Array (Nat × Operand)) : ∀ (i : Nat) (p : Nat × AV) (q : Nat × Value), (ps.toList.map fun p => (p.1, ev F p.2))[i]? = some p → (ps.map fun (i, x) => (i, a.eval x))[i]? = some q → p.1 = q.1 ∧ Rep Z φ p.2 q.2 := by
  intro i p q h1 h2
  rw [List.getElem?_map] at h1
  rw [Array.getElem?_map] at h2
  cases hp : ps[i]? with
  | none => simp [hp] at h2
  | some y => simp [hp] at h1 h2; subst h1 h2; exact ⟨rfl, rep_ev hF _⟩

theorem outUnit {r : AV} {H' : Heap} {nx' : Nat} {s : Sem Unit} (h : ∃ w', s.run P w = .ok () w' ∧ r = .undef ∧ HRel base w0 Z φ H' nx' w') : OutOk base w0 Z φ r H' nx' ((do s; pure Next.skip : Sem Next).run P w) := by
  obtain ⟨w', h1, h2, h3⟩ := h
  exact ⟨.skip, w', Z, φ, run_bind' h1 rfl, .inr ⟨rfl, h2⟩, ZLe.refl _, PLe.refl _, h3⟩

/-- An operation that makes or writes memory does what 'ae' says. -/
theorem sound_e (hh : HRel base w0 Z φ H nx w) {F : Fr} {a : Act} (hF : FrRel Z φ F a.tmps) {o : Oper} {r : AV} {H' : Heap} {nx' : Nat} (hr : ae P o.op F H nx = some (r, H', nx')) :
    OutOk base w0 Z φ r H' nx' ((execOp a.eval o).run P w) := by
  obtain ⟨d, op, t, p, af, g⟩ := o
  simp only at hr
  cases op <;> simp only [ae] at hr <;> try (cases hr; done)
  case alloc t => exact (sound_alloc hh hr).out
  case box t x => exact (sound_box hh (rep_ev hF x) hr).out
  case buildSlice t len ps => exact (sound_buildSlice hh (by simp) (repP_ev hF ps) hr).out
  case store t x v => exact outUnit (sound_store hh (rep_ev hF x) (rep_ev hF v) hr)
  case makeMap t x => exact (sound_makeMap hh (repO_ev hF x) hr).out
  case makeSlice t l c => exact (sound_makeSlice hh (rep_ev hF l) (rep_ev hF c) hr).out
  case mapUpdate t m k v => exact outUnit (sound_mapUpdate hh (rep_ev hF m) (rep_ev hF k) (rep_ev hF v) hr)
  case insert t m k v => exact outUnit (sound_mapUpdate hh (rep_ev hF m) (rep_ev hF k) (rep_ev hF v) hr)
  case call c =>
    obtain ⟨callee, args, argTypes⟩ := c
    unfold aecall at hr
    split at hr
    · rename_i hcal
      simp only at hcal
      subst hcal
      split at hr
      · rename_i x y t1 t2 hx ht
        simp only at hx ht
        have e1 : args = #[x, y] := by apply Array.ext'; simpa using hx
        have e2 : argTypes = #[t1, t2] := by apply Array.ext'; simpa using ht
        subst e1 e2
        split at hr
        · rename_i htt
          subst htt
          have hv := sound_append (ty := t) hh (rep_ev hF x) (rep_ev hF y) hr
          obtain ⟨v, w', Z', φ', h1, h2, h3, h4, h5⟩ := hv
          refine ⟨.value v, w', Z', φ', ?_, .inl ⟨v, rfl, h2⟩, h3, h4, h5⟩
          refine run_builtin fun _ => ?_
          rw [show (#[x, y] : Array Operand).map a.eval = #[a.eval x, a.eval y] from by simp]
          exact run_bind' h1 rfl
        · cases hr
      · cases hr
    · cases hr

end
end Go.Lom
