/- Stores, maps, made slices, append: sound. -/
import Derived.Test.YtnjaebjhfilljaaLomL
set_option linter.unusedSimpArgs false
set_option linter.unusedVariables false
namespace Go.Lom
open Go.RowKit

section
variable {P : Program} {base : Nat → Prop} {w0 : Start} {Z : ZMap} {φ : PMap} {H : Heap} {nx : Nat} {w : World}

/-- A row whose element is turned: the block behind the store. -/
theorem row_store (hh : HRel base w0 Z φ H nx w) {b i o : Nat} {s : Nat} {blk : Blk} {es : List (List AV)} {e cs : List AV} {us : List Value} {l : Loc} (hb : H.get b = some blk) (hrow : asRow blk = some (s, es)) (hf : φ b = some l) (hi : es[i]? = some e)
    (hl : us.length = cs.length) (h1 : ∀ u ∈ us, u.oneCell' = true) (hall : cs.all oneC = true) (hr : ∀ (j : Nat) (v : AV) (u : Value), cs[j]? = some v → us[j]? = some u → Rep Z φ v u) (ho : o + cs.length ≤ e.length) :
    (storeCells ⟨l.B, l.ob + i * l.s + o, none⟩ us).run P w = .ok () (w.setCells l.B (l.ob + i * l.s + o) us) ∧
    HRel base w0 Z φ (H.set b (.row s (es.set i (splice e o cs)))) nx (w.setCells l.B (l.ob + i * l.s + o) us) := by
  obtain ⟨hz, hs, hlim, c, T, fz, hw, hsz, hfz, he⟩ := hh.rowOf hb hrow hf
  obtain ⟨hel, heall, hec⟩ := he i e hi
  have hil : i < es.length := (List.getElem?_eq_some_iff.1 hi).1
  have hin : (i + 1) * l.s ≤ l.lim * l.s := Nat.mul_le_mul_right _ (by omega)
  rw [Nat.add_mul, Nat.one_mul] at hin
  obtain ⟨q1, q2, q3, q4⟩ := setCells_rest us w l.B (l.ob + i * l.s + o)
  refine ⟨hh.run_write hb hrow hf h1 (by omega) (by omega), hh.upd hb hf q1 q2 q3 (by omega) (fun k hk _ => setCells_other us w _ _ k hk) ?_⟩
  refine ⟨hs, by simpa using hlim, _, T, fz, setCells_block us w _ _ c T fz hw, by rw [foldSet_size]; exact hsz, by rw [foldSet_size]; exact hfz, fun k el hk => ?_⟩
  rw [List.getElem?_set] at hk
  by_cases hik : i = k
  · subst hik
    rw [if_pos rfl, if_pos hil] at hk
    injection hk with hk; subst hk
    refine ⟨by rw [splice_length]; exact hel, all_splice _ _ _ heall hall, fun j v hj => ?_⟩
    rw [splice_get] at hj
    rw [foldSet_get]
    by_cases hjo : o ≤ j ∧ j < o + cs.length ∧ j < e.length
    · rw [if_pos hjo] at hj
      rw [if_pos (by omega)]
      have : l.ob + i * l.s + j - (l.ob + i * l.s + o) = j - o := by omega
      rw [this]
      have hlt : j - o < us.length := by omega
      exact ⟨us[j - o], List.getElem?_eq_getElem hlt, hr _ v _ hj (List.getElem?_eq_getElem hlt)⟩
    · rw [if_neg hjo] at hj
      have hje : j < e.length := (List.getElem?_eq_some_iff.1 hj).1
      rw [if_neg (by omega)]
      exact hec j v hj
  · rw [if_neg hik] at hk
    obtain ⟨h2, h3, h4⟩ := he k el hk
    refine ⟨h2, h3, fun j v hj => ?_⟩
    have hjl : j < l.s := by have := (List.getElem?_eq_some_iff.1 hj).1; omega
    rw [foldSet_get, if_neg]
    · exact h4 j v hj
    · intro hx
      rcases Nat.lt_or_gt_of_ne hik with hlt | hgt
      · have : (i + 1) * l.s ≤ k * l.s := Nat.mul_le_mul_right _ hlt
        rw [Nat.add_mul, Nat.one_mul] at this; omega
      · have : (k + 1) * l.s ≤ i * l.s := Nat.mul_le_mul_right _ hgt
        rw [Nat.add_mul, Nat.one_mul] at this; omega

theorem oneCells {cs : List AV} {us : Array Value} (h : Reps Z φ cs us) (ho : cs.all oneC = true) : ∀ u ∈ us.toList, u.oneCell' = true := by
  intro u hu
  obtain ⟨j, hj, he⟩ := List.mem_iff_getElem.1 hu
  have hjl : j < cs.length := by have := h.1; simp at hj; omega
  exact oneCell_of (h.2 j cs[j] u (List.getElem?_eq_getElem hjl) (by simp at hj; simp at he; rw [Array.getElem?_eq_getElem hj, he])) (List.all_eq_true.1 ho _ (List.getElem_mem hjl))

theorem sound_store (hh : HRel base w0 Z φ H nx w) {t : TypeId} {x v r : AV} {ux uv : Value} {H' : Heap} {nx' : Nat} (hx : Rep Z φ x ux) (hv : Rep Z φ v uv) (hr : astore P t x v H nx = some (r, H', nx')) :
    ∃ w', (Instr.storeAt t ux uv).run P w = .ok () w' ∧ r = .undef ∧ HRel base w0 Z φ H' nx' w' := by
  unfold astore at hr
  cases hx with
  | ptr hf =>
    rename_i b i o l
    simp only [Option.bind_eq_bind, Option.bind_eq_some_iff] at hr
    obtain ⟨blk, hb, ⟨s, es⟩, hrow, e, he, cs, hcs, n, hn, hr⟩ := hr
    simp only at he hr
    split at hr
    · rename_i hc
      simp only [Option.some.injEq, Prod.mk.injEq] at hr
      obtain ⟨rfl, rfl, rfl⟩ := hr
      obtain ⟨hreps, hall⟩ := rep_cells hcs hv
      obtain ⟨g1, g2⟩ := row_store (P := P) (o := o) (cs := cs) (us := uv.cells.toList) hh hb hrow hf he (by simpa using hreps.1) (oneCells hreps hall) hall (fun j a u h1 h2 => hreps.2 j a u h1 (by simpa using h2)) (by omega)
      refine ⟨_, ?_, rfl, g2⟩
      unfold Instr.storeAt
      refine run_bind' (x := (⟨l.B, l.ob + i * l.s + o, none⟩ : Addr)) (w' := w) rfl ?_
      unfold storeVar
      refine run_bind' (run_szOf hn w) ?_
      rw [if_neg (by have := hreps.1; omega)]
      exact g1
    · cases hr
  | _ => simp at hr

theorem sound_makeMap (hh : HRel base w0 Z φ H nx w) {t : TypeId} {x : Option AV} {u : Option Value} {r : AV} {H' : Heap} {nx' : Nat} (hx : RepO Z φ x u) (hr : amakeMap P t x H nx = some (r, H', nx')) :
    ValOk base w0 Z φ r H' nx' ((Instr.makeMap t u).run P w) := by
  have fin : HRel base w0 Z (φ.set nx ⟨w.heap.size, 0, 0, 0⟩) (H.set nx (.mp [])) (nx + 1) (w.alloc (.map #[] 0)) :=
    hh.alloc (Nat.le_refl _) rfl ⟨#[], 0, heap_new w _, rfl, fun i k v m a => by simp at a⟩
  have rp := Rep.mp (Z := Z) (φ := φ.set nx ⟨w.heap.size, 0, 0, 0⟩) (b := nx) (PMap.set_self _ _ _)
  unfold amakeMap at hr
  cases x with
  | none =>
    cases u with
    | some _ => exact hx.elim
    | none =>
      simp only [Option.some.injEq, Prod.mk.injEq] at hr
      obtain ⟨rfl, rfl, rfl⟩ := hr
      exact ⟨.map (some w.heap.size), _, Z, _, rfl, rp, ZLe.refl _, PMap.le_set (hh.fresh (Nat.le_refl _)), fin⟩
  | some x =>
    cases u with
    | none => exact hx.elim
    | some u =>
      simp only [Option.bind_eq_bind, Option.bind_eq_some_iff, Option.some.injEq, Prod.mk.injEq] at hr
      obtain ⟨⟨kt, et⟩, hmt, n, hn, rfl, rfl, rfl⟩ := hr
      obtain ⟨k, rfl⟩ := asI_some hn hx
      refine ⟨.map (some w.heap.size), _, Z, _, ?_, rp, ZLe.refl _, PMap.le_set (hh.fresh (Nat.le_refl _)), fin⟩
      unfold Instr.makeMap
      simp only
      refine run_bind' (run_underlying' (mapT_some hmt) w) ?_
      exact run_bind' (x := n) (w' := w) rfl rfl

theorem bytesOf_info {t n s : Nat} (h : bytesOf P t = some n) (hs : szOf P t = some s) : ∃ i, P.info? t = some i ∧ i.bytes = n ∧ i.size = s := by
  unfold bytesOf at h
  unfold szOf at hs
  cases hi : P.info? t with
  | none => simp [hi] at h
  | some i => simp [hi] at h hs; exact ⟨i, rfl, h, hs⟩

theorem wrap_small {n : Int} (h0 : 0 ≤ n) (h1 : n ≤ 281474976710656) : IntKind.i64.wrap n = n := by
  rw [IntKind.wrap_i64]; omega

theorem sound_makeSlice (hh : HRel base w0 Z φ H nx w) {t : TypeId} {x y : AV} {ux uy : Value} {r : AV} {H' : Heap} {nx' : Nat} (hx : Rep Z φ x ux) (hy : Rep Z φ y uy) (hr : amakeSlice P t x y H nx = some (r, H', nx')) :
    ValOk base w0 Z φ r H' nx' ((Instr.makeSlice t ux uy).run P w) := by
  unfold amakeSlice at hr
  simp only [Option.bind_eq_bind, Option.bind_eq_some_iff] at hr
  obtain ⟨e, he, s, hs, by_, hby, z, hz, l, hl, c, hc, hr⟩ := hr
  split at hr
  · rename_i hcond
    obtain ⟨hzl, h0, hlc, hb, hcs⟩ := hcond
    simp only [Option.some.injEq, Prod.mk.injEq] at hr
    obtain ⟨rfl, rfl, rfl⟩ := hr
    obtain ⟨k1, rfl⟩ := asI_some hl hx
    obtain ⟨k2, rfl⟩ := asI_some hc hy
    obtain ⟨i, hi, rfl, rfl⟩ := bytesOf_info hby hs
    unfold zeroCellsOf at hz
    simp only [Option.bind_eq_some_iff] at hz
    obtain ⟨z0, hz0, hz⟩ := hz
    obtain ⟨zu, hzu, hzr⟩ := run_zeroValue (Z := Z) (φ := φ) hz0 w
    obtain ⟨hzc, hz1⟩ := rep_cells hz hzr
    have hu := sliceElem_some he
    have hti : ∀ w, (typeInfo e).run P w = .ok i w := fun w => by simp [typeInfo, hi, go_sem]
    have hw1 := wrap_small h0 (by omega : l ≤ 281474976710656)
    have hw2 := wrap_small (by omega : 0 ≤ c) hcs
    have hnl : ¬ (((decide (c < 0) || decide ((i.bytes : Int) * c > 2 ^ 48)) || decide (l < 0) || decide (l > c)) = true) := by
      simp only [Bool.or_eq_true, decide_eq_true_eq]; omega
    have key : ∀ cells : Array Value, cells = (if c.toNat * i.size = 0 then #[] else zu.cells) →
        (Instr.makeSlice t (.int k1 l) (.int k2 c)).run P w = .ok (.slice (some ⟨w.heap.size, 0, none⟩) l.toNat c.toNat) (w.alloc (.cells ((Array.range (c.toNat * i.size)).map (fun j => cells[j % cells.size]!)) e)) := by
      intro cells hcells
      unfold Instr.makeSlice
      refine run_bind' (run_underlying' hu w) ?_
      simp only
      refine run_bind' (x := l) (w' := w) rfl (run_bind' (x := c) (w' := w) rfl (run_bind' (hti w) ?_))
      simp only [hw1, hw2]
      rw [if_neg hnl]
      refine run_bind' (x := ()) (w' := w) (by unfold askRoom; split <;> rfl) ?_
      refine run_bind' (run_szOf hs w) ?_
      by_cases h00 : c.toNat * i.size = 0
      · rw [if_pos h00] at hcells ⊢
        subst hcells
        exact rfl
      · rw [if_neg h00] at hcells ⊢
        subst hcells
        refine run_bind' hzu ?_
        exact rfl
    refine ⟨_, _, Z, _, key _ rfl, ?_, ZLe.refl _, PMap.le_set (hh.fresh (Nat.le_refl _)), row_new (lim := c.toNat) hh (by simp) (by simp) (fun x _ => by simp) fun j el hj => ?_⟩
    · exact .sl (PMap.set_self _ _ _) rfl rfl (by omega) (by simp) (.inl (by simp))
    · have hjl : j < c.toNat := by have := (List.getElem?_eq_some_iff.1 hj).1; simpa using this
      simp [List.getElem?_replicate, hjl] at hj
      subst hj
      refine ⟨hzl, hz1, fun q v hq => ?_⟩
      have hqs : q < i.size := by have := (List.getElem?_eq_some_iff.1 hq).1; omega
      have hlt : j * i.size + q < c.toNat * i.size := by
        have : (j + 1) * i.size ≤ c.toNat * i.size := Nat.mul_le_mul_right _ hjl
        rw [Nat.add_mul, Nat.one_mul] at this; omega
      have hzs : zu.cells.size = i.size := by rw [hzc.1, hzl]
      have hne : ¬ c.toNat * i.size = 0 := by omega
      rw [if_neg hne]
      have hq2 : q < zu.cells.size := by omega
      refine ⟨zu.cells[q], ?_, hzc.2 q v _ hq (Array.getElem?_eq_getElem hq2)⟩
      simp only [Array.getElem?_map, Array.getElem?_range, hlt, if_true, Option.map_some, Option.some.injEq]
      rw [hzs, Nat.mul_comm, Nat.mul_add_mod, Nat.mod_eq_of_lt hqs, getElem!_pos zu.cells q hq2]
  · cases hr

end
end Go.Lom
