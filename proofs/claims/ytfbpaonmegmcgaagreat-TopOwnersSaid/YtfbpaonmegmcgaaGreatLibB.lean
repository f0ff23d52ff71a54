import Derived.Test.YtfbpaonmegmcgaaGreatLibA
import Derived.Laws.IdiomStrings
import Derived.RangeFuncLeaves
import Derived.RangeFuncRecord
import Derived.RecoverIn
set_option linter.all false
/- Maps written, append, conversion to bytes: sound; and all operations that make or write memory together. -/
namespace Go.Lom
open Go.RowKit
section
variable {P : Program} {base : Nat -> Prop} {w0 : Start} {Z : ZMap} {φ : PMap} {H : Heap} {nx : Nat} {w : World}
theorem sameKoneBits {x y : AV} {u v : Value} (n : Nat) (hx : Rep Z φ x u) (hy : Rep Z φ y v) (h : sameK1 x y = true) : Instr.sameBits n u v = true := by
 unfold sameK1 at h
 split at h
 ·cases hx; cases hy; unfold Instr.sameBits; exact h
 ·cases hx; cases hy; unfold Instr.sameBits; exact h
 ·cases hx; cases hy; unfold Instr.sameBits; rw [beq_toListBytes, toList_mk, toList_mk]; exact h
 ·cases h
theorem sameK_bits {x y : AV} {u v : Value} (hx : Rep Z φ x u) (hy : Rep Z φ y v) (h : sameK x y = true) : Instr.sameBits 10000 u v = true := by
 unfold sameK at h
 split at h
 ·rename_i xs ys
  cases hx with
  | agg hl1 h1 =>
  cases hy with
  | agg hl2 h2 =>
  rename_i us vs
  simp only [Bool.and_eq_true, beq_iff_eq, List.all_eq_true] at h
  obtain ⟨hlen, hall⟩ := h
  have : ∀ n, Instr.sameBits (n + 1) (.agg us) (.agg vs) = (us.size == vs.size && (us.toList.zip vs.toList).all fun (x, y) => Instr.sameBits n x y) := fun n => by rw [Instr.sameBits]
  rw [this 9999]
  simp only [Bool.and_eq_true, beq_iff_eq, List.all_eq_true]
  refine ⟨by omega, fun p hp => ?_⟩
  obtain ⟨j, hj, hpe⟩ := List.mem_iff_getElem.1 hp
  simp only [List.length_zip, Array.length_toList] at hj
  have hja : j < xs.length := by omega
  have hjb : j < ys.length := by omega
  have hpe2 : p = (us[j]'(by omega), vs[j]'(by omega)) := by rw [<- hpe]; simp
  subst hpe2
  refine sameKoneBits _ (h1 j xs[j] _ (List.getElem?_eq_getElem hja) (Array.getElem?_eq_getElem _)) (h2 j ys[j] _ (List.getElem?_eq_getElem hjb) (Array.getElem?_eq_getElem _)) (hall (xs[j], ys[j]) ?_)
  exact List.mem_iff_getElem.2 ⟨j, by simp; omega, by simp⟩
 ·exact sameKoneBits _ hx hy h
theorem setObj_map {B : Nat} {ms : Array MapEntry} {clk : Nat} (h : w.heap[B]? = some (.map ms clk)) (o : Obj) : (setObj B o).run P w = .ok () { w with heap := w.heap.setIfInBounds B o } := by
 simp [setObj, Sem.run, h]
theorem found_lt {kt : TypeId} {k : AV} : ∀ (es : List (AV × AV)) (i : Nat) (j : Nat) (v : AV), findK P kt k es i = some (some (j, v)) -> i <= j /\ j < i + es.length
 | [], i, j, v, h => by simp [findK] at h
 | (x, y) :: es, i, j, v, h => by
  simp only [findK, Option.bind_eq_bind, Option.bind_eq_some_iff] at h
  obtain ⟨b, _, h⟩ := h
  split at h
  ·simp at h; simp; omega
  ·have := found_lt es (i + 1) j v h; simp; omega
theorem sound_mapUpdate (hh : HRel base w0 Z φ H nx w) {t : TypeId} {m k v r : AV} {um uk uv : Value} {H' : Heap} {nx' : Nat} (hm : Rep Z φ m um) (hk : Rep Z φ k uk) (hv : Rep Z φ v uv) (hr : amapUpdate P t m k v H nx = some (r, H', nx')) :
  ∃ w', (Instr.mapUpdate t um uk uv).run P w = .ok () w' /\ r = .undef /\ HRel base w0 Z φ H' nx' w' := by
 unfold amapUpdate at hr
 cases hm with
 | mp hf =>
  rename_i b l
  simp only [Option.bind_eq_bind, Option.bind_eq_some_iff] at hr
  obtain ⟨⟨kt, et⟩, hmt, blk, hb, es, hes, hr⟩ := hr
  split at hr
  ·cases hr
  rename_i hok
  have hok : keyOk P 10000 kt k = true := by simpa using hok
  simp only [Option.bind_eq_some_iff] at hr
  obtain ⟨fnd, hfnd, hr⟩ := hr
  obtain ⟨ms, clk, hw, hbo, hsz, hent⟩ := hh.entries hf hb hes
  have hE : EntR Z φ es ms.toList := ⟨by simpa using hsz, fun i a b m h1 h2 => hent i a b m h1 (by simpa using h2)⟩
  obtain ⟨q, hq, hrq⟩ := run_findKey (w := w) hk hE hok hfnd
  have hBlt : l.B < w.heap.size := hh.flt _ _ hf
  have fin : ∀ (ms' : Array MapEntry) (clk' : Nat) (es' : List (AV × AV)), bornOk ms' clk' -> ms'.size = es'.length -> (∀ (i : Nat) (a c : AV) (m : MapEntry), es'[i]? = some (a, c) -> ms'[i]? = some m -> Rep Z φ a m.key /\ Rep Z φ c m.val) ->
    HRel base w0 Z φ (H.set b (.mp es')) nx { w with heap := w.heap.setIfInBounds l.B (.map ms' clk') } := fun ms' clk' es' h0 h1 h2 =>
   hh.upd hb hf rfl rfl rfl (by simp) (fun k hk _ => by show (w.heap.setIfInBounds _ _)[k]? = _; rw [Array.getElem?_setIfInBounds, if_neg (Ne.symm hk)])
    ⟨ms', clk', by show (w.heap.setIfInBounds _ _)[l.B]? = _; rw [Array.getElem?_setIfInBounds, if_pos rfl, if_pos hBlt], h0, h1, h2⟩
  have head : ∀ (s : Sem Unit) (w' : World), (do
    match <- Instr.findKey kt uk ms.toList with
    | some (i, _) => do
     let key <- Instr.keyThatStays (((ms[i]?).map (·.key)).getD uk) uk
     setObj l.B (.map (ms.modify i fun e => { e with key, val := uv }) clk)
    | none => setObj l.B (.map (ms.push { key := uk, val := uv, born := clk }) (clk + 1)) : Sem Unit).run P w = .ok () w' ->
    (Instr.mapUpdate t (.map (some l.B)) uk uv).run P w = .ok () w' := by
   intro s w' hs
   unfold Instr.mapUpdate
   refine run_bind' (run_underlying' (mapT_some hmt) w) ?_
   simp only
   refine run_bind' (run_getObj_map' hw) ?_
   simp only
   exact run_bind' (run_checkKey false 10000 kt k uk hk hok) hs
  cases fnd with
  | none =>
   cases q with
   | some _ => exact hrq.elim
   | none =>
    simp only [Option.some.injEq, Prod.mk.injEq] at hr
    obtain ⟨rfl, rfl, rfl⟩ := hr
    refine ⟨_, head (pure ()) _ (run_bind' hq (setObj_map hw _)), rfl, fin _ _ _ (hbo.push rfl) (by simp [hsz]) fun i a c m h1 h2 => ?_⟩
    rw [Array.getElem?_push] at h2
    by_cases hi : i = ms.size
    ·rw [if_pos hi] at h2; injection h2 with h2; subst h2
     rw [List.getElem?_append_right (by omega)] at h1
     have : i - es.length = 0 := by omega
     rw [this] at h1; simp at h1
     obtain ⟨rfl, rfl⟩ := h1
     exact ⟨hk, hv⟩
    ·rw [if_neg hi] at h2
     have hlt := (Array.getElem?_eq_some_iff.1 h2).1
     rw [List.getElem?_append_left (by omega)] at h1
     exact hent i a c m h1 h2
  | some p =>
   obtain ⟨i, x⟩ := p
   cases q with
   | none => exact hrq.elim
   | some q =>
    obtain ⟨j, ux⟩ := q
    obtain ⟨rfl, _⟩ := hrq
    simp only [Option.bind_eq_some_iff] at hr
    obtain ⟨pe, hpe, hr⟩ := hr
    split at hr
    ·rename_i hsame
     simp only [Option.some.injEq, Prod.mk.injEq] at hr
     obtain ⟨rfl, rfl, rfl⟩ := hr
     have hil : i < ms.size := by have := (List.getElem?_eq_some_iff.1 hpe).1; omega
     have hme : ms[i]? = some ms[i] := Array.getElem?_eq_getElem hil
     obtain ⟨k0, v0⟩ := pe
     have hk0 := (hent i k0 v0 _ hpe hme).1
     have hst : (Instr.keyThatStays (((ms[i]?).map (·.key)).getD uk) uk).run P w = .ok uk w := by
      unfold Instr.keyThatStays
      rw [hme]
      simp only [Option.map_some, Option.getD_some]
      rw [if_pos (sameK_bits hk0 hk hsame)]; rfl
     refine ⟨_, head (pure ()) _ (run_bind' hq (run_bind' hst (setObj_map hw _))), rfl, fin _ _ _ (hbo.modify fun _ => rfl) (by simp [hsz]) fun n a c m h1 h2 => ?_⟩
     rw [Array.getElem?_modify] at h2
     rw [List.getElem?_set] at h1
     by_cases hn : i = n
     ·subst hn
      rw [if_pos rfl] at h1 h2
      split at h1
      ·rw [hme] at h2
       simp only [Option.map_some, Option.some.injEq] at h2
       injection h1 with h1; injection h1 with e1 e2; subst e1 e2 h2
       exact ⟨hk, hv⟩
      ·cases h1
     ·rw [if_neg hn] at h1 h2
      exact hent n a c m h1 h2
    ·cases hr
 | _ => simp at hr
theorem fitsS_all {es : List (List AV)} {s : Nat} {a : Addr} (h : SliceAt Z φ w a es) (hf : ¬ fitsS es s = false) : ∀ e ∈ es, e.length = s := by
 rcases h with rfl | ⟨B, off, s', rfl, h⟩
 ·intro e he; simp at he
 ·intro e he
  cases es with
  | nil => simp at he
  | cons e0 es =>
   simp only [fitsS, beq_eq_false_iff_ne, ne_eq, Decidable.not_not] at hf
   obtain ⟨i, hi, hie⟩ := List.mem_iff_getElem.1 he
   have h1 := (h 0 e0 rfl).1
   have h2 := (h i e (by rw [List.getElem?_eq_getElem hi, hie])).1
   omega
theorem sliceAt_one {es : List (List AV)} {a : Addr} (h : SliceAt Z φ w a es) : ∀ e ∈ es, e.all oneC = true := by
 rcases h with rfl | ⟨B, off, s', rfl, h⟩
 ·intro e he; simp at he
 ·intro e he
  obtain ⟨i, hi, hie⟩ := List.mem_iff_getElem.1 he
  exact (h i e (by rw [List.getElem?_eq_getElem hi, hie])).2.1
theorem flat_append {s : Nat} {es fs : List (List AV)} {us vs : List Value} (h1 : Flat Z φ s es us) (h2 : Flat Z φ s fs vs) : Flat Z φ s (es ++ fs) (us ++ vs) := by
 obtain ⟨a1, a2, a3⟩ := h1
 obtain ⟨b1, b2, b3⟩ := h2
 refine ⟨by simp [a1, b1, Nat.add_mul], fun u hu => by rcases List.mem_append.1 hu with h | h <;> first | exact a2 u h | exact b2 u h, fun i e hi => ?_⟩
 by_cases hlt : i < es.length
 ·rw [List.getElem?_append_left hlt] at hi
  obtain ⟨c1, c2⟩ := a3 i e hi
  refine ⟨c1, fun j v hj => ?_⟩
  obtain ⟨u, hu, hr⟩ := c2 j v hj
  exact ⟨u, by rw [List.getElem?_append_left (List.getElem?_eq_some_iff.1 hu).1]; exact hu, hr⟩
 ·rw [List.getElem?_append_right (by omega)] at hi
  obtain ⟨c1, c2⟩ := b3 _ e hi
  refine ⟨c1, fun j v hj => ?_⟩
  obtain ⟨u, hu, hr⟩ := c2 j v hj
  refine ⟨u, ?_, hr⟩
  have hle : es.length * s <= i * s := Nat.mul_le_mul_right _ (by omega)
  rw [List.getElem?_append_right (by omega), a1, <- hu]
  congr 1
  rw [Nat.sub_mul]; omega
theorem row_flat (hh : HRel base w0 Z φ H nx w) {e : TypeId} {s n : Nat} {es : List (List AV)} {us : List Value} {rest : Array Value} (hfl : Flat Z φ s es us) (hone : ∀ el ∈ es, el.all oneC = true)
  (hrest : rest.size = n * s) {w1 : World} (hw1 : w1 = w \/ w1 = w.drew) :
  HRel base w0 Z (φ.set nx ⟨w.heap.size, 0, s, es.length + n⟩) (H.set nx (.row s es)) (nx + 1) (w1.alloc (.cells (us.toArray ++ rest) e)) := by
 have hh1 : HRel base w0 Z φ H nx w1 := by rcases hw1 with rfl | rfl <;> first | exact hh | exact hh.drew
 have hs1 : w1.heap.size = w.heap.size := by rcases hw1 with rfl | rfl <;> rfl
 have := row_new (e := e) (lim := es.length + n) (fz := (0, 0)) (c := us.toArray ++ rest) hh1 (Nat.le_add_right _ _) (by simp [hfl.1, hrest, Nat.add_mul]) (fun x _ => by simp) (fun i el hi => ⟨(hfl.2.2 i el hi).1, hone el (List.mem_of_getElem? hi), fun j v hj => by
  obtain ⟨u, hu, hr⟩ := (hfl.2.2 i el hi).2 j v hj
  exact ⟨u, by rw [Array.getElem?_append_left (by simpa using (List.getElem?_eq_some_iff.1 hu).1)]; simpa using hu, hr⟩⟩)
 rw [hs1] at this
 exact this
theorem fitsA_some {e : TypeId} {s n : Nat} (h : fitsA P e s n = some ()) : ∃ i z, P.info? e = some i /\ i.size = s /\ i.zero = some z /\ z.cells.size = s /\ n * i.bytes <= 140737488355328 /\ n <= maxLen := by
 unfold fitsA at h
 simp only [Option.bind_eq_bind, Option.bind_eq_some_iff] at h
 obtain ⟨s', hs, by_, hby, z, hz, h⟩ := h
 split at h
 ·rename_i hc
  obtain ⟨h1, h2, h3, h4⟩ := hc
  obtain ⟨i, hi, hib, his⟩ := bytesOf_info hby hs
  subst hib his
  unfold zeroCellsOf zeroOf at hz
  simp only [Option.bind_eq_some_iff, Option.map_eq_some_iff] at hz
  obtain ⟨a, ⟨v, ⟨i', hi', hv⟩, rfl⟩, hz⟩ := hz
  rw [hi] at hi'; injection hi' with hi'; subst hi'
  refine ⟨i, v, hi, h1, hv, ?_, h3, h4⟩
  have := (rep_cells hz (rep_lift (fun _ => none) (fun _ => none) v)).1.1
  omega
 ·cases h
theorem cells_after {c : Array Value} {es news : List (List AV)} {vs : List Value} {ob s k : Nat}
  (hes : ∀ (i : Nat) (e : List AV), es[i]? = some e -> e.length = s /\ e.all oneC = true /\ ∀ (j : Nat) (v : AV), e[j]? = some v -> ∃ u, c[ob + i * s + j]? = some u /\ Rep Z φ v u)
  (hfv : Flat Z φ s news vs) (hone : ∀ el ∈ news, el.all oneC = true) (hsz : ob + (k + news.length) * s <= c.size) {i : Nat} {el : List AV}
  (h : ((i < k \/ k + news.length <= i) /\ es[i]? = some el) \/ (k <= i /\ news[i - k]? = some el)) :
  el.length = s /\ el.all oneC = true /\ ∀ (j : Nat) (v : AV), el[j]? = some v -> ∃ u, (foldSet c (ob + k * s) vs)[ob + i * s + j]? = some u /\ Rep Z φ v u := by
 rcases h with ⟨hik, hi⟩ | ⟨hki, hi⟩
 ·obtain ⟨h1, h2, h3⟩ := hes i el hi
  refine ⟨h1, h2, fun j v hj => ?_⟩
  have hjl : j < s := by have := (List.getElem?_eq_some_iff.1 hj).1; omega
  rw [foldSet_get, if_neg]
  ·exact h3 j v hj
  ·intro hx
   rw [hfv.1] at hx
   rcases hik with hlt | hge
   ·have : (i + 1) * s <= k * s := Nat.mul_le_mul_right _ hlt
    rw [Nat.add_mul, Nat.one_mul] at this; omega
   ·have : (k + news.length) * s <= i * s := Nat.mul_le_mul_right _ hge
    rw [Nat.add_mul] at this; omega
 ·obtain ⟨h1, h2⟩ := hfv.2.2 _ el hi
  refine ⟨h1, hone el (List.mem_of_getElem? hi), fun j v hj => ?_⟩
  obtain ⟨u, hu, hr⟩ := h2 j v hj
  have hjl : j < s := by have := (List.getElem?_eq_some_iff.1 hj).1; omega
  have hul := (List.getElem?_eq_some_iff.1 hu).1
  have hks : k * s <= i * s := Nat.mul_le_mul_right _ hki
  have hil : i - k < news.length := (List.getElem?_eq_some_iff.1 hi).1
  have hin : (i + 1) * s <= (k + news.length) * s := Nat.mul_le_mul_right _ (by omega)
  rw [Nat.add_mul, Nat.one_mul] at hin
  refine ⟨u, ?_, hr⟩
  rw [Nat.sub_mul] at hu hul
  rw [foldSet_get, if_pos ⟨by omega, by omega, by omega⟩, <- hu]
  congr 1; omega
theorem sub_del_set (H : Heap) (b c : Nat) (x : Blk) : Sub ((H.del b).set c x) (H.set c x) := by
 intro d y hd
 rw [Heap.get_set] at hd ⊢
 by_cases e : d = c
 ·rw [if_pos e] at hd ⊢; exact hd
 ·rw [if_neg e] at hd ⊢
  rw [Heap.get_del] at hd
  split at hd
  ·cases hd
  ·exact hd
theorem sound_append (hh : HRel base w0 Z φ H nx w) {t ty : TypeId} {x y r : AV} {ux uy : Value} {H' : Heap} {nx' : Nat} (hx : Rep Z φ x ux) (hy : Rep Z φ y uy) (hr : aappend P t x y H nx = some (r, H', nx')) :
    ValOk base w0 Z φ r H' nx' ((Builtin.append_ #[t, t] ty #[ux, uy]).run P w) := by
  have hr0 := hr
  unfold aappend at hr
  simp only [Option.bind_eq_bind, Option.bind_eq_some_iff] at hr
  obtain ⟨e, he, s, hs, news, hnews, hr⟩ := hr
  have hu := sliceElem_some he
  have hsame := hh.elems hy hnews
  split at hr
  · cases hr
  rename_i hfit
  obtain ⟨i, hi, hcz⟩ := szOf_info hs
  have hiz : i.size = s := by unfold szOf at hs; simp [hi] at hs; exact hs
  split at hr
  · rename_i hnil
    subst hnil
    have hn : ∀ (ao : Option Addr) (n c : Nat), n <= c -> (Builtin.append_ #[t, t] ty #[.slice ao n c, uy]).run P w = .ok (.slice ao n c) w := by
      intro ao n c hnc
      have hlo : ∃ bo cc, uy = .slice bo 0 cc := by
        rcases hsame with ⟨rfl, _⟩ | ⟨a, c2, rfl, _, _⟩
        · exact ⟨_, _, rfl⟩
        · exact ⟨_, _, rfl⟩
      obtain ⟨bo, cc, rfl⟩ := hlo
      cases bo <;> cases ao <;> simp [Builtin.append_, run_underlying' hu, sizeOf, typeInfo, hi, Builtin.lenOf, hnc, Builtin.firstCells, loadCells, loadCellsFrom, storeCells, Sem.run_bind, go_sem]
    cases hx <;> simp at hr
    · obtain ⟨rfl, rfl, rfl⟩ := hr
      exact ⟨_, w, Z, φ, hn none 0 0 (Nat.le_refl _), .nils, ZLe.refl _, PLe.refl _, hh⟩
    · obtain ⟨rfl, rfl, rfl⟩ := hr
      exact ⟨_, w, Z, φ, hn _ 0 0 (Nat.le_refl _), .emp _, ZLe.refl _, PLe.refl _, hh⟩
    · rename_i hf hls hc hl hm ha
      obtain ⟨rfl, rfl, rfl⟩ := hr
      exact ⟨_, w, Z, φ, hn _ _ _ hl, .sl hf hls hc hl hm ha, ZLe.refl _, PLe.refl _, hh⟩
    · rename_i us hn' hc ha h0 h1 h2
      obtain ⟨rfl, rfl, rfl⟩ := hr
      exact ⟨_, w, Z, φ, hn _ _ _ hc, .rs us hn' hc ha h0 h1 h2, ZLe.refl _, PLe.refl _, hh⟩
    · rename_i hc
      obtain ⟨rfl, rfl, rfl⟩ := hr
      exact ⟨_, w, Z, φ, hn _ _ _ (Nat.le_refl _), .sl0n hc, ZLe.refl _, PLe.refl _, hh⟩
    · rename_i hc a
      obtain ⟨rfl, rfl, rfl⟩ := hr
      exact ⟨_, w, Z, φ, hn _ _ _ (Nat.le_refl _), .sl0s hc a, ZLe.refl _, PLe.refl _, hh⟩
    · rename_i hx
      obtain ⟨rfl, rfl, rfl⟩ := hr
      have hle : ∀ {v : Value} {zs : List (List AV)}, Rep Z φ (.rs zs) v -> ∀ ao n c, v = .slice ao n c -> n <= c := by
        intro v zs h ao n c hv
        subst hv
        cases h with
        | rs us hn' hc ha h0 h1 h2 => exact hc
        | rs0 => exact Nat.le_refl _
      exact ⟨_, w, Z, φ, hn _ _ _ (hle hx _ _ _ rfl), .rl hx, ZLe.refl _, PLe.refl _, hh⟩
    · obtain ⟨rfl, rfl, rfl⟩ := hr
      exact ⟨_, w, Z, φ, hn none 0 0 (Nat.le_refl _), .rs0, ZLe.refl _, PLe.refl _, hh⟩
  rename_i hne
  rcases hsame with ⟨rfl, h0⟩ | ⟨ay, cy, rfl, hcy, hay⟩
  · exact absurd h0 hne
  obtain ⟨vs, hfv, hvs⟩ := hay.flat (fitsS_all hay hfit)
  have hone := sliceAt_one hay
  have hnpos : 0 < news.length := List.length_pos_iff.2 hne
  have grow : ∀ (b : Addr) (n cap : Nat) (olds : List (List AV)) (us : List Value), olds.length = n -> Flat Z φ s olds us -> (∀ el ∈ olds, el.all oneC = true) -> (∀ j u, us[j]? = some u -> w.cell? (b.add j) = some u) -> cap < n + news.length ->
      fitsA P e s (n + news.length) = some () ->
      ValOk base w0 Z φ (.sl nx s 0 (n + news.length) none) (H.set nx (.row s (olds ++ news))) (nx + 1) ((Builtin.append_ #[t, t] ty #[.slice (some b) n cap, .slice (some ay) news.length cy]).run P w) := by
    intro b n cap olds us hn hfo hoo huc hcap hfits
    obtain ⟨i', z, hi', hsz, hz, hzs, hby, hml⟩ := fitsA_some hfits
    rw [hi] at hi'; injection hi' with hi'; subst hi'
    have hl1 : us.length = n * i.size := by rw [hfo.1, hn, hsz]
    have hl2 : vs.length = news.length * i.size := by rw [hfv.1, hsz]
    have hrun := run_append_grow (P := P) w t ty e i z hu hi hz b n cap us hl1 huc ay news.length cy vs hl2 hvs hcap (by unfold maxLen at hml; omega) (growslice_fits hcap hby)
    have hge := grownCap_ge w (n + news.length) cap e
    have hrow := row_flat (e := e) (n := grownCap w (n + news.length) cap e - (n + news.length)) (rest := Builtin.zeroCells z.cells (grownCap w (n + news.length) cap e - (n + news.length))) hh (flat_append hfo hfv) (fun el hel => by rcases List.mem_append.1 hel with h | h <;> first | exact hoo el h | exact hone el h) (by simp [Builtin.zeroCells, hzs]) (.inr rfl)
    have e1 : (us.toArray ++ vs.toArray : Array Value) = (us ++ vs).toArray := by simp
    rw [e1] at hrun
    refine ⟨_, _, Z, _, hrun, ?_, ZLe.refl _, PMap.le_set (hh.fresh (Nat.le_refl _)), hrow⟩
    exact .sl (PMap.set_self _ _ _) rfl hge (by omega) (by simp; omega) (.inl (by simp))
  have fromNil : fitsA P e s news.length = some () -> ValOk base w0 Z φ (.sl nx s 0 news.length none) (H.set nx (.row s news)) (nx + 1) ((Builtin.append_ #[t, t] ty #[.slice none 0 0, .slice (some ay) news.length cy]).run P w) := by
    intro hfits
    obtain ⟨i', z, hi', hsz, hz, hzs, hby, hml⟩ := fitsA_some hfits
    rw [hi] at hi'; injection hi' with hi'; subst hi'
    have hl2 : vs.length = news.length * i.size := by rw [hfv.1, hsz]
    have hrun := run_append_nil (P := P) w t ty e i z hu hi hz ay news.length cy vs hl2 hvs hnpos (by unfold maxLen at hml; omega) (by omega)
    have hge := grownCap_ge w news.length 0 e
    have hrow := row_flat (e := e) (n := grownCap w news.length 0 e - news.length) (rest := Builtin.zeroCells z.cells (grownCap w news.length 0 e - news.length)) hh hfv hone (by simp [Builtin.zeroCells, hzs]) (.inr rfl)
    refine ⟨_, _, Z, _, hrun, ?_, ZLe.refl _, PMap.le_set (hh.fresh (Nat.le_refl _)), hrow⟩
    exact .sl (PMap.set_self _ _ _) rfl hge (by omega) (by simp; omega) (.inl (by simp))
  have fromEmp : ∀ b : Addr, fitsA P e s news.length = some () -> ValOk base w0 Z φ (.sl nx s 0 news.length none) (H.set nx (.row s news)) (nx + 1) ((Builtin.append_ #[t, t] ty #[.slice (some b) 0 0, .slice (some ay) news.length cy]).run P w) := by
    intro b hfits
    have := grow b 0 0 [] [] rfl (flat_nil s) (fun el h => by simp at h) (fun j u h => by simp at h) (by omega) (by simpa using hfits)
    simpa using this
  have zero : ∀ (v : Value) (b off s' : Nat) (cap : Option Nat), (v = .slice none 0 0 \/ ∃ a, v = .slice (some a) 0 0) -> capOk cap 0 0 -> aappend P t (.sl b s' off 0 cap) y H nx = some (r, H', nx') ->
      ValOk base w0 Z φ r H' nx' ((Builtin.append_ #[t, t] ty #[v, .slice (some ay) news.length cy]).run P w) := by
    intro v b off s' cap hv hc hr
    unfold aappend at hr
    simp only [he, hs, hnews, Option.bind_eq_bind, Option.bind_some] at hr
    rw [if_neg hfit, if_neg hne] at hr
    split at hr
    · cases hr
    simp only [Option.bind_eq_some_iff] at hr
    obtain ⟨blk, hb, ⟨s3, es⟩, hrow, hr⟩ := hr
    simp only at hr
    split at hr
    · cases hr
    have both : fitsA P e s news.length = some () -> ValOk base w0 Z φ (.sl nx s 0 news.length none) (H.set nx (.row s news)) (nx + 1) ((Builtin.append_ #[t, t] ty #[v, .slice (some ay) news.length cy]).run P w) := fun hfits => by
      rcases hv with rfl | ⟨a, rfl⟩
      · exact fromNil hfits
      · exact fromEmp a hfits
    split at hr
    · rename_i k
      have hk : 0 = k := hc
      rw [if_neg (by omega)] at hr
      simp only [Option.bind_eq_some_iff, Option.some.injEq, Prod.mk.injEq, Nat.zero_add, List.take_zero, List.nil_append] at hr
      obtain ⟨_, hfits, rfl, rfl, rfl⟩ := hr
      exact both hfits
    · simp only [Option.bind_eq_some_iff, Option.some.injEq, Prod.mk.injEq, Nat.zero_add, List.take_zero, List.nil_append] at hr
      obtain ⟨_, hfits, rfl, rfl, rfl⟩ := hr
      obtain ⟨v, w', Z', φ', g1, g2, g3, g4, g5⟩ := both hfits
      exact ⟨v, w', Z', φ', g1, g2, g3, g4, g5.sub (sub_del_set H b nx _)⟩
  cases hx with
  | nils =>
    simp only [Option.bind_eq_some_iff, Option.some.injEq, Prod.mk.injEq] at hr
    obtain ⟨_, hfits, rfl, rfl, rfl⟩ := hr
    exact fromNil hfits
  | sl0n hc => exact zero _ _ _ _ _ (.inl rfl) hc hr0
  | sl0s hc a => exact zero _ _ _ _ _ (.inr ⟨_, rfl⟩) hc hr0
  | emp b =>
    simp only [Option.bind_eq_some_iff, Option.some.injEq, Prod.mk.injEq] at hr
    obtain ⟨_, hfits, rfl, rfl, rfl⟩ := hr
    exact fromEmp b hfits
  | sl hf hls hc hl hm ha =>
    rename_i b s' off len c l cap a
    simp only at hr
    split at hr
    · cases hr
    rename_i hss
    have hss : s' = s := by simpa using hss
    subst hss
    simp only [Option.bind_eq_some_iff] at hr
    obtain ⟨blk, hb, ⟨s3, es⟩, hrow, hr⟩ := hr
    have hes4 : ∃ es4, es4 = es := ⟨es, rfl⟩
    obtain ⟨es4, hes4⟩ := hes4
    subst hes4
    simp only at hr
    split at hr
    · cases hr
    rename_i hlen
    have hlen : off + len <= es4.length := by simpa using hlen
    have hels : elems H (.sl b s' off len cap) = some ((es4.drop off).take len) := by
      simp [Lom.elems, hb, hrow, hlen]
    have hxr : Rep Z φ (.sl b s' off len cap) (.slice (some a) len c) := .sl hf hls hc hl hm ha
    have hol : ((es4.drop off).take len).length = len := by simp; omega
    rcases hh.elems hxr hels with ⟨h1, _⟩ | ⟨a2, c2, h1, _, hsl⟩
    · cases h1
    have ha2 : a2 = a := by injection h1 with h1; injection h1 with h1; exact h1.symm
    subst ha2
    obtain ⟨hz2, hss2, hlim, cc, T, fz, hw, hsz, hfz, hes⟩ := hh.rowOf hb hrow hf
    have hs4 : s3 = s' := by rw [hss2]; exact hls
    subst hs4
    have hlens : ∀ el ∈ (es4.drop off).take len, el.length = s3 := by
      intro el hel
      have hel2 : el ∈ es4 := List.mem_of_mem_drop (List.mem_of_mem_take hel)
      obtain ⟨k, hk, hke⟩ := List.mem_iff_getElem.1 hel2
      exact (hh.cellsAt' hb hrow (by rw [List.getElem?_eq_getElem hk, hke]) hf).2.1
    obtain ⟨us, hfu, husc⟩ := hsl.flat hlens
    have honeo := sliceAt_one hsl
    have hnl : vs.length = news.length * i.size := by rw [hfv.1, hiz]
    have room : len + news.length <= c -> (∀ u ∈ vs, u.oneCell' = true) -> l.ob + (off + len + news.length) * s3 <= cc.size /\ a2 = ⟨l.B, l.ob + off * s3, none⟩ /\
        (Builtin.append_ #[t, t] ty #[.slice (some a2) len c, .slice (some ay) news.length cy]).run P w = .ok (.slice (some a2) (len + news.length) c) (w.setCells l.B (l.ob + (off + len) * s3) vs) := by
      intro hroom hov
      have hin : (off + len + news.length) * l.s <= l.lim * l.s := Nat.mul_le_mul_right _ (by omega)
      have hin2 : (off + len + news.length) * l.s = (off + len) * l.s + news.length * l.s := by rw [Nat.add_mul]
      have haa : a2 = ⟨l.B, l.ob + off * s3, none⟩ := by rcases ha with h | h; · exact h
                                                         · omega
      refine ⟨by rw [<- hls]; omega, haa, ?_⟩
      subst haa
      have e1 : l.ob + off * s3 + len * i.size = l.ob + (off + len) * s3 := by rw [hiz, Nat.add_mul]; omega
      have := run_append_room_cells (P := P) w t ty e i hu hi l.B (l.ob + off * s3) len c ay news.length cy vs hnl hvs hov hroom (fun j hj => by
        rw [e1]
        simp only [World.cell?, hw]
        have : l.ob + (off + len) * s3 + j < cc.size := by rw [hnl, hiz] at hj; rw [<- hls] at hj ⊢; omega
        simp [this]) (fun j hj => by
        rw [e1]
        simp only [World.frozen?, hw]
        have := hfz (l.ob + (off + len) * s3 + j) (by rw [hnl, hiz] at hj; rw [<- hls] at hj ⊢; omega)
        simpa using this)
      rw [e1] at this
      exact this
    obtain ⟨q1, q2, q3, q4⟩ := setCells_rest vs w l.B (l.ob + (off + len) * s3)
    have hcells : l.ob + (off + len + news.length) * s3 <= cc.size -> ∀ (k : Nat) (el : List AV), ((k < off + len \/ off + len + news.length <= k) /\ es4[k]? = some el) \/ (off + len <= k /\ news[k - (off + len)]? = some el) ->
        el.length = l.s /\ el.all oneC = true /\ ∀ (j : Nat) (v : AV), el[j]? = some v -> ∃ u, (foldSet cc (l.ob + (off + len) * s3) vs)[l.ob + k * l.s + j]? = some u /\ Rep Z φ v u := by
      intro hsz2 k el hk
      have hfv' : Flat Z φ l.s news vs := by rw [hls]; exact hfv
      have := cells_after (k := off + len) hes hfv' hone (by rw [hls]; exact hsz2) hk
      rw [hls] at this ⊢
      exact this
    split at hr
    · rename_i k
      have hck : c = k := hc
      subst hck
      split at hr
      · rename_i hroom
        · simp only [Option.some.injEq, Prod.mk.injEq] at hr
          obtain ⟨rfl, rfl, rfl⟩ := hr
          obtain ⟨hsz2, haa, hrun⟩ := room hroom hfv.2.1
          refine ⟨_, _, Z, φ, hrun, .sl hf hls hc hroom hm ha, ZLe.refl _, PLe.refl _, hh.upd hb hf q1 q2 q3 (by omega) (fun k hk _ => setCells_other vs w _ _ k hk)
            ⟨hss2, ?_, _, T, fz, setCells_block vs w _ _ cc T fz hw, by rw [foldSet_size]; exact hsz, by rw [foldSet_size]; exact hfz, fun k el hk => hcells hsz2 k el ?_⟩⟩
          · simp; omega
          · rw [List.append_assoc] at hk
            by_cases h1 : k < off + len
            · rw [List.getElem?_append_left (by simp; omega), List.getElem?_take, if_pos h1] at hk
              exact .inl ⟨.inl h1, hk⟩
            · rw [List.getElem?_append_right (by simp; omega)] at hk
              have e3 : k - (es4.take (off + len)).length = k - (off + len) := by simp; omega
              rw [e3] at hk
              by_cases h2 : k - (off + len) < news.length
              · rw [List.getElem?_append_left h2] at hk
                exact .inr ⟨by omega, hk⟩
              · rw [List.getElem?_append_right (by omega), List.getElem?_drop] at hk
                have e4 : off + len + news.length + (k - (off + len) - news.length) = k := by omega
                rw [e4] at hk
                exact .inl ⟨.inr (by omega), hk⟩
      · rename_i hroom
        simp only [Option.bind_eq_some_iff, Option.some.injEq, Prod.mk.injEq] at hr
        obtain ⟨_, hfits, rfl, rfl, rfl⟩ := hr
        exact grow a2 len c _ us hol hfu honeo husc (by omega) hfits
    · simp only [Option.bind_eq_some_iff, Option.some.injEq, Prod.mk.injEq] at hr
      obtain ⟨_, hfits, rfl, rfl, rfl⟩ := hr
      by_cases hroom : len + news.length <= c
      · obtain ⟨hsz2, haa, hrun⟩ := room hroom hfv.2.1
        subst haa
        have hadopt := hh.adopt (c := nx) (Nat.le_refl _) (x' := .row s3 ((es4.drop off).take len ++ news)) (l' := ⟨l.B, l.ob + off * s3, s3, l.lim - off⟩) hb hf (w' := w.setCells l.B (l.ob + (off + len) * s3) vs) rfl q1 q2 q3 (by omega) (fun k hk _ => setCells_other vs w _ _ k hk)
          ⟨rfl, by simp; omega, _, T, fz, setCells_block vs w _ _ cc T fz hw, by
            rw [foldSet_size]
            have : off * s3 + (l.lim - off) * s3 = l.lim * s3 := by rw [<- Nat.add_mul]; congr 1; omega
            rw [hls] at hsz
            simp only; omega, by rw [foldSet_size]; exact hfz, fun k el hk => by
            have hk2 : ((off + k < off + len \/ off + len + news.length <= off + k) /\ es4[off + k]? = some el) \/ (off + len <= off + k /\ news[off + k - (off + len)]? = some el) := by
              by_cases h1 : k < len
              · rw [List.getElem?_append_left (by omega), List.getElem?_take, if_pos h1, List.getElem?_drop] at hk
                exact .inl ⟨.inl (by omega), hk⟩
              · rw [List.getElem?_append_right (by omega), hol] at hk
                refine .inr ⟨by omega, ?_⟩
                have : off + k - (off + len) = k - len := by omega
                rw [this]; exact hk
            obtain ⟨g1, g2, g3⟩ := hcells hsz2 (off + k) el hk2
            rw [hls] at g1 g3
            refine ⟨g1, g2, fun j v hj => ?_⟩
            obtain ⟨u, hu', hr'⟩ := g3 j v hj
            refine ⟨u, ?_, hr'.mono (ZLe.refl _) (PMap.le_set (hh.fresh (Nat.le_refl _)))⟩
            rw [<- hu']
            congr 1
            rw [Nat.add_mul]; simp only; omega⟩
        refine ⟨_, _, Z, _, hrun, ?_, ZLe.refl _, PMap.le_set (hh.fresh (Nat.le_refl _)), hadopt⟩
        exact .sl (PMap.set_self _ _ _) rfl hroom hroom (by simp; omega) (.inl (by simp))
      · obtain ⟨v, w', Z', φ', g1, g2, g3, g4, g5⟩ := grow a2 len c _ us hol hfu honeo husc (by omega) hfits
        exact ⟨v, w', Z', φ', g1, g2, g3, g4, g5.sub (sub_del_set H b nx _)⟩
  | _ => simp at hr
theorem repP_ev (gl : GlobOk Z) {F : Fr} {a : Act} (hF : FrRel Z φ F a.tmps) (ps : Array (Nat × Operand)) : ∀ (i : Nat) (p : Nat × AV) (q : Nat × Value), (ps.toList.map fun p => (p.1, ev F p.2))[i]? = some p -> (ps.map fun (i, x) => (i, a.eval x))[i]? = some q -> p.1 = q.1 /\ Rep Z φ p.2 q.2 := by
 intro i p q h1 h2
 rw [List.getElem?_map] at h1
 rw [Array.getElem?_map] at h2
 cases hp : ps[i]? with
 | none => simp [hp] at h2
 | some y => simp [hp] at h1 h2; subst h1 h2; exact ⟨rfl, rep_ev gl hF _⟩
theorem outUnit {r : AV} {H' : Heap} {nx' : Nat} {s : Sem Unit} (h : ∃ w', s.run P w = .ok () w' /\ r = .undef /\ HRel base w0 Z φ H' nx' w') : OutOk base w0 Z φ r H' nx' ((do s; pure Next.skip : Sem Next).run P w) := by
 obtain ⟨w', h1, h2, h3⟩ := h
 exact ⟨.skip, w', Z, φ, run_bind' h1 rfl, .inr ⟨rfl, h2⟩, ZLe.refl _, PLe.refl _, h3⟩
def frz1 (Z : ZMap) (B : Nat) (w : World) : ZMap := fun C => if C = B then w.heap[B]? else Z C
theorem HRel.freeze1 (h : HRel base w0 Z φ H nx w) {b : Nat} {x : Blk} {l : Loc} (hb : H.get b = some x) (hf : φ b = some l) : ZLe Z (frz1 Z l.B w) /\ HRel base w0 (frz1 Z l.B w) φ (H.del b) nx w := by
 obtain ⟨hz, hr⟩ := h.ownAt hb hf
 have hle : ZLe Z (frz1 Z l.B w) := fun B o hB => by
  unfold frz1
  rw [if_neg (fun e => by subst e; rw [hz] at hB; cases hB)]; exact hB
 refine ⟨hle, h.below, fun C o hC => ?_, fun C hC hu => ?_, h.gl.mono hle, h.fnx, fun c y hy => ?_, h.flt, fun c y hy => ?_, fun c c' y y' l1 l2 hne hy hy' h1 h2 => ?_, fun c y l1 hy hc => ?_⟩
 ·unfold frz1 at hC
  split at hC
  ·rename_i e; subst e; exact hC
  ·exact h.z C o hC
 ·have : C ≠ l.B := fun e => by subst e; have := h.ob b x l hb hf hu; omega
  unfold frz1
  rw [if_neg this]; exact h.z0 C hC hu
 all_goals
  rw [Heap.get_del] at hy
  split at hy
  ·cases hy
  rename_i hcb
 ·exact h.hnx c y hy
 ·rcases h.own' c y hy with h1 | ⟨l', h1, h2, h3⟩
  ·exact .inl h1
  ·refine .inr ⟨l', h1, ?_, h3.mono hle (PLe.refl _) rfl⟩
   unfold frz1
   rw [if_neg (h.inj c b y x l' l hcb hy hb h1 hf)]; exact h2
 ·rw [Heap.get_del] at hy'
  split at hy'
  ·cases hy'
  exact h.inj c c' y y' l1 l2 hne hy hy' h1 h2
 ·exact h.ob c y l1 hy hc
theorem chunk_get2 {s n : Nat} {cs : List AV} {i : Nat} {e : List AV} (h : (chunk s n cs)[i]? = some e) : i < n /\ e = (cs.drop (i * s)).take s := by
 rw [chunk_eq] at h
 rw [List.getElem?_map] at h
 cases hr : (List.range n)[i]? with
 | none => rw [hr] at h; cases h
 | some k =>
  rw [hr] at h
  simp only [Option.map_some, Option.some.injEq] at h
  have hlt : i < n := by have := (List.getElem?_eq_some_iff.1 hr).1; simpa using this
  rw [List.getElem?_range hlt] at hr
  injection hr with hr
  subst hr
  exact ⟨hlt, h.symm⟩
theorem sound_arrSlice (hh : HRel base w0 Z φ H nx w) {t : TypeId} {x r : AV} {u : Value} {lo hi mx : Option AV} {ulo uhi umx : Option Value} (hx : Rep Z φ x u) (rlo : RepO Z φ lo ulo) (rhi : RepO Z φ hi uhi) (rmx : RepO Z φ mx umx) {H' : Heap} {nx' : Nat}
  (hr : aarrSlice P t x lo hi mx H nx = some (r, H', nx')) : ValOk base w0 Z φ r H' nx' ((Instr.sliceAt t u ulo uhi umx).run P w) := by
 unfold aarrSlice at hr
 split at hr
 rotate_left
 ·cases hr
 rename_i n e b hu
 split at hr
 ·cases hr
 rename_i hmx
 have hmx0 : mx = none := by simpa using hmx
 subst hmx0
 cases umx with
 | some _ => exact rmx.elim
 | none =>
 simp only [Option.bind_eq_bind, Option.bind_eq_some_iff] at hr
 obtain ⟨s, hs, h, hh1, l, hl1, hr⟩ := hr
 split at hr
 rotate_left
 ·cases hr
 rename_i s1 es0 hget
 cases hx with
 | ptr hf =>
 rename_i lc
 have hb := run_bounds2 (P := P) (isSlice := false) (len := n) (cap := n) hh1 hl1 rlo rhi (Nat.le_refl _) w
 have hhn : h <= n := bnd_le' hh1 (Nat.le_refl _)
 have hlh : l <= h := bnd_le' hl1 (Nat.zero_le _)
 have hrun : (Instr.sliceAt t (.pointer (some ⟨lc.B, lc.ob + 0 * lc.s + 0, none⟩)) ulo uhi none).run P w = .ok (.slice (some (if n = l then ⟨lc.B, lc.ob + 0 * lc.s + 0, none⟩ else (⟨lc.B, lc.ob + 0 * lc.s + 0, none⟩ : Addr).add (l * s))) (h - l) (n - l)) w := by
  simp [Instr.sliceAt, Instr.sureAddr, Sem.run_bind, run_underlying' hu, run_szOf hs, hb, go_sem]
 split at hr
 ·rename_i hc
  obtain ⟨hc1, rfl⟩ := hc
  simp only [Option.some.injEq, Prod.mk.injEq] at hr
  obtain ⟨rfl, rfl, rfl⟩ := hr
  obtain ⟨hz, hrow⟩ := hh.ownAt hget hf
  obtain ⟨hsl, hlim, _⟩ := hrow
  refine ⟨_, w, Z, φ, hrun, .sl hf hsl.symm (show n - l = n - l from rfl) (by omega) (by omega) ?_, ZLe.refl _, PLe.refl _, hh⟩
  by_cases hnl : n = l
  ·right; omega
  ·left; rw [if_neg hnl]; simp [Addr.add]
 split at hr
 rotate_left
 ·cases hr
 rename_i cs _
 split at hr
 rotate_left
 ·cases hr
 rename_i hlen
 simp only [Option.some.injEq, Prod.mk.injEq] at hr
 obtain ⟨rfl, rfl, rfl⟩ := hr
 obtain ⟨hz, hrow⟩ := hh.ownAt hget hf
 obtain ⟨_, _, c, T, fz, hcell, _, _, hel⟩ := hrow
 obtain ⟨_, hone, hcs⟩ := hel 0 cs rfl
 obtain ⟨hZ, hH⟩ := hh.freeze1 hget hf
 refine ⟨_, w, frz1 Z lc.B w, φ, hrun, ?_, hZ, PLe.refl _, hH⟩
 have cell : ∀ (i : Nat) (ei : List AV) (j : Nat) (v : AV), (((chunk s n cs).take h).drop l)[i]? = some ei -> ei[j]? = some v -> ei.length = s /\ ∃ u, c[lc.ob + (l + i) * s + j]? = some u /\ Rep Z φ v u := by
  intro i ei j v hi hj
  rw [List.getElem?_drop, List.getElem?_take] at hi
  split at hi
  rotate_left
  ·cases hi
  obtain ⟨hin, rfl⟩ := chunk_get2 hi
  have hle : (l + i) * s + s <= n * s := by
   have := Nat.mul_le_mul_right s (show l + i + 1 <= n by omega)
   rw [Nat.add_mul, Nat.one_mul] at this; exact this
  have hlen2 : ((cs.drop ((l + i) * s)).take s).length = s := by rw [List.length_take, List.length_drop]; omega
  refine ⟨hlen2, ?_⟩
  have hjs : j < s := by have := (List.getElem?_eq_some_iff.1 hj).1; omega
  rw [List.getElem?_take, if_pos hjs, List.getElem?_drop] at hj
  obtain ⟨u, hu1, hu2⟩ := hcs _ _ hj
  refine ⟨u, ?_, hu2⟩
  rw [<- hu1]; congr 1; omega
 refine .rs (B := lc.B) (off := lc.ob + l * s) (s := s) (fun i j => (c[lc.ob + (l + i) * s + j]?).getD Go.undef) (by
   rw [List.length_drop, List.length_take]; rw [chunk_eq]; simp; omega) (by omega) ?_ (fun i ei hi => ?_) (fun i ei j v hi hj => ?_) fun i ei j v hi hj => ?_
 ·by_cases hnl : n = l
  ·right; omega
  ·left; rw [if_neg hnl]; simp [Addr.add]
 ·rw [List.getElem?_drop, List.getElem?_take] at hi
  split at hi
  rotate_left
  ·cases hi
  obtain ⟨hin, rfl⟩ := chunk_get2 hi
  have hle : (l + i) * s + s <= n * s := by
   have := Nat.mul_le_mul_right s (show l + i + 1 <= n by omega)
   rw [Nat.add_mul, Nat.one_mul] at this; exact this
  refine ⟨by rw [List.length_take, List.length_drop]; omega, ?_⟩
  rw [List.all_eq_true] at hone ⊢
  exact fun y hy => hone y (List.mem_of_mem_drop (List.mem_of_mem_take hy))
 ·obtain ⟨_, u, hu1, hu2⟩ := cell i ei j v hi hj
  rw [hu1]
  unfold zcell frz1
  rw [if_pos rfl, hcell]
  simp only [Option.getD_some]
  rw [<- hu1]; congr 1; rw [Nat.add_mul]; omega
 ·obtain ⟨_, u, hu1, hu2⟩ := cell i ei j v hi hj
  rw [hu1]
  exact hu2.mono hZ (PLe.refl _)
theorem flat_take {s : Nat} {es : List (List AV)} {us : List Value} (h : Flat Z φ s es us) {n : Nat} (hn : n <= es.length) : Flat Z φ s (es.take n) (us.take (n * s)) := by
 obtain ⟨h1, h2, h3⟩ := h
 have hle : n * s <= es.length * s := Nat.mul_le_mul_right _ hn
 refine ⟨by rw [List.length_take, List.length_take, h1]; rw [Nat.min_eq_left hn, Nat.min_eq_left hle], fun u hu => h2 u (List.mem_of_mem_take hu), fun i e hi => ?_⟩
 rw [List.getElem?_take] at hi
 split at hi
 ·rename_i hin
  obtain ⟨k1, k2⟩ := h3 i e hi
  refine ⟨k1, fun j v hj => ?_⟩
  obtain ⟨u, hu, hr⟩ := k2 j v hj
  have hjs : j < s := by have := (List.getElem?_eq_some_iff.1 hj).1; omega
  have hlt : i * s + j < n * s := by
   have : (i + 1) * s <= n * s := Nat.mul_le_mul_right _ hin
   rw [Nat.add_mul, Nat.one_mul] at this; omega
  exact ⟨u, by rw [List.getElem?_take, if_pos hlt]; exact hu, hr⟩
 ·cases hi
theorem sound_copy (hh : HRel base w0 Z φ H nx w) {t ty : TypeId} {x y r : AV} {ux uy : Value} {H' : Heap} {nx' : Nat} (hx : Rep Z φ x ux) (hy : Rep Z φ y uy) (hr : acopy P t x y H nx = some (r, H', nx')) :
  ValOk base w0 Z φ r H' nx' ((Builtin.copy_ #[t, t] ty #[ux, uy]).run P w) := by
 unfold acopy at hr
 split at hr
 rotate_left
 ·cases hr
 rename_i b s0 off len cap
 simp only [Option.bind_eq_bind, Option.bind_eq_some_iff] at hr
 obtain ⟨e, he, s, hs, news, hnews, hr⟩ := hr
 have hu := sliceElem_some he
 obtain ⟨i, hi, hcz⟩ := szOf_info hs
 have hiz : i.size = s := by unfold szOf at hs; simp [hi] at hs; exact hs
 have hsame := hh.elems hy hnews
 obtain ⟨db, c, hux⟩ : ∃ db c, ux = .slice db len c := by
  cases hx <;> exact ⟨_, _, rfl⟩
 obtain ⟨sb, c1, huy⟩ : ∃ sb c1, uy = .slice sb news.length c1 := by
  rcases hsame with ⟨rfl, rfl⟩ | ⟨a, c2, rfl, _, _⟩ <;> exact ⟨_, _, rfl⟩
 split at hr
 ·rename_i h0
  simp only [Option.some.injEq, Prod.mk.injEq] at hr
  obtain ⟨rfl, rfl, rfl⟩ := hr
  subst hux huy
  refine ⟨_, w, Z, φ, ?_, .int _ _, ZLe.refl _, PLe.refl _, hh⟩
  cases sb <;> cases db <;> simp [Builtin.copy_, run_underlying' hu, sizeOf, typeInfo, hi, Builtin.lenOf, h0, Builtin.firstCells, loadCells, loadCellsFrom, storeCells, Sem.run_bind, go_sem, goInt]
 rename_i hn0
 obtain ⟨N, hN⟩ : ∃ N, N = Nat.min news.length len := ⟨_, rfl⟩
 rw [<- hN] at hr hn0
 simp only [Option.bind_eq_some_iff] at hr
 obtain ⟨blk, hb, ⟨s2, es⟩, hrow, hr⟩ := hr
 split at hr
 rotate_left
 ·cases hr
 rename_i hc
 obtain ⟨rfl, hle, hfit⟩ := hc
 simp only [Option.some.injEq, Prod.mk.injEq, spliceF_eq] at hr
 obtain ⟨rfl, rfl, rfl⟩ := hr
 have hlen0 : 0 < len := Nat.pos_of_ne_zero fun h => hn0 (by rw [hN, h]; exact Nat.min_zero _)
 have hnle : N <= news.length := hN ▸ Nat.min_le_left _ _
 have hnle2 : N <= len := hN ▸ Nat.min_le_right _ _
 simp only at hle
 rcases hsame with ⟨_, rfl⟩ | ⟨ay, cy, huy2, hcy, hay⟩
 ·exact absurd (hN.trans (Nat.zero_min _)) hn0
 subst huy
 injection huy2 with huy2 _ _
 subst huy2
 obtain ⟨vs, hfv, hvs⟩ := hay.flat (fitsS_all hay (by rw [hfit]; simp))
 have hone := sliceAt_one hay
 have hft := flat_take hfv hnle
 cases hx with
 | sl0n => omega
 | sl0s => omega
 | sl hf hls hc hl hm ha =>
 rename_i c l a
 injection hux with hdb _ _
 subst hdb
 have ha2 : a = ⟨l.B, l.ob + off * s0, none⟩ := by
  rcases ha with h | h
  ·exact h
  ·omega
 subst hls
 have hls : l.s = s2 := (hh.rowOf hb hrow hf).2.1.symm
 have hfl : (news.take (N)).flatten.length = N * s2 := by
  rw [flat_len (s := s2) (fun e he => by
   obtain ⟨m, hm⟩ := List.mem_iff_getElem?.1 he
   exact (hft.2.2 m e hm).1)]
  rw [List.length_take, Nat.min_eq_left hnle]
 have hul : (vs.take (N * s2)).length = (news.take (N)).flatten.length := by
  rw [hft.1, hfl, List.length_take, Nat.min_eq_left hnle]
 have hmul : (off + N) * s2 <= es.length * s2 := Nat.mul_le_mul_right _ (by omega)
 obtain ⟨g1, g2⟩ := flat_store (P := P) (i := off) (o := 0) hh hb hrow hf hul hft.2.1 (by
  rw [List.all_eq_true]
  intro v hv
  obtain ⟨e, hem, hve⟩ := List.mem_flatten.1 hv
  exact List.all_eq_true.1 (hone e (List.mem_of_mem_take hem)) v hve) (fun j v u hj huj => by
   obtain ⟨m, e, x, k1, k2, k3, rfl⟩ := flat_get (s := s2) (fun e he => by
    obtain ⟨m, hm⟩ := List.mem_iff_getElem?.1 he
    exact (hft.2.2 m e hm).1) hj
   obtain ⟨u', hu', hr'⟩ := (hft.2.2 m e k1).2 x v k2
   rw [huj] at hu'; injection hu' with hu'; subst hu'
   exact hr') (by rw [hfl]; rw [Nat.add_mul] at hmul; omega)
 have hload := run_loadCells_list (P := P) w ay (vs.take (N * s2)) (fun j u hj => hvs j u (by
  rw [List.getElem?_take] at hj
  split at hj
  ·exact hj
  ·cases hj))
 have hvl : (vs.take (N * s2)).length = N * s2 := by rw [hul, hfl]
 rw [hvl] at hload
 refine ⟨.int .i64 (((N : Nat) : Int)), _, Z, φ, ?_, .int _ _, ZLe.refl _, PLe.refl _, g2⟩
 subst ha2
 rw [Nat.add_zero] at g1
 rw [hls] at g1 ⊢
 unfold loadCells at hload
 simp [Builtin.copy_, run_underlying' hu, sizeOf, typeInfo, hi, hiz, Builtin.lenOf, Builtin.firstCells, <- hN, hload, g1, Sem.run_bind, go_sem, goInt]
theorem sound_strBytes (hh : HRel base w0 Z φ H nx w) {src dst : TypeId} {x r : AV} {u : Value} {H' : Heap} {nx' : Nat} (hx : Rep Z φ x u) (hr : astrBytes P src dst x H nx = some (r, H', nx')) :
  ValOk base w0 Z φ r H' nx' ((convert src dst u).run P w) := by
 unfold astrBytes at hr
 split at hr
 ·rename_i e s h1 h2
  split at hr
  ·rename_i h3
   injection hr with hr
   simp only [Prod.mk.injEq] at hr
   obtain ⟨rfl, rfl, rfl⟩ := hr
   cases hx
   have hrun := run_bytes_of_string (P := P) w src dst e ⟨s.toArray⟩ h1 h2 h3
   have hge := grownCap_ge w s.length 0 e
   have hsz : (⟨s.toArray⟩ : ByteArray).size = s.length := by simp [ByteArray.size]
   have hrow := row_new (w := w.drew) (e := e) (s := 1) (es := bytesL s) (lim := grownCap w s.length 0 e) (c := bytesRow ⟨s.toArray⟩ (grownCap w s.length 0 e))
    (fz := ((bytesRow ⟨s.toArray⟩ (grownCap w s.length 0 e)).size, (bytesRow ⟨s.toArray⟩ (grownCap w s.length 0 e)).size + 1)) hh.drew (by simp [bytesL]; exact hge) (by simp [bytesRow, hsz]; omega) (fun x hx => by simp only; omega) (fun i el hi => by
     simp only [bytesL, List.getElem?_map, Option.map_eq_some_iff] at hi
     obtain ⟨b, hb, rfl⟩ := hi
     refine ⟨rfl, rfl, fun j v hj => ?_⟩
     cases j with
     | succ j => simp at hj
     | zero =>
      simp only [List.getElem?_cons_zero, Option.some.injEq] at hj; subst hj
      have hlt := (List.getElem?_eq_some_iff.1 hb).1
      exact ⟨_, by simp only [bytesRow]; rw [Array.getElem?_append_left (by simpa using hlt)]; simp [hb], .int _ _⟩)
   rw [hsz] at hrun
   refine ⟨_, _, Z, _, hrun, ?_, ZLe.refl _, PMap.le_set (hh.fresh (Nat.le_refl _)), hrow⟩
   exact .sl (PMap.set_self _ _ _) rfl hge hge (by simp) (.inl (by show _ = _; simp))
  ·cases hr
 ·cases hr
theorem sound_e (hh : HRel base w0 Z φ H nx w) {F : Fr} {a : Act} (hF : FrRel Z φ F a.tmps) {o : Oper} {r : AV} {H' : Heap} {nx' : Nat} (hr : ae P o.op F H nx = some (r, H', nx')) :
  OutOk base w0 Z φ r H' nx' ((execOp a.eval o).run P w) := by
 obtain ⟨d, op, t, p, af, g⟩ := o
 simp only at hr
 cases op <;> simp only [ae] at hr <;> try (cases hr; done)
 case alloc t => exact (sound_alloc hh hr).out
 case box t x => exact (sound_box hh (rep_ev hh.gl hF x) hr).out
 case buildSlice t len ps => exact (sound_buildSlice hh (by simp) (repP_ev hh.gl hF ps) hr).out
 case store t x v => exact outUnit (sound_store hh (rep_ev hh.gl hF x) (rep_ev hh.gl hF v) hr)
 case convert s d x => exact (sound_strBytes hh (rep_ev hh.gl hF x) hr).out
 case makeMap t x => exact (sound_makeMap hh (repO_ev hh.gl hF x) hr).out
 case makeSlice t l c => exact (sound_makeSlice hh (rep_ev hh.gl hF l) (rep_ev hh.gl hF c) hr).out
 case mapUpdate t m k v => exact outUnit (sound_mapUpdate hh (rep_ev hh.gl hF m) (rep_ev hh.gl hF k) (rep_ev hh.gl hF v) hr)
 case slice t x lo hi mx => exact (sound_arrSlice hh (rep_ev hh.gl hF x) (repO_ev hh.gl hF lo) (repO_ev hh.gl hF hi) (repO_ev hh.gl hF mx) hr).out
 case insert t m k v => exact outUnit (sound_mapUpdate hh (rep_ev hh.gl hF m) (rep_ev hh.gl hF k) (rep_ev hh.gl hF v) hr)
 case call c =>
  obtain ⟨callee, args, argTypes⟩ := c
  unfold aecall at hr
  split at hr
  ·rename_i hcal
   simp only at hcal
   subst hcal
   split at hr
   ·rename_i x y t1 t2 hx ht
    simp only at hx ht
    have e1 : args = #[x, y] := by apply Array.ext'; simpa using hx
    have e2 : argTypes = #[t1, t2] := by apply Array.ext'; simpa using ht
    subst e1 e2
    split at hr
    ·rename_i htt
     subst htt
     have hv := sound_append (ty := t) hh (rep_ev hh.gl hF x) (rep_ev hh.gl hF y) hr
     obtain ⟨v, w', Z', φ', h1, h2, h3, h4, h5⟩ := hv
     refine ⟨.value v, w', Z', φ', ?_, .inl ⟨v, rfl, h2⟩, h3, h4, h5⟩
     refine run_builtin fun _ => ?_
     rw [show (#[x, y] : Array Operand).map a.eval = #[a.eval x, a.eval y] from by simp]
     exact run_bind' h1 rfl
    ·cases hr
   ·cases hr
  ·rename_i hcal
   simp only at hcal
   subst hcal
   split at hr
   ·rename_i x y t1 t2 hx ht
    simp only at hx ht
    have e1 : args = #[x, y] := by apply Array.ext'; simpa using hx
    have e2 : argTypes = #[t1, t2] := by apply Array.ext'; simpa using ht
    subst e1 e2
    split at hr
    ·rename_i htt
     subst htt
     have hv := sound_copy (ty := t) hh (rep_ev hh.gl hF x) (rep_ev hh.gl hF y) hr
     obtain ⟨v, w', Z', φ', h1, h2, h3, h4, h5⟩ := hv
     refine ⟨.value v, w', Z', φ', ?_, .inl ⟨v, rfl, h2⟩, h3, h4, h5⟩
     refine run_builtin fun _ => ?_
     rw [show (#[x, y] : Array Operand).map a.eval = #[a.eval x, a.eval y] from by simp]
     exact run_bind' h1 rfl
    ·cases hr
   ·cases hr
  ·cases hr
end
end Go.Lom

/- Code over abstract states: what is asked of it, and the rules. -/
namespace Go.Lom
open Go.RowKit
def Wf (ro : Option Nat) : Fence := { Fence.wide with round := ro }
theorem wf_depth (ro : Option Nat) (h : (Wf ro).depth.isSome = true) : 1 <= 0 := by simp [Wf, Fence.wide] at h
theorem callsIn_wf {ro : Option Nat} {P : Program} {f : FuncId} {args : Array Value} {w : World} {R : Ending -> World -> Prop} (h : Calls P f args w R) : CallsIn (Wf ro) 0 P f args w R :=
 (callsIn_wide (n := 0)).2 h
def noDef (o : Oper) : Bool := match o.op with | .defer _ => false | _ => true
def plainB : Code -> Bool
 | .region _ ops _ => ops.all noDef
 | .seq a b => plainB a && plainB b
 | .cond _ a b => plainB a && plainB b
 | .block _ c => plainB c
 | .loop c => plainB c
 | .scope c => plainB c
 | .rangeFunc _ _ _ _ => false
 | _ => true
def InRo (ro : Option Nat) (c : Code) : Prop := ro = none \/ plainB c = true
theorem InRo.seq {ro : Option Nat} {a b : Code} (h : InRo ro (.seq a b)) : InRo ro a /\ InRo ro b := by
 rcases h with h | h
 ·exact ⟨.inl h, .inl h⟩
 ·simp only [plainB, Bool.and_eq_true] at h; exact ⟨.inr h.1, .inr h.2⟩
theorem InRo.cond {ro : Option Nat} {o : Operand} {a b : Code} (h : InRo ro (.cond o a b)) : InRo ro a /\ InRo ro b := by
 rcases h with h | h
 ·exact ⟨.inl h, .inl h⟩
 ·simp only [plainB, Bool.and_eq_true] at h; exact ⟨.inr h.1, .inr h.2⟩
theorem InRo.block {ro : Option Nat} {id : Nat} {c : Code} (h : InRo ro (.block id c)) : InRo ro c := h
theorem InRo.loop {ro : Option Nat} {c : Code} (h : InRo ro (.loop c)) : InRo ro c := h
theorem InRo.scope {ro : Option Nat} {c : Code} (h : InRo ro (.scope c)) : InRo ro c := h
theorem InRo.none {c : Code} : InRo none c := .inl rfl
def OpsRo (ro : Option Nat) (ops : Array Oper) : Prop := ro = none \/ ops.all noDef = true
theorem InRo.region {ro : Option Nat} {id : Nat} {ops : Array Oper} {d : Bool} (h : InRo ro (.region id ops d)) : OpsRo ro ops := h
theorem OpsRo.at {ro : Option Nat} {ops : Array Oper} (h : OpsRo ro ops) {i : Nat} {o : Oper} (ho : ops[i]? = some o) : ro = none \/ noDef o = true := by
 rcases h with h | h
 ·exact .inl h
 ·refine .inr ?_
  rw [Array.all_eq_true] at h
  obtain ⟨hi, ho⟩ := Array.getElem?_eq_some_iff.1 ho
  rw [<- ho]; exact h i hi
def opW (ro : Option Nat) (P : Program) (o : Oper) (a : Act) (w : World) (next : Act -> World -> Prop) (Q : Exit -> Act -> World -> Prop) : Prop :=
 o.uponIn (Wf ro) 0 P a next Q ((o.semAt ro a.eval).run P w)
theorem semAt_ro {ro : Option Nat} {o : Oper} (h : ro = none \/ noDef o = true) (ρ : Operand -> Value) : o.semAt ro ρ = execOp ρ o := by
 rcases h with rfl | h
 ·rfl
 ·exact Oper.semAt_eq ro ρ o fun c hc => by unfold noDef at h; rw [hc] at h; cases h
theorem opW_mono {ro : Option Nat} {P : Program} {o : Oper} {a : Act} {w : World} {K K' : Act -> World -> Prop} {R R' : Exit -> Act -> World -> Prop} (hK : ∀ a w, K a w -> K' a w) (hQ : ∀ e a w, R e a w -> R' e a w)
  (hh : opW ro P o a w K R) : opW ro P o a w K' R' := by
 unfold opW at *
 generalize (o.semAt ro a.eval).run P w = r at *
 cases r with
 | ok n w' =>
  cases n <;> simp only [Oper.uponIn] at hh ⊢ <;>
   first
    | exact hK _ _ hh
    | exact ⟨hh.1, CallsIn.mono hh.2 (fun e w'' he => by cases e <;> first | exact hK _ _ he | exact hQ _ _ _ he | exact (let ⟨a, w, h⟩ := he; ⟨a, w, hQ _ _ _ h⟩))⟩
    | exact ⟨hh.1, RoundIn.mono hh.2 (fun e w'' he => by cases e <;> first | exact hK _ _ he | exact hQ _ _ _ he | exact (let ⟨a, w, h⟩ := he; ⟨a, w, hQ _ _ _ h⟩))⟩
    | exact ⟨hh.1, RowsIn.mono hh.2 (fun _ _ he => hK _ _ he)⟩
 | halt x w' => cases x <;> simp only [Oper.uponIn] at hh ⊢ <;> first | exact hh | exact hQ _ _ _ hh
def opsW (ro : Option Nat) (P : Program) (ops : Array Oper) (Q : Exit -> Act -> World -> Prop) : List Nat -> Act -> World -> Prop
 | [], a, w => Q .normal a w
 | i :: rest, a, w => match ops[i]? with
  | none => opsW ro P ops Q rest a w
  | some o => if Region.wanted o (yielded ops a.tmps) then opW ro P o a w (opsW ro P ops Q rest) Q else opsW ro P ops Q rest (a.put o.dst undef) w
theorem opsW_in {ro : Option Nat} {P : Program} {ops : Array Oper} {Q : Exit -> Act -> World -> Prop} : ∀ (l : List Nat) (a : Act) (w : World), opsW ro P ops Q l a w -> wpOpsIn (Wf ro) 0 P ops Q l a w
 | [], a, w, h => h
 | i :: rest, a, w, h => by
  simp only [opsW] at h
  simp only [wpOpsIn]
  split
  ·rename_i ho; rw [ho] at h; exact opsW_in rest a w h
  ·rename_i o ho
   rw [ho] at h
   simp only at h
   split
   ·rename_i hw
    rw [if_pos hw] at h
    exact ⟨fun _ _ => trivial, opW_mono (fun a w h => opsW_in rest a w h) (fun _ _ _ h => h) h⟩
   ·rename_i hw
    rw [if_neg hw] at h
    exact ⟨fun _ _ => trivial, opsW_in rest _ _ h⟩
theorem opsW_mono {ro : Option Nat} {P : Program} {ops : Array Oper} {R R' : Exit -> Act -> World -> Prop} (hQ : ∀ e a w, R e a w -> R' e a w) : ∀ {l : List Nat} {a : Act} {w : World}, opsW ro P ops R l a w -> opsW ro P ops R' l a w
 | [], a, w, h => hQ _ _ _ h
 | i :: l, a, w, h => by
  simp only [opsW] at h ⊢
  split
  ·rename_i ho; rw [ho] at h; exact opsW_mono hQ h
  ·rename_i o ho
   rw [ho] at h
   simp only at h
   split
   ·rename_i hw
    rw [if_pos hw] at h
    exact opW_mono (fun _ _ h => opsW_mono hQ h) hQ h
   ·rename_i hw
    rw [if_neg hw] at h
    exact opsW_mono hQ h
def noGoto (Q : Exit -> Act -> World -> Prop) : Exit -> Act -> World -> Prop
 | .goto _, _, _ => False
 | e, a, w => Q e a w
section
variable {P : Program} {b : Frame} {a : Act} {k : List Item} {cs : List Frame} {w : World} {Q : Exit -> Act -> World -> Prop}
theorem stepR_scope {c : Code} : step P (lone (b.atR a (.code (.scope c) :: k)) cs w) = .next (lone (b.atR a (.code c :: .inScope c :: k)) cs w) :=
 step_lone_go (by simp [stepG, stepG.exec, Frame.atR])
theorem stepR_inScope {c : Code} : step P (lone (b.atR a (.inScope c :: k)) cs w) = .next (lone (b.atR a k) cs w) :=
 step_lone_go (by simp [stepG, stepG.exec, Frame.atR])
theorem wpIn_scope_straight {F : Fence} {n : Nat} {c : Code} (h : c.wpIn F n P (noGoto Q) a w) : (Code.scope c).wpIn F n P Q a w := by
 intro b k cs hro hb hr
 obtain ⟨e, a₁, w₁, hq, harr⟩ := h b (.inScope c :: k) cs hro hb hr
 have h0 : ∀ k' a w, (k' = .code (.scope c) :: k \/ k' = .inScope c :: k) -> (lone (b.atR a k') cs w).fenced P F := fun k' a w hk => fenced_calm hb hr (by rcases hk with rfl | rfl <;> rfl)
 have s1 : StepsIn (Machine.fenced P F) P (lone (b.atR a (.code (.scope c) :: k)) cs w) (lone (b.atR a (.code c :: .inScope c :: k)) cs w) := .one (h0 _ _ _ (.inl rfl)) stepR_scope
 cases e with
 | normal => exact ⟨.normal, a₁, w₁, hq, StepsIn.trans s1 (StepsIn.trans harr (.one (h0 _ _ _ (.inr rfl)) stepR_inScope))⟩
 | exit id =>
  have hx : exitTo id (.inScope c :: k) = exitTo id k := by simp [exitTo]
  exact ⟨.exit id, a₁, w₁, hq, fun k' hk => StepsIn.trans s1 (harr.1 k' (by rw [hx]; exact hk)), fun hr' hk => let ⟨k₁, h1, h2⟩ := harr.2 hr' (by rw [hx]; exact hk); ⟨k₁, h1, StepsIn.trans s1 h2⟩⟩
 | goto l => exact hq.elim
 | ret => exact ⟨_, a₁, w₁, hq, .of_steps s1 harr⟩
 | panic ch => exact ⟨_, a₁, w₁, hq, .of_steps s1 harr⟩
 | outgrown => exact ⟨_, a₁, w₁, hq, .of_steps s1 harr⟩
end
inductive ADef where
 | call (f : FuncId) (args : List AV)
 | mark (b : Nat)
 | many
structure St where
 fr : Fr
 H : Heap
 nx : Nat
 df : List ADef
inductive AX where
 | normal
 | exit (id : Nat)
 | ret
 | panic (v : AV)
inductive AE where
 | ret (v : AV)
 | panic (v : AV)
def XRel (Z : ZMap) (φ : PMap) : AX -> Exit -> Prop
 | .normal, .normal => True
 | .exit i, .exit j => i = j
 | .ret, .ret => True
 | .panic v, .panic chain => ∃ u, chain = [{ v := u, recovered := false }] /\ Rep Z φ v u
 | _, _ => False
def ERel (Z : ZMap) (φ : PMap) : AE -> Ending -> Prop
 | .ret v, .returned u => Rep Z φ v u
 | .panic v, .panicked chain => ∃ u, chain = [{ v := u, recovered := false }] /\ Rep Z φ v u
 | _, _ => False
def funcOk (P : Program) (k : FuncId) : Bool :=
 match P.funcs[k]? with
 | some fn => fn.body.isSome && !(fn.name == "runtime.NumGoroutine")
 | none => false
inductive DfM (P : Program) (fl : Nat) (Z : ZMap) (φ : PMap) : List ADef -> List Deferred -> Prop
 | nil : DfM P fl Z φ [] []
 | call {f : FuncId} {args : List AV} {caps : Array Value} {d : Deferred} {xs : List ADef} {ds : List Deferred} (ht : d.target = .fn (.func f) caps) (hr : Reps Z φ args (d.args ++ caps)) (hf : funcOk P f = true) (h : DfM P fl Z φ xs ds) : DfM P fl Z φ (.call f args :: xs) (d :: ds)
 | mark {b : Nat} {l : Loc} {d : Deferred} {xs : List ADef} {ds : List Deferred} (hl : φ b = some l) (ht : d.target = .collected l.B) (hB : fl <= l.B) (h : DfM P fl Z φ xs ds) : DfM P fl Z φ (.mark b :: xs) (d :: ds)
 | none {xs : List ADef} {ds : List Deferred} (h : DfM P fl Z φ xs ds) : DfM P fl Z φ (.many :: xs) ds
 | more {B : Nat} {d : Deferred} {xs : List ADef} {ds : List Deferred} (hz : Z B = some (.deferred (some []))) (ht : d.target = .collected B) (hB : fl <= B) (h : DfM P fl Z φ (.many :: xs) ds) : DfM P fl Z φ (.many :: xs) (d :: ds)
def apartD (ds : List Deferred) : Prop := ds.Pairwise fun d d' => ∀ B, d.target = .collected B -> d'.target ≠ .collected B
structure DfRel (P : Program) (fl : Nat) (Z : ZMap) (φ : PMap) (xs : List ADef) (ds : List Deferred) : Prop where
 m : DfM P fl Z φ xs ds
 ap : apartD ds
theorem DfM.mono {P : Program} {fl : Nat} {Z Z' : ZMap} {φ φ' : PMap} (hZ : ZLe Z Z') (hφ : PLe φ φ') {xs : List ADef} {ds : List Deferred} (h : DfM P fl Z φ xs ds) : DfM P fl Z' φ' xs ds := by
 induction h with
 | nil => exact .nil
 | call ht hr hf h ih => exact .call ht (hr.mono hZ hφ) hf ih
 | mark hl ht hB h ih => exact .mark (hφ _ _ hl) ht hB ih
 | none h ih => exact .none ih
 | more hz ht hB h ih => exact .more (hZ _ _ hz) ht hB ih
theorem DfRel.mono {P : Program} {fl : Nat} {Z Z' : ZMap} {φ φ' : PMap} (hZ : ZLe Z Z') (hφ : PLe φ φ') {xs : List ADef} {ds : List Deferred} (h : DfRel P fl Z φ xs ds) : DfRel P fl Z' φ' xs ds := ⟨h.m.mono hZ hφ, h.ap⟩
theorem DfRel.nil (P : Program) (fl : Nat) (Z : ZMap) (φ : PMap) : DfRel P fl Z φ [] [] := ⟨.nil, .nil⟩
theorem DfRel.eq_nil {P : Program} {fl : Nat} {Z : ZMap} {φ : PMap} {ds : List Deferred} (h : DfRel P fl Z φ [] ds) : ds = [] := by
 obtain ⟨h, _⟩ := h
 cases h; rfl
theorem DfM.del {P : Program} {fl : Nat} {Z : ZMap} {φ : PMap} {B : Nat} {o : Obj} (hz : Z B = some o) (ho : isDef o = true) {xs : List ADef} {ds : List Deferred} (h : DfM P fl Z φ xs ds) (hd : ∀ d ∈ ds, d.target ≠ .collected B) : DfM P fl (zdel Z B) φ xs ds := by
 induction h with
 | nil => exact .nil
 | call ht hr hf h ih => exact .call ht (hr.monoD (zdel_leD hz ho) (PLe.refl _)) hf (ih fun d hm => hd d (List.mem_cons_of_mem _ hm))
 | mark hl ht hB h ih => exact .mark hl ht hB (ih fun d hm => hd d (List.mem_cons_of_mem _ hm))
 | none h ih => exact .none (ih hd)
 | more hz ht hB h ih => exact .more (by rw [zdel_ne]; exact hz; rintro rfl; exact hd _ (List.mem_cons_self ..) ht) ht hB (ih fun d hm => hd d (List.mem_cons_of_mem _ hm))
theorem DfM.lt {P : Program} {base : Nat -> Prop} {w0 : Start} {fl : Nat} {Z : ZMap} {φ : PMap} {H : Heap} {nx : Nat} {w : World} (hH : HRel base w0 Z φ H nx w) {xs : List ADef} {ds : List Deferred} (h : DfM P fl Z φ xs ds) : ∀ d ∈ ds, ∀ B, d.target = .collected B -> B < w.heap.size := by
 induction h with
 | nil => intro d hm; cases hm
 | call ht hr hf h ih =>
  intro d hm B hB
  rcases List.mem_cons.1 hm with rfl | hm
  ·rw [ht] at hB; cases hB
  ·exact ih d hm B hB
 | mark hl ht hB' h ih =>
  intro d hm B hB
  rcases List.mem_cons.1 hm with rfl | hm
  ·rw [ht] at hB; injection hB with hB; rw [<- hB]; exact hH.flt _ _ hl
  ·exact ih d hm B hB
 | none h ih => exact ih
 | more hz ht hB' h ih =>
  intro d hm B hB
  rcases List.mem_cons.1 hm with rfl | hm
  ·rw [ht] at hB; injection hB with hB; subst hB
   have := hH.z _ _ hz
   rcases Nat.lt_or_ge _ w.heap.size with hl | hg
   ·exact hl
   ·rw [Array.getElem?_eq_none hg] at this; cases this
  ·exact ih d hm B hB
structure SRel (P : Program) (base : Nat -> Prop) (w0 : Start) (Z : ZMap) (φ : PMap) (N : Nat) (σ : St) (a : Act) (w : World) : Prop where
 fr : FrRel Z φ σ.fr a.tmps
 size : a.tmps.size = N
 df : DfRel P w0.world.heap.size Z φ σ.df a.defers
 heap : HRel base w0 Z φ σ.H σ.nx w
def PLe0 (n0 : Nat) (φ φ' : PMap) : Prop := ∀ b x, b < n0 -> φ b = some x -> φ' b = some x
theorem PLe.to0 {n0 : Nat} {φ φ' : PMap} (h : PLe φ φ') : PLe0 n0 φ φ' := fun b x _ hx => h b x hx
theorem PLe0.refl (n0 : Nat) (φ : PMap) : PLe0 n0 φ φ := fun _ _ _ h => h
theorem PLe0.trans {n0 : Nat} {a b c : PMap} (h : PLe0 n0 a b) (k : PLe0 n0 b c) : PLe0 n0 a c := fun B o hb x => k B o hb (h B o hb x)
def Lift (P : Program) (base : Nat -> Prop) (w0 : Start) (N n0 : Nat) (Z : ZMap) (φ : PMap) (Q : AX -> St -> Prop) : Exit -> Act -> World -> Prop := fun e a w =>
 ∃ Z' φ' x σ, ZLe Z Z' /\ PLe0 n0 φ φ' /\ XRel Z' φ' x e /\ SRel P base w0 Z' φ' N σ a w /\ Q x σ
theorem Lift.mono {P : Program} {base : Nat -> Prop} {w0 : Start} {N n0 : Nat} {Z Z' : ZMap} {φ φ' : PMap} {Q Q' : AX -> St -> Prop} (hZ : ZLe Z Z') (hφ : PLe0 n0 φ φ') (hQ : ∀ x σ, Q x σ -> Q' x σ) {e : Exit} {a : Act} {w : World}
  (h : Lift P base w0 N n0 Z' φ' Q e a w) : Lift P base w0 N n0 Z φ Q' e a w :=
 let ⟨Z2, φ2, x, σ, h1, h2, h3, h4, h5⟩ := h
 ⟨Z2, φ2, x, σ, hZ.trans h1, hφ.trans h2, h3, h4, hQ _ _ h5⟩
def SWp (P : Program) (N n0 : Nat) (c : Code) (Q : AX -> St -> Prop) (σ : St) : Prop :=
 ∀ ro base w0 Z φ a w, InRo ro c -> SRel P base w0 Z φ N σ a w -> c.wpIn (Wf ro) 0 P (Lift P base w0 N n0 Z φ Q) a w
def SYield (P : Program) (b : Nat) (avs : List AV) (H : Heap) (nx : Nat) (R : AE -> Heap -> Nat -> Prop) : Prop :=
 ∀ base w0 Z φ w us l, HRel base w0 Z φ H nx w -> Reps Z φ avs us -> φ b = some l ->
  ∃ r, w.heap[l.B]? = some (.loop r) /\ us.size = r.params.size /\
   RoundIn Fence.wide 0 P l.B r.fn ((r.params.zip us).foldl (fun tmps (t, a) => tmps.setIfInBounds t a) r.tmps) r.assign r.body w
    fun e w' => ∃ Z' φ' x H' nx', ZLe Z Z' /\ PLe φ φ' /\ ERel Z' φ' x e /\ HRel base w0 Z' φ' H' nx' w' /\ R x H' nx'
theorem SYield.mono {P : Program} {b : Nat} {avs : List AV} {H : Heap} {nx : Nat} {R R' : AE -> Heap -> Nat -> Prop} (h : SYield P b avs H nx R) (hr : ∀ x H' nx', R x H' nx' -> R' x H' nx') : SYield P b avs H nx R' :=
 fun base w0 Z φ w us l hh hr1 hl => let ⟨r, h1, h2, h3⟩ := h base w0 Z φ w us l hh hr1 hl; ⟨r, h1, h2, h3.mono fun e w' ⟨Z', φ', x, H', nx', a, b, c, d, e'⟩ => ⟨Z', φ', x, H', nx', a, b, c, d, hr _ _ _ e'⟩⟩
def SCall (P : Program) (k : FuncId) (avs : List AV) (H : Heap) (nx : Nat) (R : AE -> Heap -> Nat -> Prop) : Prop :=
 ∀ base w0 Z φ w us, HRel base w0 Z φ H nx w -> Reps Z φ avs us ->
  Calls P k us w fun e w' => ∃ Z' φ' x H' nx', ZLe Z Z' /\ PLe φ φ' /\ ERel Z' φ' x e /\ HRel base w0 Z' φ' H' nx' w' /\ R x H' nx'
theorem SCall.mono {P : Program} {k : FuncId} {avs : List AV} {H : Heap} {nx : Nat} {R R' : AE -> Heap -> Nat -> Prop} (h : SCall P k avs H nx R) (hr : ∀ x H' nx', R x H' nx' -> R' x H' nx') : SCall P k avs H nx R' :=
 fun base w0 Z φ w us hh hr1 => (h base w0 Z φ w us hh hr1).mono fun e w' ⟨Z', φ', x, H', nx', a, b, c, d, e'⟩ => ⟨Z', φ', x, H', nx', a, b, c, d, hr _ _ _ e'⟩
section
variable {P : Program} {N n0 : Nat} {Q : AX -> St -> Prop} {σ : St}
theorem SWp.mono {c : Code} {Q' : AX -> St -> Prop} (h : SWp P N n0 c Q σ) (hq : ∀ x σ, Q x σ -> Q' x σ) : SWp P N n0 c Q' σ :=
 fun ro base w0 Z φ a w hro hs => wpIn_mono (h ro base w0 Z φ a w hro hs) fun e a w hl => hl.mono (ZLe.refl _) (PLe0.refl _ _) hq
theorem swp_skip (h : Q .normal σ) : SWp P N n0 .skip Q σ := fun ro base w0 Z φ a w hro hs => wpIn_skip ⟨Z, φ, .normal, σ, ZLe.refl _, PLe0.refl _ _, trivial, hs, h⟩
theorem swp_exit {id : Nat} (h : Q (.exit id) σ) : SWp P N n0 (.exit id) Q σ := fun ro base w0 Z φ a w hro hs => wpIn_exit ⟨Z, φ, .exit id, σ, ZLe.refl _, PLe0.refl _ _, rfl, hs, h⟩
theorem swp_ret (h : Q .ret σ) : SWp P N n0 .ret Q σ := fun ro base w0 Z φ a w hro hs => wpIn_ret ⟨Z, φ, .ret, σ, ZLe.refl _, PLe0.refl _ _, trivial, hs, h⟩
def AX.then (next : St -> Prop) (Q : AX -> St -> Prop) : AX -> St -> Prop
 | .normal, σ => next σ
 | x, σ => Q x σ
theorem swp_seq {x y : Code} (h : SWp P N n0 x (AX.then (SWp P N n0 y Q) Q) σ) : SWp P N n0 (.seq x y) Q σ := by
 intro ro base w0 Z φ a w hro hs
 refine wpIn_seq (wpIn_mono (h ro base w0 Z φ a w hro.seq.1 hs) fun e a w hl => ?_)
 obtain ⟨Z', φ', x, σ', h1, h2, h3, h4, h5⟩ := hl
 cases x with
 | normal =>
  cases e <;> try exact h3.elim
  exact wpIn_mono (h5 ro base w0 Z' φ' a w hro.seq.2 h4) fun e a w hl => hl.mono h1 h2 fun _ _ h => h
 | exit i =>
  cases e <;> try exact h3.elim
  exact ⟨Z', φ', .exit i, σ', h1, h2, h3, h4, h5⟩
 | ret =>
  cases e <;> try exact h3.elim
  exact ⟨Z', φ', .ret, σ', h1, h2, h3, h4, h5⟩
 | panic v =>
  cases e <;> try exact h3.elim
  exact ⟨Z', φ', .panic v, σ', h1, h2, h3, h4, h5⟩
theorem ev_bool {Z : ZMap} {φ : PMap} {F : Fr} {a : Act} (gl : GlobOk Z) (hF : FrRel Z φ F a.tmps) {c : Operand} {b : Bool} (h : ev F c = .bool b) : a.eval c = .bool b := by
 have := rep_ev gl hF c
 rw [h] at this
 generalize a.eval c = u at this
 cases this; rfl
theorem swp_cond {c : Operand} {x y : Code} {b : Bool} (hc : ev σ.fr c = .bool b) (h1 : b = true -> SWp P N n0 x Q σ) (h2 : b = false -> SWp P N n0 y Q σ) : SWp P N n0 (.cond c x y) Q σ :=
 fun ro base w0 Z φ a w hro hs => wpIn_cond_split (ev_bool hs.heap.gl hs.fr hc) (fun hb => h1 hb ro base w0 Z φ a w hro.cond.1 hs) (fun hb => h2 hb ro base w0 Z φ a w hro.cond.2 hs)
def AX.inBlock (id : Nat) (Q : AX -> St -> Prop) : AX -> St -> Prop
 | .exit i, σ => if i = id then Q .normal σ else Q (.exit i) σ
 | x, σ => Q x σ
theorem swp_block {id : Nat} {c : Code} (h : SWp P N n0 c (AX.inBlock id Q) σ) : SWp P N n0 (.block id c) Q σ := by
  intro ro base w0 Z φ a w hro hs
  refine wpIn_block (wpIn_mono (h ro base w0 Z φ a w hro.block hs) fun e a w hl => ?_)
  obtain ⟨Z', φ', x, σ', h1, h2, h3, h4, h5⟩ := hl
  cases x with
  | normal => cases e <;> try exact h3.elim
              exact ⟨Z', φ', .normal, σ', h1, h2, trivial, h4, h5⟩
  | exit i =>
    cases e <;> try exact h3.elim
    rename_i j
    have hij : i = j := h3
    subst hij
    simp only [AX.inBlock] at h5
    simp only [Exit.inBlock]
    by_cases hi : i = id
    · rw [if_pos hi] at h5 ⊢; exact ⟨Z', φ', .normal, σ', h1, h2, trivial, h4, h5⟩
    · rw [if_neg hi] at h5 ⊢; exact ⟨Z', φ', .exit i, σ', h1, h2, rfl, h4, h5⟩
  | ret => cases e <;> try exact h3.elim
           exact ⟨Z', φ', .ret, σ', h1, h2, trivial, h4, h5⟩
  | panic v => cases e <;> try exact h3.elim
               exact ⟨Z', φ', .panic v, σ', h1, h2, h3, h4, h5⟩
theorem swp_label {l : Nat} (h : Q .normal σ) : SWp P N n0 (.label l) Q σ := fun ro base w0 Z φ a w hro hs => wpIn_label ⟨Z, φ, .normal, σ, ZLe.refl _, PLe0.refl _ _, trivial, hs, h⟩
theorem swp_scope {c : Code} (h : SWp P N n0 c Q σ) : SWp P N n0 (.scope c) Q σ := by
 intro ro base w0 Z φ a w hro hs
 refine wpIn_scope_straight (wpIn_mono (h ro base w0 Z φ a w hro.scope hs) fun e a w hl => ?_)
 cases e with
 | goto l =>
  obtain ⟨Z', φ', x, σ', h1, h2, h3, h4, h5⟩ := hl
  cases x <;> exact h3.elim
 | _ => exact hl
theorem swp_loop {c : Code} (I : Nat -> St -> Prop) {n : Nat} (h0 : I n σ) (hI : ∀ n σ, I n σ -> SWp P N n0 c (AX.then (fun σ' => ∃ m, m < n /\ I m σ') Q) σ) : SWp P N n0 (.loop c) Q σ := by
 intro ro base w0 Z φ a w hro hs b k cs hrb hb hr
 have key : ∀ n σ, I n σ -> ∀ Z φ a w, SRel P base w0 Z φ N σ a w ->
   ∃ e a' w', Lift P base w0 N n0 Z φ Q e a' w' /\ ArrivesIn (Machine.fenced P (Wf ro)) P (lone (b.atR a (.code c :: .inLoop c :: k)) cs w) b k cs e a' w' := by
  intro n
  induction n using Nat.strongRecOn with
  | _ n ih =>
   intro σ hσ Z φ a w hs
   obtain ⟨e, a₁, w₁, hq, harr⟩ := hI n σ hσ ro base w0 Z φ a w hro.loop hs b (.inLoop c :: k) cs hrb hb hr
   obtain ⟨Z', φ', x, σ', h1, h2, h3, h4, h5⟩ := hq
   cases x with
   | normal =>
    cases e <;> try exact h3.elim
    obtain ⟨m, hm, hIm⟩ := h5
    obtain ⟨e₂, a₂, w₂, hq₂, harr₂⟩ := ih m hm σ' hIm Z' φ' a₁ w₁ h4
    exact ⟨e₂, a₂, w₂, hq₂.mono h1 h2 fun _ _ h => h, .of_steps (StepsIn.trans harr (.one (fenced_calm hb hr rfl) stepR_inLoop)) harr₂⟩
   | exit i =>
    cases e <;> try exact h3.elim
    exact ⟨_, a₁, w₁, ⟨Z', φ', .exit i, σ', h1, h2, h3, h4, h5⟩, .pass (x := .inLoop c) rfl (fun _ _ => .inl (by simp)) harr⟩
   | ret =>
    cases e <;> try exact h3.elim
    exact ⟨_, a₁, w₁, ⟨Z', φ', .ret, σ', h1, h2, h3, h4, h5⟩, .pass (x := .inLoop c) rfl (fun _ _ => .inl (by simp)) harr⟩
   | panic v =>
    cases e <;> try exact h3.elim
    exact ⟨_, a₁, w₁, ⟨Z', φ', .panic v, σ', h1, h2, h3, h4, h5⟩, .pass (x := .inLoop c) rfl (fun _ _ => .inl (by simp)) harr⟩
 obtain ⟨e, a', w', hq, harr⟩ := key n σ h0 Z φ a w hs
 exact ⟨e, a', w', hq, .of_steps (.one (fenced_calm hb hr rfl) stepR_loop) harr⟩
end
def skipV : AV := .tup []
theorem rep_skip (Z : ZMap) (φ : PMap) : Rep Z φ skipV Go.undef := .tup rfl fun i v u a => by simp at a
def yieldOf : AV -> Option (Option Bool)
 | .bool b => some (some b)
 | .tup [] => some none
 | _ => none
def guardV (ops : Array Oper) (F : Fr) (j : Nat) : Option (Option Bool) :=
 match (ops[j]?).bind (·.dst) with
 | some d => yieldOf (F.get d)
 | none => none
theorem guard_yielded {Z : ZMap} {φ : PMap} {F : Fr} {a : Act} (hF : FrRel Z φ F a.tmps) {N : Nat} (hN : a.tmps.size = N) {ops : Array Oper} {j : Nat} {b : Option Bool} (h : guardV ops F j = some b) : yielded ops a.tmps j = b := by
 unfold guardV at h
 unfold yielded
 cases hd : (ops[j]?).bind (·.dst) with
 | none => rw [hd] at h; cases h
 | some d =>
  rw [hd] at h
  simp only at h
  have hr := hF d
  simp only [Option.bind_some]
  generalize hu : a.tmps.getD d Go.undef = u at hr
  unfold yieldOf at h
  split at h
  ·rename_i c hc
   rw [hc] at hr
   cases hr
   injection h with h; subst h
   have : a.tmps[d]? = some (.bool c) := by
    rw [Array.getD_eq_getD_getElem?] at hu
    cases hx : a.tmps[d]? with
    | none => rw [hx] at hu; simp [Go.undef] at hu
    | some v => rw [hx] at hu; simp at hu; rw [hu]
   rw [this]
  ·rename_i hc
   rw [hc] at hr
   injection h with h; subst h
   rw [Array.getD_eq_getD_getElem?] at hu
   cases hx : a.tmps[d]? with
   | none => rfl
   | some v =>
    rw [hx] at hu
    simp only [Option.getD_some] at hu
    subst hu
    cases hr; rfl
  ·cases h
def dstOk (N : Nat) (o : Oper) : Bool :=
 match o.dst with
 | some d => decide (d < N)
 | none => true
theorem dstOk_lt {N : Nat} {o : Oper} (h : dstOk N o = true) {a : Act} (ha : a.tmps.size = N) : ∀ d, o.dst = some d -> d < a.tmps.size := by
 intro d hd
 have : d < N := by simpa [dstOk, hd] using h
 rw [ha]; exact this
def calleeOf : AV -> Option (FuncId × List AV × List AV)
 | .fn (.func k) first cap => some (k, first, cap)
 | _ => none
def AeOk (P : Program) (o : Oper) (F : Fr) (H : Heap) (nx : Nat) (r : AV) (H' : Heap) (nx' : Nat) : Prop :=
 ∀ base w0 Z φ w (ρ : Operand -> Value), HRel base w0 Z φ H nx w -> (∀ x ∈ o.op.operands.toList, Rep Z φ (ev F x) (ρ x)) -> OutOk base w0 Z φ r H' nx' ((execOp ρ o).run P w)
def AeK (P : Program) (o : Oper) (F : Fr) (H : Heap) (nx : Nat) (K : AV -> Heap -> Nat -> Prop) : Prop :=
 ∀ base w0 Z φ w (ρ : Operand -> Value), HRel base w0 Z φ H nx w -> (∀ x ∈ o.op.operands.toList, Rep Z φ (ev F x) (ρ x)) -> ∃ r H' nx', OutOk base w0 Z φ r H' nx' ((execOp ρ o).run P w) /\ K r H' nx'
theorem AeOk.toK {P : Program} {o : Oper} {F : Fr} {H : Heap} {nx : Nat} {r : AV} {H' : Heap} {nx' : Nat} {K : AV -> Heap -> Nat -> Prop} (h : AeOk P o F H nx r H' nx') (hk : K r H' nx') : AeK P o F H nx K :=
 fun base w0 Z φ w ρ hH hr => ⟨r, H', nx', h base w0 Z φ w ρ hH hr, hk⟩
def isVar : Op -> Bool
 | .alloc _ => true
 | _ => false
def SOpR (P : Program) (o : Oper) (F : Fr) (H : Heap) (nx : Nat) (df : List ADef) (K : AV -> Heap -> Nat -> List ADef -> Prop) (QP : AV -> Heap -> Nat -> Prop) : Prop :=
 match o.op with
 | .panic x => match ev F x with
  | .iface t v => QP (.iface t v) H nx
  | _ => False
 | .defer c => match c.callee with
  | .value f => ∃ k first cap, calleeOf (ev F f) = some (k, first, cap) /\ funcOk P k = true /\ K .undef H nx (.call k (first ++ c.args.toList.map (ev F) ++ cap) :: df)
  | _ => False
 | .call { callee := .value f, args, .. } => (∃ k first cap, calleeOf (ev F f) = some (k, first, cap) /\ funcOk P k = true /\
   SCall P k (first ++ args.toList.map (ev F) ++ cap) H nx fun x H' nx' =>
    match x with
    | .ret v => K v H' nx' df
    | .panic v => QP v H' nx') \/ ∃ b, ev F f = .yf b /\ SYield P b (args.toList.map (ev F)) H nx fun x H' nx' =>
    match x with
    | .ret v => K v H' nx' df
    | .panic v => QP v H' nx'
 | _ => (∃ r, aq P o.op F H = some r /\ K r H nx df) \/ (∃ r H' nx', ae P o.op F H nx = some (r, H', nx') /\ K r H' nx' df) \/ (isVar o.op = false /\ AeK P o F H nx fun r H' nx' => K r H' nx' df)
def SOp (P : Program) (o : Oper) (K : St -> Prop) (Q : AX -> St -> Prop) (σ : St) : Prop :=
 SOpR P o σ.fr σ.H σ.nx σ.df (fun r H nx df => K ⟨σ.fr.put o.dst r, H, nx, df⟩) (fun v H nx => Q (.panic v) ⟨σ.fr, H, nx, σ.df⟩)
section
variable {P : Program} {N n0 : Nat} {Q : AX -> St -> Prop} {σ : St}
theorem reps_append {Z : ZMap} {φ : PMap} {xs ys : List AV} {us vs : Array Value} (h1 : Reps Z φ xs us) (h2 : Reps Z φ ys vs) : Reps Z φ (xs ++ ys) (us ++ vs) := by
 refine ⟨by simp [h1.1, h2.1], fun i v u ha hb => ?_⟩
 rw [Array.getElem?_append] at hb
 by_cases hi : i < xs.length
 ·rw [List.getElem?_append_left hi] at ha
  rw [if_pos (by have := h1.1; omega)] at hb
  exact h1.2 i v u ha hb
 ·rw [List.getElem?_append_right (by omega)] at ha
  rw [if_neg (by have := h1.1; omega), h1.1] at hb
  exact h2.2 _ v u ha hb
theorem callee_fn {Z : ZMap} {φ : PMap} {x : AV} {u : Value} {k : FuncId} {first cap : List AV} (h : calleeOf x = some (k, first, cap)) (hx : Rep Z φ x u) :
  ∃ us ws, u = .func (.func k) us ws /\ Reps Z φ first us /\ Reps Z φ cap ws := by
 unfold calleeOf at h
 split at h
 ·simp only [Option.some.injEq, Prod.mk.injEq] at h
  obtain ⟨rfl, rfl, rfl⟩ := h
  cases hx with
  | fn a b c d => exact ⟨_, _, rfl, ⟨a, c⟩, ⟨b, d⟩⟩
 ·cases h
theorem run_callFunc {k : FuncId} (h : funcOk P k = true) (args : Array Value) (w : World) : (callFunc k args).run P w = .ok (.enter k args) w := by
 unfold funcOk at h
 cases hf : P.funcs[k]? with
 | none => simp [hf] at h
 | some fn =>
  simp only [hf, Bool.and_eq_true, Bool.not_eq_true', beq_eq_false_iff_ne] at h
  obtain ⟨h1, h2⟩ := h
  have h3 : fn.body.isNone = false := by cases hb : fn.body <;> simp_all
  unfold callFunc
  simp [Sem.run_bind, go_sem, hf, h2]
  intro hb
  rw [hb] at h1; cases h1
theorem wp_opR {ro : Option Nat} {o : Oper} (hro : ro = none \/ noDef o = true) {F : Fr} {H : Heap} {nx : Nat} {df : List ADef} {K : AV -> Heap -> Nat -> List ADef -> Prop} {QP : AV -> Heap -> Nat -> Prop} (h : SOpR P o F H nx df K QP)
  {base : Nat -> Prop} {w0 : Start} {Z : ZMap} {φ : PMap} {a : Act} {w : World} (hF : FrRel Z φ F a.tmps) {fl : Nat} (hD : DfRel P fl Z φ df a.defers) (hH : HRel base w0 Z φ H nx w) {next : Act -> World -> Prop} {R : Exit -> Act -> World -> Prop}
  (hK : ∀ Z' φ' r v H' nx' df' ds' w', ZLe Z Z' -> PLe φ φ' -> Rep Z' φ' r v -> DfRel P fl Z' φ' df' ds' -> HRel base w0 Z' φ' H' nx' w' -> K r H' nx' df' -> next ({ a with defers := ds' }.put o.dst v) w')
  (hQ : ∀ Z' φ' v u H' nx' w', ZLe Z Z' -> PLe φ φ' -> Rep Z' φ' v u -> HRel base w0 Z' φ' H' nx' w' -> QP v H' nx' -> R (.panic [{ v := u, recovered := false }]) a w') :
  opW ro P o a w next R := by
 have plain : ((∃ r, aq P o.op F H = some r /\ K r H nx df) \/ (∃ r H' nx', ae P o.op F H nx = some (r, H', nx') /\ K r H' nx' df) \/ (isVar o.op = false /\ AeK P o F H nx fun r H' nx' => K r H' nx' df)) -> opW ro P o a w next R := by
  have eff : ∀ r H' nx', OutOk base w0 Z φ r H' nx' ((execOp a.eval o).run P w) -> K r H' nx' df -> opW ro P o a w next R := by
   intro r H' nx' ho hk
   obtain ⟨n, w', Z', φ', hv, hn, hZ, hφ, hh⟩ := ho
   unfold opW
   rw [semAt_ro hro]
   rw [hv]
   rcases hn with ⟨v, rfl, hrep⟩ | ⟨rfl, rfl⟩
   ·exact hK Z' φ' r v H' nx' df a.defers w' hZ hφ hrep (hD.mono hZ hφ) hh hk
   ·exact hK Z' φ' _ Go.undef H' nx' df a.defers w' hZ hφ (.undef _) (hD.mono hZ hφ) hh hk
  rintro (⟨r, hr, hk⟩ | ⟨r, H', nx', hr, hk⟩ | ⟨_, hr⟩)
  ·obtain ⟨v, hv, hrep⟩ := sound_q hH hF hr
   unfold opW
   rw [semAt_ro hro]
   rw [hv]
   exact hK Z φ r v H nx df a.defers w (ZLe.refl _) (PLe.refl _) hrep hD hH hk
  ·exact eff _ _ _ (sound_e hH hF hr) hk
  ·obtain ⟨r, H', nx', ho, hk⟩ := hr base w0 Z φ w a.eval hH fun x _ => rep_ev hH.gl hF x
   exact eff _ _ _ ho hk
 obtain ⟨dst, op, ty, pos, after, guard⟩ := o
 unfold SOpR at h
 simp only at h
 split at h
 ·rename_i x
  split at h
  ·rename_i t v hx
   have hr := rep_ev hH.gl hF x
   rw [hx] at hr
   generalize hu : a.eval x = u at hr
   cases hr with
   | iface hv =>
   rename_i uv
   unfold opW
   rw [semAt_ro hro]
   have : (execOp a.eval ⟨dst, .panic x, ty, pos, after, guard⟩).run P w = .halt (.panic (.iface t uv)) w := by
    simp only [execOp, hu, Instr.panic]; rfl
   rw [this]
   exact hQ Z φ _ _ H nx w (ZLe.refl _) (PLe.refl _) (.iface hv) hH h
  ·exact h.elim
 ·rename_i c
  obtain ⟨callee, args, ats⟩ := c
  cases callee with
  | value f =>
   obtain ⟨k, first, cap, hc, hok, hk⟩ := h
   obtain ⟨us, ws, hu, h1, h2⟩ := callee_fn hc (rep_ev hH.gl hF f)
   unfold opW
   rw [semAt_ro hro]
   have : (execOp a.eval ⟨dst, .defer ⟨.value f, args, ats⟩, ty, pos, after, guard⟩).run P w = .ok (.defer { target := .fn (.func k) ws, args := us ++ args.map a.eval }) w := by
    simp only [execOp, resolve, Deferred.ofValue, hu]; rfl
   rw [this]
   have hra : Reps Z φ (first ++ args.toList.map (ev F) ++ cap) (us ++ args.map a.eval ++ ws) := reps_append (reps_append h1 (reps_ev hH.gl hF args)) h2
   exact hK Z φ .undef Go.undef H nx _ ({ target := .fn (.func k) ws, args := us ++ args.map a.eval } :: a.defers) w (ZLe.refl _) (PLe.refl _) (.undef _) ⟨.call rfl hra hok hD.m, List.Pairwise.cons (fun d' _ B hB => by cases hB) hD.ap⟩ hH hk
  | invoke _ _ => exact h.elim
  | builtin _ => exact h.elim
 ·rename_i f args ats
  rcases h with ⟨k, first, cap, hc, hok, hcall⟩ | ⟨b, hb, hy⟩
  rotate_left
  ·have hr := rep_ev hH.gl hF f
   rw [hb] at hr
   generalize hu : a.eval f = u at hr
   cases hr with
   | yf hl =>
   rename_i l
   obtain ⟨r, hr, hsz, hround⟩ := hy base w0 Z φ w (args.map a.eval) l hH (reps_ev hH.gl hF args) hl
   unfold opW
   rw [semAt_ro hro]
   have : (execOp a.eval ⟨dst, .call ⟨.value f, args, ats⟩, ty, pos, after, guard⟩).run P w = .ok (.round l.B r.fn ((r.params.zip (args.map a.eval)).foldl (fun tmps (t, a) => tmps.setIfInBounds t a) r.tmps) r.assign r.body) w := by
    simp only [execOp, resolve, Deferred.ofValue, hu]
    exact run_bind' (x := (⟨.fn (.yield l.B) #[], #[] ++ args.map a.eval⟩ : Deferred)) (w' := w) rfl (by rw [Array.empty_append]; exact run_yield hr hsz)
   rw [this]
   refine ⟨fun h => absurd (wf_depth ro h) (by omega), RoundIn.mono (F := Wf ro) hround fun e w' ⟨Z', φ', x, H', nx', g1, g2, g3, g4, g5⟩ => ?_⟩
   cases x with
   | ret v =>
    cases e <;> try exact g3.elim
    exact hK Z' φ' v _ H' nx' df a.defers w' g1 g2 g3 (hD.mono g1 g2) g4 g5
   | panic v =>
    cases e <;> try exact g3.elim
    obtain ⟨u, rfl, hr⟩ := g3
    exact hQ Z' φ' v u H' nx' w' g1 g2 hr g4 g5
  obtain ⟨us, ws, hu, h1, h2⟩ := callee_fn hc (rep_ev hH.gl hF f)
  unfold opW
  rw [semAt_ro hro]
  have : (execOp a.eval ⟨dst, .call ⟨.value f, args, ats⟩, ty, pos, after, guard⟩).run P w = .ok (.enter k (us ++ args.map a.eval ++ ws)) w := by
   simp only [execOp, resolve, Deferred.ofValue, hu]
   exact run_bind' (x := (⟨.fn (.func k) ws, us ++ args.map a.eval⟩ : Deferred)) (w' := w) rfl (run_callFunc hok _ w)
  rw [this]
  refine ⟨fun h => absurd (wf_depth ro h) (by omega), callsIn_wf (Calls.mono (hcall base w0 Z φ w _ hH (reps_append (reps_append h1 (reps_ev hH.gl hF args)) h2)) fun e w' ⟨Z', φ', x, H', nx', g1, g2, g3, g4, g5⟩ => ?_)⟩
  cases x with
  | ret v =>
   cases e <;> try exact g3.elim
   exact hK Z' φ' v _ H' nx' df a.defers w' g1 g2 g3 (hD.mono g1 g2) g4 g5
  | panic v =>
   cases e <;> try exact g3.elim
   obtain ⟨u, rfl, hr⟩ := g3
   exact hQ Z' φ' v u H' nx' w' g1 g2 hr g4 g5
 ·exact plain h
theorem wp_op {ro : Option Nat} {o : Oper} (hro : ro = none \/ noDef o = true) {K : St -> Prop} (hd : dstOk N o = true) (h : SOp P o K Q σ) {base : Nat -> Prop} {w0 : Start} {Z : ZMap} {φ : PMap} {a : Act} {w : World} (hs : SRel P base w0 Z φ N σ a w) {next : Act -> World -> Prop}
  (hK : ∀ Z' φ' σ' a' w', ZLe Z Z' -> PLe φ φ' -> SRel P base w0 Z' φ' N σ' a' w' -> K σ' -> next a' w') : opW ro P o a w next (Lift P base w0 N n0 Z φ Q) := by
 have hlt := dstOk_lt hd hs.size
 refine wp_opR hro h hs.fr hs.df hs.heap (fun Z' φ' r v H' nx' df' ds' w' hZ hφ hr hD hH hk => ?_) fun Z' φ' v u H' nx' w' hZ hφ hr hH hq => ⟨Z', φ', .panic v, ⟨σ.fr, H', nx', σ.df⟩, hZ, hφ.to0, ⟨u, rfl, hr⟩, ⟨hs.fr.mono hZ hφ, hs.size, hs.df.mono hZ hφ, hH⟩, hq⟩
 refine hK Z' φ' _ _ w' hZ hφ ⟨FrRel.put (a := { a with defers := ds' }) (hs.fr.mono hZ hφ) hlt hr, ?_, ?_, hH⟩ hk
 ·cases hdst : o.dst <;> simp [Act.put, hs.size]
 ·have : (Act.put { a with defers := ds' } o.dst v).defers = ds' := by cases hdst : o.dst <;> simp [Act.put]
  rw [this]; exact hD
end
end Go.Lom

/- New blocks, set up late: variables under a number that was kept for them; literals that nobody writes. -/
namespace Go.Lom
open Go.RowKit
section
variable {P : Program} {base : Nat -> Prop} {w0 : Start} {Z : ZMap} {φ : PMap} {H : Heap} {nx : Nat} {w : World}
theorem HRel.allocAt (h : HRel base w0 Z φ H nx w) {b : Nat} (hfr : φ b = none) (hb : b < nx) {o : Obj} {x : Blk} {l : Loc} (hlB : l.B = w.heap.size)
  (hx : blkRel Z (φ.set b l) (w.alloc o) l x) :
  HRel base w0 Z (φ.set b l) (H.set b x) nx (w.alloc o) := by
 have hle := PMap.le_set (x := l) hfr
 have hsz : (w.alloc o).heap.size = w.heap.size + 1 := by show (w.heap.push o).size = _; simp
 refine ⟨h.below.alloc o, fun B o' hB => ?_, h.z0, h.gl, fun c y hy => ?_, fun c y hy => ?_, fun c l' hc => ?_, fun c y hy => ?_, ?_, ?_⟩
 ·have := h.z B o' hB
  have hlt : B < w.heap.size := by
   rcases Nat.lt_or_ge B w.heap.size with hlt | hge
   ·exact hlt
   ·rw [Array.getElem?_eq_none hge] at this; cases this
  rw [heap_push _ _ _ hlt]; exact this
 ·unfold PMap.set at hy
  by_cases hc : c = b
  ·omega
  ·rw [if_neg hc] at hy; have := h.fnx c y hy; omega
 ·rw [Heap.get_set] at hy
  by_cases hc : c = b
  ·omega
  ·rw [if_neg hc] at hy; exact h.hnx c y hy
 ·unfold PMap.set at hc
  rw [hsz]
  by_cases hcb : c = b
  ·rw [if_pos hcb] at hc; injection hc with hc; subst hc; omega
  ·rw [if_neg hcb] at hc; have := h.flt c l' hc; omega
 ·rw [Heap.get_set] at hy
  by_cases hcb : c = b
  ·rw [if_pos hcb] at hy; injection hy with hy; subst hy; subst hcb
   exact .inr ⟨l, PMap.set_self _ _ _, by rw [hlB]; exact h.notZ (Nat.le_refl _), hx⟩
  ·rw [if_neg hcb] at hy
   rcases h.own' c y hy with ⟨hg, hf⟩ | ⟨l', hf, hz, hr⟩
   ·exact .inl ⟨hg, by unfold PMap.set; rw [if_neg hcb]; exact hf⟩
   ·exact .inr ⟨l', hle _ _ hf, hz, hr.mono (ZLe.refl _) hle (heap_push _ _ _ (h.flt _ _ hf))⟩
 ·intro c c' y y' l1 l2 hne hy hy' hc hc'
  rw [Heap.get_set] at hy hy'
  unfold PMap.set at hc hc'
  by_cases h1 : c = b
  ·rw [if_pos h1] at hc
   injection hc with hc; subst hc
   by_cases h2 : c' = b
   ·omega
   ·rw [if_neg h2] at hc'; have := h.flt _ _ hc'; omega
  ·rw [if_neg h1] at hc hy
   by_cases h2 : c' = b
   ·rw [if_pos h2] at hc'; injection hc' with hc'; subst hc'; have := h.flt _ _ hc; omega
   ·rw [if_neg h2] at hc' hy'
    exact h.inj c c' y y' l1 l2 hne hy hy' hc hc'
 ·intro c y l1 hy hc hu
  rw [Heap.get_set] at hy
  unfold PMap.set at hc
  by_cases h1 : c = b
  ·rw [if_pos h1] at hc; injection hc with hc; subst hc
   have := h.below.size; omega
  ·rw [if_neg h1] at hc hy
   exact h.ob c y l1 hy hc hu
def ZMap.set (Z : ZMap) (B : Nat) (o : Obj) : ZMap := fun C => if C = B then some o else Z C
theorem ZMap.set_self (Z : ZMap) (B : Nat) (o : Obj) : Z.set B o B = some o := by simp [ZMap.set]
theorem ZMap.le_set {Z : ZMap} {B : Nat} {o : Obj} (h : Z B = none) : ZLe Z (Z.set B o) := by
 intro C y hy; unfold ZMap.set; by_cases hc : C = B
 ·subst hc; rw [h] at hy; cases hy
 ·simp [hc, hy]
theorem HRel.allocZ (h : HRel base w0 Z φ H nx w) (o : Obj) : HRel base w0 (Z.set w.heap.size o) φ H nx (w.alloc o) := by
 have hle := ZMap.le_set (o := o) (h.notZ (Nat.le_refl w.heap.size))
 have hsz : (w.alloc o).heap.size = w.heap.size + 1 := by show (w.heap.push o).size = _; simp
 refine ⟨h.below.alloc o, fun B o' hB => ?_, fun B hB hu => ?_, h.gl.mono hle, h.fnx, h.hnx, fun c l' hc => ?_, fun c y hy => ?_, h.inj, h.ob⟩
 ·unfold ZMap.set at hB
  by_cases hc : B = w.heap.size
  ·subst hc; rw [if_pos rfl] at hB; injection hB with hB; subst hB; exact heap_new w _
  ·rw [if_neg hc] at hB
   have := h.z B o' hB
   have hlt : B < w.heap.size := by
    rcases Nat.lt_or_ge B w.heap.size with hlt | hge
    ·exact hlt
    ·rw [Array.getElem?_eq_none hge] at this; cases this
   rw [heap_push _ _ _ hlt]; exact this
 ·unfold ZMap.set
  rw [if_neg (by have := h.below.size; omega)]
  exact h.z0 B hB hu
 ·have := h.flt c l' hc; omega
 ·rcases h.own' c y hy with hg | ⟨l', hf, hz, hr⟩
  ·exact .inl hg
  refine .inr ⟨l', hf, ?_, hr.mono hle (PLe.refl _) (heap_push _ _ _ (h.flt _ _ hf))⟩
  unfold ZMap.set
  rw [if_neg (by have := h.flt _ _ hf; omega)]
  exact hz
theorem elems_sub {H H' : Heap} (hs : Sub H H') {x : AV} {es : List (List AV)} (h : elems H x = some es) : elems H' x = some es := by
 unfold elems at *
 split at h <;> try exact h
 simp only [Option.bind_eq_bind, Option.bind_eq_some_iff] at h ⊢
 obtain ⟨blk, hb, h⟩ := h
 exact ⟨blk, hs _ _ hb, h⟩
theorem ldArr_same {H H' : Heap} {t : TypeId} {x : AV} (h : ∀ b i o, x = .ptr b i o -> H'.get b = H.get b) : ldArr P t x H' = ldArr P t x H := by
 unfold ldArr
 split
 ·rename_i b; rw [h b 0 0 rfl]
 ·rfl
theorem ald_sub {H H' : Heap} (hs : Sub H H') {t : TypeId} {x r : AV} (h : ald P t x H = some r) : ald P t x H' = some r := by
 by_cases hx : ∀ b i o, x = .ptr b i o -> H'.get b = H.get b
 ·unfold ald at *
  rw [ldArr_same hx]
  split
  ·rename_i q hq; rw [hq] at h; exact h
  ·rename_i hq
   rw [hq] at h
   simp only at h ⊢
   split at h
   ·rename_i b i o
    simp only [hx b i o rfl]; exact h
   ·exact h
   ·exact h
 ·simp only [Classical.not_forall] at hx
  obtain ⟨b, i, o, rfl, hne⟩ := hx
  have hnone : H.get b = none := by
   cases hb : H.get b with
   | none => rfl
   | some y => exact absurd ((hs _ _ hb).trans hb.symm) hne
  unfold ald ldArr at h
  split at h
  ·rename_i q hq
   split at hq
   ·rename_i c heq
    injection heq with h1 h2 h3
    subst h1
    rw [hnone] at hq; simp at hq
   ·cases hq
  ·simp [hnone] at h
theorem aq_sub {H H' : Heap} (hs : Sub H H') {op : Op} {F : Fr} {r : AV} (h : aq P op F H = some r) : aq P op F H' = some r := by
 cases op <;> simp only [aq] at h ⊢ <;> try exact h
 case load t a =>
  exact ald_sub hs h
 case convert s d x =>
  unfold aconv at *
  split at h <;> try exact h
  split at h <;> try exact h
  simp only [Option.bind_eq_bind, Option.bind_eq_some_iff] at h ⊢
  obtain ⟨es, he, h⟩ := h
  exact ⟨es, elems_sub hs he, h⟩
 case lookup t x k ok =>
  unfold alookup at *
  split at h
  ·exact h
  unfold alookup0 at *
  simp only [Option.bind_eq_bind, Option.bind_eq_some_iff] at h ⊢
  obtain ⟨kt, hk, es, he, h⟩ := h
  refine ⟨kt, hk, es, ?_, h⟩
  unfold entriesOf at *
  split at he <;> try exact he
  simp only [Option.bind_eq_some_iff] at he ⊢
  obtain ⟨blk, hb, he⟩ := he
  exact ⟨blk, hs _ _ hb, he⟩
 case call c =>
  unfold aqCall at *
  split at h <;> try exact h
  split at h <;> try exact h
  unfold alen at *
  split at h <;> try exact h
  simp only [Option.bind_eq_bind, Option.bind_eq_some_iff] at h ⊢
  obtain ⟨blk, hb, h⟩ := h
  exact ⟨blk, hs _ _ hb, h⟩
def tyZ : List AV -> Option Ty
 | [.int k n] => if n = 0 then some (.i k) else none
 | [.bool false] => some .b
 | _ => none
theorem tyZ_enc {z : List AV} {τ : Ty} (h : tyZ z = some τ) : τ.enc τ.dflt = z := by
 unfold tyZ at h
 split at h
 ·split at h
  ·rename_i e; subst e; injection h with h; subst h; rfl
  ·cases h
 ·injection h with h; subst h; rfl
 ·cases h
def mkTy (z : Option (List AV)) (n : Nat) (es : List (List AV)) : AV := match z with
 | some z => match tyZ z with
  | some τ => .rl τ (List.replicate n τ.dflt)
  | none => .rs es
 | none => .rs es
def lateMk (P : Program) (t : TypeId) (x : Option Out) : Option AV := match x with
 | some (.sl b _ _ n _, H, _) => match H.get b with
  | some (.row _ es) => some (mkTy ((sliceElem P t).bind (zeroCellsOf P)) n (es.take n))
  | _ => none
 | _ => none
def lateV (P : Program) (op : Op) (F : Fr) (H : Heap) : Option AV :=
 match op with
 | .makeSlice t l c => lateMk P t (amakeSlice P t (ev F l) (ev F c) [] 0)
 | .buildSlice t len ps => (aliteral P t len (ps.toList.map fun p => (p.1, ev F p.2))).map fun x => .rs x.2
 | op => aq P op F H
theorem sound_late (h : HRel base w0 Z φ H nx w) {F : Fr} {a : Act} (hF : FrRel Z φ F a.tmps) {o : Oper} {r : AV} (hr : lateV P o.op F H = some r) :
  ∃ v Z' w', (execOp a.eval o).run P w = .ok (.value v) w' /\ ZLe Z Z' /\ HRel base w0 Z' φ H nx w' /\ Rep Z' φ r v := by
 have dflt : aq P o.op F H = some r -> ∃ v Z' w', (execOp a.eval o).run P w = .ok (.value v) w' /\ ZLe Z Z' /\ HRel base w0 Z' φ H nx w' /\ Rep Z' φ r v := by
  intro hq
  obtain ⟨v, hv, hrep⟩ := sound_q h hF hq
  exact ⟨v, Z, w, hv, ZLe.refl _, h, hrep⟩
 obtain ⟨dst, op, ty, pos, after, guard⟩ := o
 cases op <;> try exact dflt hr
 case makeSlice t l c =>
  simp only [lateV] at hr
  unfold lateMk at hr
  split at hr
  ·rename_i b s o n k H1 m hmk
   obtain ⟨l', c', s', z, cc, e, hzz, h0, hlc, _, hr1, hH, _, hsz, hzl, hz1, hrun, hcell⟩ := run_makeSlice w (rep_ev h.gl hF l) (rep_ev h.gl hF c) hmk
   injection hr1 with e1 e2 e3 e4 e5
   subst e1 hH e4
   split at hr
   ·rename_i s2 es hget
    simp only [Heap.get_set, if_pos, Option.some.injEq, Blk.row.injEq] at hget
    obtain ⟨rfl, rfl⟩ := hget
    injection hr with hr
    subst hr
    have hle := ZMap.le_set (o := Obj.cells cc e (0, 0)) (h.notZ (Nat.le_refl w.heap.size))
    refine ⟨_, Z.set w.heap.size (.cells cc e), _, run_bind' hrun rfl, hle, h.allocZ _, ?_⟩
    have look : ∀ (i : Nat) (el : List AV), ((List.replicate c'.toNat z).take l'.toNat)[i]? = some el -> i < c'.toNat /\ el = z := fun i el hi => by
     rw [List.getElem?_take] at hi
     split at hi
     ·rw [List.getElem?_replicate] at hi
      split at hi
      ·rename_i hlt; injection hi with hi; exact ⟨hlt, hi.symm⟩
      ·cases hi
     ·cases hi
    have toTy : ∀ {v : Value}, Rep (Z.set w.heap.size (.cells cc e)) φ (.rs ((List.replicate c'.toNat z).take l'.toNat)) v -> Rep (Z.set w.heap.size (.cells cc e)) φ (mkTy (some z) l'.toNat ((List.replicate c'.toNat z).take l'.toNat)) v := fun hv => by
     unfold mkTy
     dsimp only
     split
     ·rename_i τ hτ
      refine Rep.toRl ?_
      rw [List.map_replicate, tyZ_enc hτ]
      rw [List.take_replicate, Nat.min_eq_left (by omega)] at hv
      exact hv
     ·exact hv
    rw [hzz]
    refine toTy ?_
    refine .rs (B := w.heap.size) (off := 0) (s := s') (a := ⟨w.heap.size, 0, none⟩) (fun i j => cc.getD (i * s' + j) Go.undef) (by simp; omega) (by omega) (.inl rfl) (fun i el hi => by obtain ⟨_, rfl⟩ := look i el hi; exact ⟨hzl, hz1⟩) (fun i el j v hi hj => ?_) fun i el j v hi hj => ?_
    ·obtain ⟨hlt, rfl⟩ := look i el hi
     obtain ⟨u, hu, _⟩ := hcell i hlt j v hj
     unfold zcell
     rw [ZMap.set_self]
     simp only [Nat.zero_add]
     rw [hu, Array.getD_eq_getD_getElem?, hu]; rfl
    ·obtain ⟨hlt, rfl⟩ := look i el hi
     obtain ⟨u, hu, hr⟩ := hcell i hlt j v hj
     rw [Array.getD_eq_getD_getElem?, hu]
     exact hr.mono hle (PLe.refl _)
   ·cases hr
  ·cases hr
 rename_i t len ps
 simp only [lateV, Option.map_eq_some_iff] at hr
 obtain ⟨⟨s, es⟩, hlit, rfl⟩ := hr
 obtain ⟨hlen, c, e, hrun, hsz, hes⟩ := run_literal (w := w) (P := P) (t := t) (len := len) (qs := ps.map fun (i, x) => (i, a.eval x)) (by simp) (repP_ev h.gl hF ps) hlit
 have hle := ZMap.le_set (o := Obj.cells c e (0, 0)) (h.notZ (Nat.le_refl w.heap.size))
 refine ⟨_, Z.set w.heap.size (.cells c e), _, run_bind' hrun rfl, hle, h.allocZ _, ?_⟩
 refine .rs (B := w.heap.size) (off := 0) (s := s) (a := ⟨w.heap.size, 0, none⟩) (fun i j => c.getD (i * s + j) Go.undef) hlen (Nat.le_refl _) (.inl rfl) (fun i el hi => ⟨(hes i el hi).1, (hes i el hi).2.1⟩) (fun i el j v hi hj => ?_) fun i el j v hi hj => ?_
 ·obtain ⟨u, hu, _⟩ := (hes i el hi).2.2 j v hj
  unfold zcell
  rw [ZMap.set_self]
  simp only [Nat.zero_add]
  rw [hu, Array.getD_eq_getD_getElem?, hu]; rfl
 ·obtain ⟨u, hu, hr⟩ := (hes i el hi).2.2 j v hj
  rw [Array.getD_eq_getD_getElem?, hu]
  exact hr.mono hle (PLe.refl _)
theorem sound_allocAt (hh : HRel base w0 Z φ H nx w) {b : Nat} (hfr : φ b = none) (hb : b < nx) {t : TypeId} {q : Nat × List (List AV)} (hz : zeroRows P t = some q) :
  ∃ v φ' w', (Instr.alloc t true (.tuple #[])).run P w = .ok v w' /\ PLe φ φ' /\ (∀ c, c ≠ b -> φ' c = φ c) /\ Rep Z φ' (.ptr b 0 0) v /\ HRel base w0 Z φ' (H.set b (.row q.1 q.2)) nx w' := by
 obtain ⟨ob, hrun, hrel⟩ := run_zeroRow (Z := Z) (φ := φ) (w := w) hz
 have hle := PMap.le_set (x := (⟨w.heap.size, 0, q.1, q.2.length⟩ : Loc)) hfr
 refine ⟨_, _, _, hrun, hle, fun c hc => by simp [PMap.set, hc], ?_, hh.allocAt hfr hb rfl (hrel.mono (ZLe.refl _) hle rfl)⟩
 have := Rep.ptr (Z := Z) (φ := φ.set b ⟨w.heap.size, 0, q.1, q.2.length⟩) (b := b) (i := 0) (o := 0) (PMap.set_self _ _ _)
 simpa using this
end
end Go.Lom

/- Regions that draw their order: one order serves all. -/
namespace Go.Lom
open Go.RowKit
def maskOf (acc : List Nat) (o : Oper) : Nat := o.after.toList.foldl (fun s e => if Region.binds .any e then s ||| 2 ^ e.on ||| acc.getD e.on 0 else s) 0
def masks : List Oper -> List Nat -> List Nat
 | [], acc => acc
 | o :: l, acc => masks l (acc ++ [maskOf acc o])
theorem masks_get : ∀ (l : List Oper) (acc : List Nat) (j : Nat) (o : Oper), l[j]? = some o -> ∃ acc', (masks l acc)[acc.length + j]? = some (maskOf acc' o) /\ acc'.length = acc.length + j /\ ∀ i, i < acc'.length -> (masks l acc).getD i 0 = acc'.getD i 0
 | [], _, _, _, h => by simp at h
 | o :: l, acc, j, o', h => by
  have pre : ∀ (l : List Oper) (acc : List Nat) (i : Nat), i < acc.length -> (masks l acc)[i]? = acc[i]? := by
   intro l
   induction l with
   | nil => intro acc i _; rfl
   | cons o l ih =>
    intro acc i hi
    simp only [masks]
    rw [ih _ i (by simp; omega), List.getElem?_append_left hi]
  cases j with
  | zero =>
   simp at h; subst h
   refine ⟨acc, ?_, rfl, fun i hi => ?_⟩
   ·simp only [masks, Nat.add_zero]
    rw [pre _ _ _ (by simp), List.getElem?_append_right (Nat.le_refl _)]; simp
   ·simp only [List.getD_eq_getElem?_getD]
    rw [pre _ _ i hi]
  | succ j =>
   simp at h
   obtain ⟨acc', h1, h2, h3⟩ := masks_get l (acc ++ [maskOf acc o]) j o' h
   refine ⟨acc', ?_, by simp at h2; omega, h3⟩
   simp only [masks]
   rw [<- h1]; congr 1; simp; omega
theorem foldl_bit (acc : List Nat) (i : Nat) : ∀ (l : List Edge) (s : Nat), (l.foldl (fun s e => if Region.binds .any e then s ||| 2 ^ e.on ||| acc.getD e.on 0 else s) s).testBit i = true ->
  s.testBit i = true \/ ∃ e ∈ l, Region.binds .any e = true /\ (i = e.on \/ (acc.getD e.on 0).testBit i = true)
 | [], s, h => .inl h
 | e :: l, s, h => by
  simp only [List.foldl_cons] at h
  rcases foldl_bit acc i l _ h with h1 | ⟨e', he', h2⟩
  ·by_cases hb : Region.binds .any e = true
   ·rw [if_pos hb] at h1
    simp only [Nat.testBit_or, Bool.or_eq_true, Nat.testBit_two_pow, decide_eq_true_eq] at h1
    rcases h1 with (h1 | h1) | h1
    ·exact .inl h1
    ·exact .inr ⟨e, by simp, hb, .inl h1.symm⟩
    ·exact .inr ⟨e, by simp, hb, .inr h1⟩
   ·rw [if_neg hb] at h1; exact .inl h1
  ·exact .inr ⟨e', by simp [he'], h2⟩
def preB (ms : List Nat) (i j : Nat) : Bool := (ms.getD j 0).testBit i
theorem preB_edge {ops : Array Oper} {i j : Nat} {o : Oper} (ho : ops[j]? = some o) (h : preB (masks ops.toList []) i j = true) :
  ∃ e ∈ o.after.toList, Region.binds .any e = true /\ (i = e.on \/ preB (masks ops.toList []) i e.on = true) := by
 obtain ⟨acc', h1, h2, h3⟩ := masks_get ops.toList [] j o (by simpa using ho)
 unfold preB at h ⊢
 simp only [List.length_nil, Nat.zero_add] at h1 h2
 rw [List.getD_eq_getElem?_getD, h1] at h
 simp only [Option.getD_some, maskOf] at h
 rcases foldl_bit acc' i _ _ h with h4 | ⟨e, he, hb, h4⟩
 ·simp at h4
 ·refine ⟨e, he, hb, ?_⟩
  rcases h4 with h4 | h4
  ·exact .inl h4
  ·right
   by_cases hlt : e.on < acc'.length
   ·rw [h3 _ hlt]; exact h4
   ·rw [List.getD_eq_getElem?_getD, List.getElem?_eq_none (by omega)] at h4; simp at h4
def isQ : Op -> Bool
 | .move _ | .assign _ | .pick .. | .load .. | .nilCheck _ | .binOp .. | .unOp .. | .convert .. | .makeInterface .. | .typeAssert .. | .makeFunc .. | .slice .. | .fieldAddr .. | .field .. | .indexAddr .. | .index .. | .lookup .. | .extract .. | .build .. => true
 | .call { callee := .builtin .len, .. } | .call { callee := .builtin .min, .. } | .call { callee := .builtin .max, .. } => true
 | _ => false
def readsQ : Op -> Bool
 | .load .. | .convert .. | .lookup .. => true
 | .call { callee := .builtin .len, .. } => true
 | _ => false
def tmpsOf (ops : Array Oper) (o : Oper) : List Tmp :=
 (o.op.operands.toList.filterMap fun | .tmp t => some t | _ => none) ++ (match o.guard with | some (j, _) => ((ops[j]?).bind (·.dst)).toList | none => [])
def namesOf (ops : Array Oper) (o : Oper) : List Tmp := o.dst.toList ++ tmpsOf ops o
def isA : Op -> Bool
 | .alloc _ => true
 | _ => false
def frozenB (ops : Array Oper) (ms : List Nat) (o : Oper) : Bool :=
 match o.op with
 | .buildSlice .. | .makeSlice .. => (List.range ops.size).any fun i => match ops[i]? with
  | some p => p.dst == o.dst && (List.range ops.size).any fun j => j != i && (match ops[j]? with | some q => !isQ q.op && !isA q.op | none => false) && !preB ms i j && !preB ms j i
  | none => false
 | _ => false
def isL (ops : Array Oper) (ms : List Nat) (o : Oper) : Bool := isQ o.op || frozenB ops ms o
def ownB (ops : Array Oper) (seen : List Nat) (o : Oper) : Bool :=
 match o.dst with
 | some d => !(tmpsOf ops o).contains d && seen.all fun j => match ops[j]? with | some p => !(namesOf ops p).contains d | none => true
 | none => true
def freeB (ops : Array Oper) (ms : List Nat) (seen : List Nat) (o : Oper) : Bool := isL ops ms o && ownB ops seen o
def freeA (ops : Array Oper) (seen : List Nat) (o : Oper) : Bool := isA o.op && o.guard.isNone && ownB ops seen o
def closedA (ops : Array Oper) (ms : List Nat) (seen : List Nat) : Bool :=
 seen.all fun j => match ops[j]? with
  | some p => !isA p.op || seen.any fun h => preB ms j h && (match ops[h]? with | some q => !isL ops ms q && !isA q.op | none => false)
  | none => true
def earlyB (ops : Array Oper) (ms : List Nat) (k : Nat) : Bool :=
 match ops[k]? with
 | some o => isA o.op && o.guard.isNone && (match o.dst with
  | some d => (List.range ops.size).all fun j => j == k || (match ops[j]? with | some p => !(namesOf ops p).contains d || preB ms k j | none => true)
  | none => true)
 | none => false
def earlyOk (P : Program) (N : Nat) (ops : Array Oper) : Bool := ops.toList.all fun o => match o.op with | .alloc t => dstOk N o && (zeroRows P t).isSome | _ => true
theorem earlyOk_spec {P : Program} {N : Nat} {ops : Array Oper} (h : earlyOk P N ops = true) {i : Nat} {o : Oper} (ho : ops[i]? = some o) {t : TypeId} (hop : o.op = .alloc t) : dstOk N o = true /\ ∃ cs, zeroRows P t = some cs := by
 have := List.all_eq_true.1 h o (by simpa using Array.mem_of_getElem? ho)
 rw [hop] at this
 simpa [Option.isSome_iff_exists] using this
def regStep (ops : Array Oper) (ms : List Nat) (seen rest : List Nat) (i : Nat) : Bool :=
  match ops[i]? with
  | none => false
  | some o =>
    (o.after.toList.all fun e => !Region.binds .any e || seen.contains e.on) &&
    (seen.all fun j => match ops[j]? with | some p => (match p.dst with | some d => !(tmpsOf ops o).contains d || preB ms j i | none => true) | none => true) &&
    (match o.guard with | some (j, _) => preB ms j i && seen.contains j | none => true) &&
    (if freeB ops ms seen o then !readsQ o.op || closedA ops ms seen
     else freeA ops seen o ||
      ((rest.all fun k => preB ms i k || earlyB ops ms k) && (seen.all fun j => match ops[j]? with | some p => !isA p.op || preB ms j i | none => true) &&
        (seen.all fun j => preB ms j i || match o.dst with
        | some d => (match ops[j]? with | some p => !(namesOf ops p).contains d | none => true)
        | none => true)))
def regOk (ops : Array Oper) (ms : List Nat) : List Nat -> List Nat -> Bool
 | [], seen => (List.range ops.size).all fun i => seen.contains i
 | i :: rest, seen => regStep ops ms seen rest i && !seen.contains i && regOk ops ms rest (i :: seen)
def takeQ (ops : Array Oper) (ms : List Nat) (effs : List Nat) : List Nat -> List Nat × List Nat
 | [] => ([], [])
 | i :: l =>
  let (a, b) := takeQ ops ms effs l
  match ops[i]? with
  | some o => if isL ops ms o && effs.all (fun e => !preB ms e i) then (i :: a, b) else (a, i :: b)
  | none => (a, i :: b)
def asap (ops : Array Oper) (ms : List Nat) : Nat -> List Nat -> List Nat
 | 0, l => l
 | n + 1, l =>
  let effs := l.filter fun i => match ops[i]? with | some o => !isL ops ms o | none => true
  let (a, b) := takeQ ops ms effs l
  let hards := effs.filter fun i => match ops[i]? with | some o => !isA o.op | none => true
  match b.partition fun i => (match ops[i]? with | some o => isA o.op | none => false) && hards.all fun e => !preB ms e i with
  | ([], b) =>
   match b.partition fun i => effs.head? == some i with
   | ([e], b') => a ++ e :: asap ops ms n b'
   | _ => a ++ b
  | (x, b) => a ++ x ++ asap ops ms n b
def alap (ops : Array Oper) (ms : List Nat) : Nat -> List Nat -> List Nat
 | 0, l => l
 | n + 1, l =>
  let effs := l.filter fun i => match ops[i]? with | some o => !isL ops ms o | none => true
  let (a, b) := takeQ ops ms effs l
  let hards := effs.filter fun i => match ops[i]? with | some o => !isA o.op | none => true
  match hards with
  | [] => a ++ b
  | h :: _ =>
   match b.partition fun i => (match ops[i]? with | some o => isA o.op | none => false) && preB ms i h with
   | ([], b) => a ++ h :: alap ops ms n (b.filter fun i => i != h)
   | (x, b) => a ++ x ++ alap ops ms n b
def orderOf (ops : Array Oper) : List Nat :=
 let ms := masks ops.toList []
 let o := asap ops ms ops.size (List.range ops.size)
 if regOk ops ms o [] then o else alap ops ms ops.size (List.range ops.size)
def stable (P : Program) (ops : Array Oper) (F : Fr) (H : Heap) (p : Nat) : Prop :=
 match ops[p]? with
 | some o => ∃ r, aq P o.op F H = some r /\ ∀ d, o.dst = some d -> F.get d = r
 | none => True
def forget (ops : Array Oper) (F : Fr) : Fr := F.filter fun p => !(ops.toList.any fun o => o.dst == some p.1)
def VReg (P : Program) (N : Nat) (ops : Array Oper) (ms : List Nat) (Q : AX -> St -> Prop) : List Nat -> List Nat -> List Nat -> St -> Prop
 | [], seen, pend, σ => Q .normal σ
 | i :: rest, seen, pend, σ => match ops[i]? with
  | none => False
  | some o => dstOk N o = true /\
   (let run : Prop := if freeB ops ms seen o then ∃ r, lateV P o.op σ.fr σ.H = some r /\ VReg P N ops ms Q rest (i :: seen) (if readsQ o.op then i :: pend else pend) { σ with fr := σ.fr.put o.dst r }
    else SOpR P o σ.fr σ.H σ.nx σ.df (fun r H nx df => (∀ p ∈ pend, preB ms p i = false -> stable P ops (σ.fr.put o.dst r) H p) /\ VReg P N ops ms Q rest (i :: seen) pend ⟨σ.fr.put o.dst r, H, nx, df⟩)
     (fun v H nx => Q (.panic v) ⟨forget ops σ.fr, H, nx, σ.df⟩)
   match o.guard with
   | none => run
   | some (j, want) => ∃ b, guardV ops σ.fr j = some b /\ (b = some want -> run) /\ (b ≠ some want -> VReg P N ops ms Q rest (i :: seen) pend { σ with fr := σ.fr.put o.dst skipV }))
end Go.Lom

/- Regions that draw their order: one order serves all: the proof. -/
namespace Go.Lom
open Go.RowKit
theorem ev_congr {F F' : Fr} {x : Operand} (h : ∀ t, x = .tmp t -> F.get t = F'.get t) : ev F x = ev F' x := by
 cases x <;> simp only [ev]
 exact h _ rfl
theorem evs_congr {F F' : Fr} {xs : Array Operand} (h : ∀ t, Operand.tmp t ∈ xs -> F.get t = F'.get t) : xs.toList.map (ev F) = xs.toList.map (ev F') :=
 List.map_congr_left fun x hx => ev_congr fun t ht => h t (by subst ht; simpa using hx)
theorem evo_congr {F F' : Fr} {x : Option Operand} (h : ∀ t, x = some (.tmp t) -> F.get t = F'.get t) : x.map (ev F) = x.map (ev F') := by
 cases x with
 | none => rfl
 | some x => simp only [Option.map_some]; rw [ev_congr fun t ht => h t (by rw [ht])]
def Agree (F F' : Fr) (op : Op) : Prop := ∀ t, Operand.tmp t ∈ op.operands.toList -> F.get t = F'.get t
theorem aqCall_congr {P : Program} {F F' : Fr} {H : Heap} {c : Call} (h : ∀ t, Operand.tmp t ∈ c.args -> F.get t = F'.get t) : aqCall P c F H = aqCall P c F' H := by
 obtain ⟨callee, args, ats⟩ := c
 simp only at h
 have h1 := evs_congr h
 unfold aqCall
 simp only
 split
 ·split
  ·rename_i x t hx ht
   have e1 : args = #[x] := by apply Array.ext'; simpa using hx
   subst e1
   simp at h1; rw [h1]
  ·rfl
 ·split
  ·rename_i x l hx
   have e1 : args = (x :: l).toArray := by apply Array.ext'; simpa using hx
   subst e1
   simp only [List.map_cons, List.cons.injEq] at h1
   rw [h1.1, h1.2]
  ·rfl
 ·split
  ·rename_i x l hx
   have e1 : args = (x :: l).toArray := by apply Array.ext'; simpa using hx
   subst e1
   simp only [List.map_cons, List.cons.injEq] at h1
   rw [h1.1, h1.2]
  ·rfl
 ·rfl
theorem aq_congr {P : Program} {F F' : Fr} {H : Heap} {op : Op} (h : Agree F F' op) : aq P op F H = aq P op F' H := by
 unfold Agree at h
 cases op <;> simp only [aq] <;> simp only [Op.operands] at h
 case move x => rw [ev_congr fun t ht => h t (by simp [ht])]
 case assign x => rw [ev_congr fun t ht => h t (by simp [ht])]
 case pick c a b => rw [ev_congr (x := c) fun t ht => h t (by simp [ht]), ev_congr (x := a) fun t ht => h t (by simp [ht]), ev_congr (x := b) fun t ht => h t (by simp [ht])]
 case load t x => rw [ev_congr (x := x) fun t ht => h t (by simp [ht])]
 case nilCheck x => rw [ev_congr (x := x) fun t ht => h t (by simp [ht])]
 case binOp op t x y yt => rw [ev_congr (x := x) fun t ht => h t (by simp [ht]), ev_congr (x := y) fun t ht => h t (by simp [ht])]
 case unOp op t x => rw [ev_congr (x := x) fun t ht => h t (by simp [ht])]
 case convert s d x => rw [ev_congr (x := x) fun t ht => h t (by simp [ht])]
 case makeInterface t x => rw [ev_congr (x := x) fun t ht => h t (by simp [ht])]
 case makeFunc fn first cap => rw [evs_congr (xs := first) fun t ht => h t (by simp [ht]), evs_congr (xs := cap) fun t ht => h t (by simp [ht])]
 case slice t x lo hi mx => rw [ev_congr (x := x) fun t ht => h t (by simp [ht]), evo_congr (x := lo) fun t ht => h t (by simp [ht]), evo_congr (x := hi) fun t ht => h t (by simp [ht]), evo_congr (x := mx) fun t ht => h t (by simp [ht])]
 case fieldAddr t x f => rw [ev_congr (x := x) fun t ht => h t (by simp [ht])]
 case field t x f => rw [ev_congr (x := x) fun t ht => h t (by simp [ht])]
 case indexAddr t x i => rw [ev_congr (x := x) fun t ht => h t (by simp [ht]), ev_congr (x := i) fun t ht => h t (by simp [ht])]
 case index t x i => rw [ev_congr (x := x) fun t ht => h t (by simp [ht]), ev_congr (x := i) fun t ht => h t (by simp [ht])]
 case lookup t x i ok => rw [ev_congr (x := x) fun t ht => h t (by simp [ht]), ev_congr (x := i) fun t ht => h t (by simp [ht])]
 case typeAssert x xt t ok => rw [ev_congr (x := x) fun t ht => h t (by simp [ht])]
 case extract x i => rw [ev_congr (x := x) fun t ht => h t (by simp [ht])]
 case build t ps =>
  congr 1
  refine List.map_congr_left fun p hp => ?_
  rw [ev_congr (x := p.2) fun t ht => h t (by simp; exact ⟨p.1, by rw [<- ht]; simpa using hp⟩)]
 case call c =>
  refine aqCall_congr fun t ht => h t ?_
  simp only [Call.operands]
  simp [ht]
theorem ae_congr {P : Program} {F F' : Fr} {H : Heap} {nx : Nat} {op : Op} (h : Agree F F' op) : ae P op F H nx = ae P op F' H nx := by
 unfold Agree at h
 cases op <;> simp only [ae] <;> simp only [Op.operands] at h
 case box t x => rw [ev_congr (x := x) fun t ht => h t (by simp [ht])]
 case buildSlice t len ps =>
  congr 1
  refine List.map_congr_left fun p hp => ?_
  rw [ev_congr (x := p.2) fun t ht => h t (by simp; exact ⟨p.1, by rw [<- ht]; simpa using hp⟩)]
 case slice t x lo hi mx => rw [ev_congr (x := x) fun t ht => h t (by simp [ht]), evo_congr (x := lo) fun t ht => h t (by simp [ht]), evo_congr (x := hi) fun t ht => h t (by simp [ht]), evo_congr (x := mx) fun t ht => h t (by simp [ht])]
 case store t x v => rw [ev_congr (x := x) fun t ht => h t (by simp [ht]), ev_congr (x := v) fun t ht => h t (by simp [ht])]
 case convert s d x => rw [ev_congr (x := x) fun t ht => h t (by simp [ht])]
 case makeMap t x => rw [evo_congr (x := x) fun t ht => h t (by simp [ht])]
 case makeSlice t l c => rw [ev_congr (x := l) fun t ht => h t (by simp [ht]), ev_congr (x := c) fun t ht => h t (by simp [ht])]
 case mapUpdate t m k v => rw [ev_congr (x := m) fun t ht => h t (by simp [ht]), ev_congr (x := k) fun t ht => h t (by simp [ht]), ev_congr (x := v) fun t ht => h t (by simp [ht])]
 case insert t m k v => rw [ev_congr (x := m) fun t ht => h t (by simp [ht]), ev_congr (x := k) fun t ht => h t (by simp [ht]), ev_congr (x := v) fun t ht => h t (by simp [ht])]
 case call c =>
  obtain ⟨callee, args, ats⟩ := c
  have h1 := evs_congr (xs := args) (F := F) (F' := F') fun t ht => h t (by simp only [Call.operands]; simp [ht])
  unfold aecall
  simp only
  split
  ·split
   ·rename_i x y t1 t2 hx ht
    have e1 : args = #[x, y] := by apply Array.ext'; simpa using hx
    subst e1
    simp at h1
    rw [h1.1, h1.2]
   ·rfl
  ·split
   ·rename_i x y t1 t2 hx ht
    have e1 : args = #[x, y] := by apply Array.ext'; simpa using hx
    subst e1
    simp at h1
    rw [h1.1, h1.2]
   ·rfl
  ·rfl
theorem SOpR_congr {P : Program} {o : Oper} {F F' : Fr} {H : Heap} {nx : Nat} {df : List ADef} {K : AV -> Heap -> Nat -> List ADef -> Prop} {QP : AV -> Heap -> Nat -> Prop} (hag : Agree F F' o.op) (h : SOpR P o F H nx df K QP) : SOpR P o F' H nx df K QP := by
 have h1 := aq_congr (P := P) (H := H) hag
 have h2 := ae_congr (P := P) (H := H) (nx := nx) hag
 have h3 : ∀ K : AV -> Heap -> Nat -> Prop, AeK P o F H nx K ↔ AeK P o F' H nx K := by
  intro K
  have : ∀ x ∈ o.op.operands.toList, ev F x = ev F' x := fun x hx => ev_congr (x := x) fun t ht => hag t (by rw [<- ht]; exact hx)
  exact ⟨fun h base w0 Z φ w ρ hH hr => h base w0 Z φ w ρ hH fun x hx => by rw [this x hx]; exact hr x hx, fun h base w0 Z φ w ρ hH hr => h base w0 Z φ w ρ hH fun x hx => by rw [<- this x hx]; exact hr x hx⟩
 obtain ⟨dst, op, ty, pos, after, guard⟩ := o
 simp only at hag h1 h2 h3
 unfold Agree at hag
 cases op <;> simp only [SOpR] at h ⊢ <;> simp only [Op.operands] at hag
 case panic x => rw [<- ev_congr (F := F) (x := x) fun t ht => hag t (by simp [ht])]; exact h
 case defer c =>
  obtain ⟨callee, args, ats⟩ := c
  cases callee with
  | value f =>
   simp only at h ⊢
   rw [<- ev_congr (F := F) (x := f) fun t ht => hag t (by simp [Call.operands, ht]), <- evs_congr (F := F) (xs := args) fun t ht => hag t (by simp only [Call.operands]; simp [ht])]
   exact h
  | invoke _ _ => exact h
  | builtin _ => exact h
 case call c =>
  obtain ⟨callee, args, ats⟩ := c
  cases callee with
  | value f =>
   simp only at h ⊢
   rw [<- ev_congr (F := F) (x := f) fun t ht => hag t (by simp [Call.operands, ht]), <- evs_congr (F := F) (xs := args) fun t ht => hag t (by simp only [Call.operands]; simp [ht])]
   exact h
  | invoke _ _ => simp only [<- h1, <- h2, <- h3]; exact h
  | builtin _ => simp only [<- h1, <- h2, <- h3]; exact h
 all_goals (simp only [<- h1, <- h2, <- h3]; exact h)
theorem aq_noread {P : Program} {F : Fr} {H H' : Heap} {op : Op} (hq : readsQ op = false) : aq P op F H = aq P op F H' := by
 cases op <;> simp only [aq] <;> simp [readsQ] at hq
 case call c =>
  obtain ⟨callee, args, ats⟩ := c
  unfold aqCall
  cases callee with
  | value f => rfl
  | invoke _ _ => rfl
  | builtin b => cases b <;> first | rfl | (simp [readsQ] at hq; done)
theorem lateV_cases (P : Program) (F F' : Fr) (H H' : Heap) (op : Op) : ((∃ t len ps, op = .buildSlice t len ps) \/ ∃ t l c, op = .makeSlice t l c) \/ (lateV P op F H = aq P op F H /\ lateV P op F' H' = aq P op F' H') := by
 cases op <;> first | exact .inl (.inl ⟨_, _, _, rfl⟩) | exact .inl (.inr ⟨_, _, _, rfl⟩) | exact .inr ⟨rfl, rfl⟩
theorem lateV_congr {P : Program} {F F' : Fr} {H : Heap} {op : Op} (h : Agree F F' op) : lateV P op F H = lateV P op F' H := by
 rcases lateV_cases P F F' H H op with (⟨t, len, ps, rfl⟩ | ⟨t, l, c, rfl⟩) | ⟨h1, h2⟩
 ·unfold Agree at h
  simp only [lateV]
  simp only [Op.operands] at h
  have : (ps.toList.map fun p => (p.1, ev F p.2)) = ps.toList.map fun p => (p.1, ev F' p.2) :=
   List.map_congr_left fun p hp => by rw [ev_congr (x := p.2) fun t ht => h t (by simp; exact ⟨p.1, by rw [<- ht]; simpa using hp⟩)]
  rw [this]
 ·unfold Agree at h
  simp only [lateV]
  simp only [Op.operands] at h
  rw [ev_congr (x := l) fun t ht => h t (by simp [ht]), ev_congr (x := c) fun t ht => h t (by simp [ht])]
 ·rw [h1, h2]; exact aq_congr h
theorem lateV_noread {P : Program} {F : Fr} {H H' : Heap} {op : Op} (hq : readsQ op = false) : lateV P op F H = lateV P op F H' := by
 rcases lateV_cases P F F H H' op with (⟨t, len, ps, rfl⟩ | ⟨t, l, c, rfl⟩) | ⟨h1, h2⟩
 ·rfl
 ·rfl
 ·rw [h1, h2]; exact aq_noread hq
theorem lateV_reads {P : Program} {F : Fr} {H : Heap} {op : Op} (hq : readsQ op = true) : lateV P op F H = aq P op F H := by
 rcases lateV_cases P F F H H op with (⟨t, len, ps, rfl⟩ | ⟨t, l, c, rfl⟩) | ⟨h1, h2⟩
 ·simp [readsQ] at hq
 ·simp [readsQ] at hq
 ·exact h1
theorem lateV_sub {P : Program} {F : Fr} {H H' : Heap} {op : Op} (hs : Sub H H') {r : AV} (h : lateV P op F H = some r) : lateV P op F H' = some r := by
 rcases lateV_cases P F F H H' op with (⟨t, len, ps, rfl⟩ | ⟨t, l, c, rfl⟩) | ⟨h1, h2⟩
 ·exact h
 ·exact h
 ·rw [h1] at h; rw [h2]; exact aq_sub hs h
end Go.Lom

/- Regions that draw their order: one order serves all: the theorem. -/
namespace Go.Lom
open Go.RowKit
section
variable {P : Program} {N : Nat} {ops : Array Oper} {Q : AX -> St -> Prop}
theorem mem_tmps {o : Oper} {t : Tmp} (h : Operand.tmp t ∈ o.op.operands.toList) : t ∈ tmpsOf ops o := by
 unfold tmpsOf
 refine List.mem_append.2 (.inl (List.mem_filterMap.2 ⟨_, h, rfl⟩))
theorem mem_guard {o : Oper} {j : Nat} {want : Bool} {d : Tmp} (hg : o.guard = some (j, want)) (hd : (ops[j]?).bind (·.dst) = some d) : d ∈ tmpsOf ops o := by
 unfold tmpsOf
 refine List.mem_append.2 (.inr ?_)
 rw [hg]; simp [hd]
def LateX (P : Program) (pend : List Nat) (i : Nat) (o : Oper) (F : Fr) (H : Heap) : Prop :=
 (∃ r, lateV P o.op F H = some r /\ ∀ d, o.dst = some d -> F.get d = r) /\ (readsQ o.op = true -> i ∈ pend)
def LateG (P : Program) (ops : Array Oper) (pend : List Nat) (i : Nat) (o : Oper) (F : Fr) (H : Heap) : Prop :=
 match o.guard with
 | none => LateX P pend i o F H
 | some (j, want) => ∃ b, guardV ops F j = some b /\ (b = some want -> LateX P pend i o F H) /\ (b ≠ some want -> ∀ d, o.dst = some d -> F.get d = skipV)
structure Kept where
 i : Nat
 b : Nat
 cs : Nat × List (List AV)
structure Early where
 i : Nat
 B : Nat
 cs : Nat × List (List AV)
def Early.loc (e : Early) : Loc := ⟨e.B, 0, e.cs.1, e.cs.2.length⟩
structure EBlk (base : Nat -> Prop) (w0 : Start) (Z : ZMap) (φ : PMap) (H : Heap) (w : World) (e : Early) : Prop where
 z : Z e.B = none
 lt : e.B < w.heap.size
 ob : base e.B -> w0.world.heap.size <= e.B
 own : ∀ b x l, H.get b = some x -> φ b = some l -> l.B ≠ e.B
 rel : blkRel Z φ w e.loc (.row e.cs.1 e.cs.2)
structure EOp (P : Program) (N : Nat) (ops : Array Oper) (rest : List Nat) (a : Act) (e : Early) : Prop where
 mem : e.i ∈ rest
 free : earlyB ops (masks ops.toList []) e.i = true
 op : ∃ o t, ops[e.i]? = some o /\ o.op = .alloc t /\ zeroRows P t = some e.cs /\ ∀ d, o.dst = some d -> a.tmps.getD d Go.undef = .pointer (some ⟨e.B, 0, none⟩)
def LateA (P : Program) (G : List Kept) (i : Nat) (o : Oper) (F : Fr) : Prop :=
 ∃ t b cs, o.op = .alloc t /\ o.guard = none /\ zeroRows P t = some cs /\ ⟨i, b, cs⟩ ∈ G /\ ∀ d, o.dst = some d -> F.get d = .ptr b 0 0
def Late (P : Program) (N : Nat) (ops : Array Oper) (pend : List Nat) (G : List Kept) (i : Nat) (F : Fr) (H : Heap) : Prop :=
 ∃ o, ops[i]? = some o /\ dstOk N o = true /\ (∀ d, o.dst = some d -> d ∉ tmpsOf ops o) /\ ((isL ops (masks ops.toList []) o = true /\ LateG P ops pend i o F H) \/ LateA P G i o F)
theorem late_mono {pend pend' : List Nat} {i : Nat} {o : Oper} {F : Fr} {H : Heap} (h : ∀ p ∈ pend, p ∈ pend') (hl : LateG P ops pend i o F H) : LateG P ops pend' i o F H := by
 unfold LateG at *
 split
 ·rename_i hg; rw [hg] at hl; exact ⟨hl.1, fun hr => h _ (hl.2 hr)⟩
 ·rename_i j want hg
  rw [hg] at hl
  obtain ⟨b, h1, h2, h3⟩ := hl
  exact ⟨b, h1, fun hb => ⟨(h2 hb).1, fun hr => h _ ((h2 hb).2 hr)⟩, h3⟩
structure Inv (P : Program) (N : Nat) (ops : Array Oper) (Q : AX -> St -> Prop) (listed : Array Bool) (L seen rest pend : List Nat) (σ : St) (Hr : Heap) (G : List Kept) (E : List Early) (base : Nat -> Prop) (w0 : Start) (Z : ZMap) (φ : PMap) (a : Act) (w : World) : Prop where
 hl : ∀ i, i < ops.size -> (listed.getD i true = true ↔ (i ∈ seen /\ i ∉ L) \/ ∃ e ∈ E, e.i = i)
 lsz : listed.size = ops.size
 hL : ∀ i ∈ L, i ∈ seen
 bound : ∀ i ∈ seen, i < ops.size
 closed : ∀ j i, listed.getD j true = true -> j < ops.size -> preB (masks ops.toList []) i j = true -> listed.getD i false = true
 ok : regOk ops (masks ops.toList []) rest seen = true
 edges : ∀ l1 i l2, seen = l1 ++ i :: l2 -> ∀ o, ops[i]? = some o -> ∀ e ∈ o.after.toList, Region.binds .any e = true -> e.on ∈ l2
 late : ∀ i ∈ L, Late P N ops pend G i σ.fr Hr
 apart : ∀ i ∈ L, ∀ j ∈ seen, j ≠ i -> ∀ oi oj d, ops[i]? = some oi -> ops[j]? = some oj -> oi.dst = some d -> (d ∈ tmpsOf ops oj -> preB (masks ops.toList []) i j = true) /\ oj.dst ≠ some d
 frm : ∀ t, (∀ i ∈ L, ∀ o, ops[i]? = some o -> o.dst ≠ some t) -> (∀ e ∈ E, ∀ o, ops[e.i]? = some o -> o.dst ≠ some t) -> Rep Z φ (σ.fr.get t) (a.tmps.getD t Go.undef)
 size : a.tmps.size = N
 df : DfRel P w0.world.heap.size Z φ σ.df a.defers
 heap : HRel base w0 Z φ Hr σ.nx w
 gL : ∀ v ∈ G, v.i ∈ L /\ ∃ o, ops[v.i]? = some o /\ isA o.op = true
 gb : ∀ v ∈ G, v.b < σ.nx /\ φ v.b = none /\ Hr.get v.b = none
 gd : ∀ u ∈ G, ∀ v ∈ G, (u.i = v.i -> u = v) /\ (u.b = v.b -> u = v)
 gH : ∀ c y, σ.H.get c = some y -> Hr.get c = some y \/ ∃ v ∈ G, v.b = c /\ y = .row v.cs.1 v.cs.2
 eop : ∀ e ∈ E, EOp P N ops rest a e
 eblk : ∀ e ∈ E, EBlk base w0 Z φ Hr w e
 ed : ∀ e ∈ E, ∀ f ∈ E, (e.i = f.i -> e = f) /\ (e.B = f.B -> e = f)
 v : VReg P N ops (masks ops.toList []) Q rest seen pend σ
theorem put_get {F : Fr} {dst : Option Tmp} {r : AV} {t : Tmp} (h : dst ≠ some t) : (F.put dst r).get t = F.get t := by
 cases dst with
 | none => rfl
 | some d => simp only [Fr.put, Fr.get]; rw [if_neg]; rintro rfl; exact h rfl
theorem put_get_self {F : Fr} {d : Tmp} {r : AV} : (F.put (some d) r).get d = r := by simp [Fr.put, Fr.get]
theorem regOk_head {ms : List Nat} {i : Nat} {rest seen : List Nat} (h : regOk ops ms (i :: rest) seen = true) : regStep ops ms seen rest i = true /\ i ∉ seen /\ regOk ops ms rest (i :: seen) = true := by
 simp only [regOk, Bool.and_eq_true, Bool.not_eq_true'] at h
 refine ⟨h.1.1, ?_, h.2⟩
 intro hm
 have := h.1.2
 rw [List.contains_iff_mem.2 hm] at this; cases this
theorem regOk_all : ∀ {rest seen : List Nat} {ms : List Nat}, regOk ops ms rest seen = true -> ∀ i, i < ops.size -> i ∈ rest \/ i ∈ seen
 | [], seen, ms, h, i, hi => by
  simp only [regOk, List.all_eq_true, List.mem_range] at h
  exact .inr (List.contains_iff_mem.1 (h i hi))
 | j :: rest, seen, ms, h, i, hi => by
  obtain ⟨_, _, h3⟩ := regOk_head h
  rcases regOk_all h3 i hi with h4 | h4
  ·exact .inl (List.mem_cons_of_mem _ h4)
  ·rcases List.mem_cons.1 h4 with rfl | h5
   ·exact .inl (List.mem_cons_self ..)
   ·exact .inr h5
theorem regStep_spec {ms : List Nat} {seen rest : List Nat} {i : Nat} (h : regStep ops ms seen rest i = true) : ∃ o, ops[i]? = some o /\
  (∀ e ∈ o.after.toList, Region.binds .any e = true -> e.on ∈ seen) /\
  (∀ j ∈ seen, ∀ p d, ops[j]? = some p -> p.dst = some d -> d ∈ tmpsOf ops o -> preB ms j i = true) /\
  (if freeB ops ms seen o = true then (readsQ o.op = true -> closedA ops ms seen = true) else freeA ops seen o = true \/ ((∀ k ∈ rest, preB ms i k = true \/ earlyB ops ms k = true) /\ (∀ j ∈ seen, ∀ p, ops[j]? = some p -> isA p.op = true -> preB ms j i = true) /\ (∀ j ∈ seen, preB ms j i = true \/ ∀ d, o.dst = some d -> ∀ p, ops[j]? = some p -> d ∉ namesOf ops p))) := by
 unfold regStep at h
 split at h
 ·cases h
 rename_i o ho
 simp only [Bool.and_eq_true] at h
 obtain ⟨⟨⟨h1, h2⟩, h3⟩, h4⟩ := h
 refine ⟨o, ho, ?_, ?_, ?_⟩
 ·intro e he hb
  have := List.all_eq_true.1 h1 e he
  rw [hb] at this
  simpa using this
 ·intro j hj p d hp hd ht
  have := List.all_eq_true.1 h2 j hj
  rw [hp] at this
  simp only [hd] at this
  rw [List.contains_iff_mem.2 ht] at this
  simpa using this
 ·split at h4
  ·rename_i hf
   rw [if_pos hf]
   intro hr
   rw [hr] at h4
   simpa using h4
  ·rename_i hf
   rw [if_neg hf]
   simp only [Bool.or_eq_true, Bool.and_eq_true] at h4
   rcases h4 with h4 | ⟨⟨h4, h6⟩, h5⟩
   ·exact .inl h4
   ·refine .inr ⟨fun k hk => by simpa using List.all_eq_true.1 h4 k hk, fun j hj p hp ha => ?_, ?_⟩
    ·have := List.all_eq_true.1 h6 j hj
     rw [hp] at this
     simp only [ha] at this
     simpa using this
    intro j hj
    have h5 := List.all_eq_true.1 h5 j hj
    rw [Bool.or_eq_true] at h5
    rcases h5 with h5 | h5
    ·exact .inl h5
    ·refine .inr fun d hd p hp hmem => ?_
     rw [hd] at h5
     simp only [hp, List.contains_iff_mem.2 hmem] at h5
     cases h5
theorem ownB_spec {seen : List Nat} {o : Oper} (h : ownB ops seen o = true) : ∀ d, o.dst = some d -> d ∉ tmpsOf ops o /\ ∀ j ∈ seen, ∀ p, ops[j]? = some p -> d ∉ namesOf ops p := by
 intro d hd
 unfold ownB at h
 rw [hd] at h
 simp only [Bool.and_eq_true, Bool.not_eq_true'] at h
 refine ⟨fun hm => ?_, fun j hj p hp hm => ?_⟩
 ·have := h.1
  rw [List.contains_iff_mem.2 hm] at this; cases this
 ·have := List.all_eq_true.1 h.2 j hj
  rw [hp] at this
  simp only [List.contains_iff_mem.2 hm] at this
  cases this
theorem freeB_spec {ms seen : List Nat} {o : Oper} (h : freeB ops ms seen o = true) : isL ops ms o = true /\ ownB ops seen o = true := by
 unfold freeB at h
 simpa using h
theorem freeA_spec {seen : List Nat} {o : Oper} (h : freeA ops seen o = true) : (∃ t, o.op = .alloc t) /\ o.guard = none /\ ownB ops seen o = true := by
 unfold freeA at h
 simp only [Bool.and_eq_true] at h
 refine ⟨?_, by simpa using h.1.2, h.2⟩
 have := h.1.1
 cases ho : o.op <;> rw [ho] at this <;> first | exact ⟨_, rfl⟩ | (simp [isA] at this; done)
theorem names_tmps {o : Oper} {d : Tmp} (h : d ∉ namesOf ops o) : d ∉ tmpsOf ops o /\ o.dst ≠ some d := by
 unfold namesOf at h
 simp only [List.mem_append, not_or] at h
 refine ⟨h.2, fun e => h.1 ?_⟩
 rw [e]; simp
theorem agree_put {F : Fr} {dst : Option Tmp} {r : AV} {o : Oper} (h : ∀ d, dst = some d -> d ∉ tmpsOf ops o) : Agree F (F.put dst r) o.op := by
 intro t ht
 refine (put_get fun e => h t e (mem_tmps ht)).symm
theorem guardV_put {F : Fr} {dst : Option Tmp} {r : AV} {o : Oper} {j : Nat} {want : Bool} (hg : o.guard = some (j, want)) (h : ∀ d, dst = some d -> d ∉ tmpsOf ops o) : guardV ops (F.put dst r) j = guardV ops F j := by
 unfold guardV
 cases hd : (ops[j]?).bind (·.dst) with
 | none => rfl
 | some d => simp only; rw [put_get fun e => h d e (mem_guard hg hd)]
theorem late_put {pend : List Nat} {i : Nat} {o : Oper} {F : Fr} {H H' : Heap} {dst : Option Tmp} {r : AV} (hd : ∀ d, dst = some d -> d ∉ tmpsOf ops o /\ o.dst ≠ some d)
  (hH : LateX P pend i o F H -> ∃ q, lateV P o.op (F.put dst r) H' = some q /\ ∀ d, o.dst = some d -> (F.put dst r).get d = q) (h : LateG P ops pend i o F H) : LateG P ops pend i o (F.put dst r) H' := by
 have hd1 : ∀ d, dst = some d -> d ∉ tmpsOf ops o := fun d e => (hd d e).1
 unfold LateG at *
 split
 ·rename_i hg; rw [hg] at h; exact ⟨hH h, h.2⟩
 ·rename_i j want hg
  rw [hg] at h
  obtain ⟨b, h1, h2, h3⟩ := h
  refine ⟨b, by rw [guardV_put hg hd1]; exact h1, fun hb => ⟨hH (h2 hb), (h2 hb).2⟩, fun hb d hdd => ?_⟩
  rw [put_get fun e => (hd d e).2 hdd]
  exact h3 hb d hdd
theorem isA_hard {o : Oper} (h : isA o.op = true) (ms : List Nat) : isL ops ms o = false := by
 obtain ⟨dst, op, ty, pos, after, guard⟩ := o
 cases op <;> simp [isA] at h
 rfl
theorem preB_lt {i j : Nat} (h : preB (masks ops.toList []) i j = true) : j < ops.size := by
 rcases Nat.lt_or_ge j ops.size with hlt | hge
 ·exact hlt
 ·exfalso
  have hlen : ∀ (l : List Oper) (acc : List Nat), (masks l acc).length = acc.length + l.length := by
   intro l
   induction l with
   | nil => intro acc; simp [masks]
   | cons o l ih => intro acc; simp only [masks, ih, List.length_append, List.length_cons, List.length_nil]; omega
  unfold preB at h
  rw [List.getD_eq_getElem?_getD, List.getElem?_eq_none (by rw [hlen]; simpa using hge)] at h
  simp at h
theorem regOk_disj : ∀ {rest seen : List Nat} {ms : List Nat}, regOk ops ms rest seen = true -> ∀ i ∈ rest, i ∉ seen
 | [], seen, ms, h, i, hi => by cases hi
 | j :: rest, seen, ms, h, i, hi => by
  obtain ⟨_, h2, h3⟩ := regOk_head h
  rcases List.mem_cons.1 hi with rfl | hi
  ·exact h2
  ·exact fun hm => regOk_disj h3 i hi (List.mem_cons_of_mem _ hm)
theorem earlyB_spec {ms : List Nat} {k : Nat} (h : earlyB ops ms k = true) : ∃ o t, ops[k]? = some o /\ o.op = .alloc t /\ o.guard = none /\ ∀ d, o.dst = some d -> ∀ j p, j ≠ k -> ops[j]? = some p -> d ∈ namesOf ops p -> preB ms k j = true := by
 unfold earlyB at h
 split at h
 ·rename_i o ho
  simp only [Bool.and_eq_true, Option.isNone_iff_eq_none] at h
  obtain ⟨⟨h1, h2⟩, h3⟩ := h
  obtain ⟨t, ht⟩ : ∃ t, o.op = .alloc t := by
   obtain ⟨dst, op, ty, pos, after, guard⟩ := o
   cases op <;> simp [isA] at h1
   exact ⟨_, rfl⟩
  refine ⟨o, t, ho, ht, h2, fun d hd j p hj hp hm => ?_⟩
  rw [hd] at h3
  have := List.all_eq_true.1 h3 j (List.mem_range.2 (Array.getElem?_eq_some_iff.1 hp).1)
  rw [hp] at this
  simp only [List.contains_iff_mem.2 hm, Bool.not_true, Bool.false_or, Bool.or_eq_true, beq_iff_eq] at this
  exact this.resolve_left hj
 ·cases h
section
variable {listed : Array Bool} {L seen rest pend : List Nat} {σ : St} {Hr : Heap} {G : List Kept} {E : List Early} {base : Nat -> Prop} {w0 : Start} {Z : ZMap} {φ : PMap} {a : Act} {w : World}
theorem seen_closed {ms : List Nat} (hms : ms = masks ops.toList []) : ∀ (n : Nat) {l : List Nat}, l.length <= n -> (∀ l1 i l2, l = l1 ++ i :: l2 -> ∀ o, ops[i]? = some o -> ∀ e ∈ o.after.toList, Region.binds .any e = true -> e.on ∈ l2) ->
  ∀ {j k : Nat}, j ∈ l -> preB ms k j = true -> k ∈ l
 | n, l, hn, he, j, k, hj, hk => by
  subst hms
  obtain ⟨l1, l2, rfl⟩ := List.append_of_mem hj
  obtain ⟨o, ho⟩ : ∃ o, ops[j]? = some o := ⟨ops[j]'(preB_lt hk), by simp [preB_lt hk]⟩
  obtain ⟨e, hem, hb, h2⟩ := preB_edge ho hk
  have h3 := he l1 j l2 rfl o ho e hem hb
  rcases h2 with rfl | h2
  ·simp [h3]
  ·have hlen : l2.length + 1 <= (l1 ++ j :: l2).length := by simp
   match n, hn with
   | 0, hn => omega
   | n + 1, hn =>
    have := seen_closed rfl n (l := l2) (by omega) (fun m1 i m2 hm => he (l1 ++ j :: m1) i m2 (by rw [hm]; simp)) h3 h2
    simp [this]
theorem Inv.seenPre (h : Inv P N ops Q listed L seen rest pend σ Hr G E base w0 Z φ a w) {j k : Nat} (hj : j ∈ seen) (hk : preB (masks ops.toList []) k j = true) : k ∈ seen :=
 seen_closed rfl seen.length (Nat.le_refl _) h.edges hj hk
theorem Inv.eOwn (h : Inv P N ops Q listed L seen rest pend σ Hr G E base w0 Z φ a w) {e : Early} (he : e ∈ E) {o : Oper} (ho : ops[e.i]? = some o) {d : Tmp} (hd : o.dst = some d) {j : Nat} {p : Oper} (hp : ops[j]? = some p)
  (hj : j ∈ seen \/ (j ≠ e.i /\ ∀ k, preB (masks ops.toList []) k j = true -> k ∈ seen)) : d ∉ namesOf ops p := by
 intro hm
 have hns : e.i ∉ seen := regOk_disj h.ok _ (h.eop e he).mem
 obtain ⟨o', t, ho', _, _, hx⟩ := earlyB_spec (h.eop e he).free
 rw [ho] at ho'; injection ho' with ho'; subst ho'
 rcases hj with hj | ⟨hj, hk⟩
 ·have hne : j ≠ e.i := fun e' => hns (e' ▸ hj)
  exact hns (h.seenPre hj (hx d hd j p hne hp hm))
 ·exact hns (hk _ (hx d hd j p hj hp hm))
theorem Inv.notL (h : Inv P N ops Q listed L seen rest pend σ Hr G E base w0 Z φ a w) {i : Nat} (hi : i < ops.size) (hl : listed.getD i true = true) : i ∉ L := by
 rcases (h.hl i hi).1 hl with h1 | ⟨e, he, rfl⟩
 ·exact h1.2
 ·exact fun hm => regOk_disj h.ok _ (h.eop e he).mem (h.hL _ hm)
theorem Inv.headPre {i : Nat} {o : Oper} (h : Inv P N ops Q listed L seen (i :: rest) pend σ Hr G E base w0 Z φ a w) (ho : ops[i]? = some o) (hed : ∀ e ∈ o.after.toList, Region.binds .any e = true -> e.on ∈ seen) :
  ∀ k, preB (masks ops.toList []) k i = true -> k ∈ seen := by
 intro k hk
 obtain ⟨e, hem, hb, h2⟩ := preB_edge ho hk
 have h3 := hed e hem hb
 rcases h2 with rfl | h2
 ·exact h3
 ·exact h.seenPre h3 h2
theorem Inv.eFree {e : Early} (h : Inv P N ops Q listed L seen rest pend σ Hr G E base w0 Z φ a w) (he : e ∈ E) {o : Oper} (ho : ops[e.i]? = some o) : freeA ops seen o = true := by
 obtain ⟨o', t, ho', hop, hg, _⟩ := earlyB_spec (h.eop e he).free
 rw [ho] at ho'; injection ho' with ho'; subst ho'
 unfold freeA
 rw [hop, hg]
 simp only [isA, Option.isNone_none, Bool.true_and]
 unfold ownB
 cases hd : o.dst with
 | none => rfl
 | some d =>
  have ht : tmpsOf ops o = [] := by
   unfold tmpsOf
   rw [hop, hg]; rfl
  simp only [ht, List.contains_nil, Bool.not_false, Bool.true_and, List.all_eq_true]
  intro j hj
  cases hp : ops[j]? with
  | none => rfl
  | some p =>
   simp only [Bool.not_eq_true']
   cases hc : (namesOf ops p).contains d with
   | false => rfl
   | true => exact absurd (List.contains_iff_mem.1 hc) (h.eOwn he ho hd hp (.inl hj))
end
theorem Inv.noG {listed : Array Bool} {L seen rest pend : List Nat} {σ : St} {Hr : Heap} {G : List Kept} {E : List Early} {base : Nat -> Prop} {w0 : Start} {Z : ZMap} {φ : PMap} {a : Act} {w : World}
  (h : Inv P N ops Q listed L seen rest pend σ Hr G E base w0 Z φ a w) (hA : ∀ j ∈ seen, ∀ p, ops[j]? = some p -> isA p.op = true -> j ∉ L) : G = [] := by
 cases hG : G with
 | nil => rfl
 | cons v G' =>
  exfalso
  obtain ⟨hi, o, ho, ha⟩ := h.gL v (by rw [hG]; simp)
  exact hA v.i (h.hL _ hi) o ho ha hi
theorem Inv.subH {listed : Array Bool} {L seen rest pend : List Nat} {σ : St} {Hr : Heap} {E : List Early} {base : Nat -> Prop} {w0 : Start} {Z : ZMap} {φ : PMap} {a : Act} {w : World}
  (h : Inv P N ops Q listed L seen rest pend σ Hr [] E base w0 Z φ a w) : Sub σ.H Hr := by
 intro b x hb
 rcases h.gH b x hb with h1 | ⟨v, hv, _⟩
 ·exact h1
 ·cases hv
theorem Inv.closedA_ {listed : Array Bool} {L seen rest pend : List Nat} {σ : St} {Hr : Heap} {G : List Kept} {E : List Early} {base : Nat -> Prop} {w0 : Start} {Z : ZMap} {φ : PMap} {a : Act} {w : World}
  (h : Inv P N ops Q listed L seen rest pend σ Hr G E base w0 Z φ a w) (hc : closedA ops (masks ops.toList []) seen = true) : G = [] := by
 refine h.noG fun j hj p hp ha hjL => ?_
 have := List.all_eq_true.1 hc j hj
 rw [hp] at this
 simp only [ha, Bool.not_true, Bool.false_or, List.any_eq_true, Bool.and_eq_true] at this
 obtain ⟨k, hk, hpre, hhard⟩ := this
 cases hq : ops[k]? with
 | none => rw [hq] at hhard; cases hhard
 | some q =>
  rw [hq] at hhard
  simp only [Bool.and_eq_true, Bool.not_eq_true'] at hhard
  have hkL : k ∉ L := by
   intro hkL
   obtain ⟨q', hq', _, _, hc⟩ := h.late k hkL
   rw [hq] at hq'; injection hq' with hq'; subst hq'
   rcases hc with ⟨h1, _⟩ | ⟨t, _, _, h1, _⟩
   ·rw [hhard.1] at h1; cases h1
   ·have := hhard.2; rw [h1] at this; cases this
  have hk1 := (h.hl k (h.bound k hk)).2 (.inl ⟨hk, hkL⟩)
  have hj1 := h.closed k j hk1 (h.bound k hk) hpre
  have hjlt : j < listed.size := by rw [h.lsz]; exact h.bound j hj
  have hj2 : listed.getD j true = true := by rw [<- hj1]; simp [Array.getD, hjlt]
  exact h.notL (h.bound j hj) hj2 hjL
theorem Inv.push {listed : Array Bool} {L seen rest pend : List Nat} {i : Nat} {σ : St} {Hr : Heap} {G : List Kept} {E : List Early} {base : Nat -> Prop} {w0 : Start} {Z : ZMap} {φ : PMap} {a : Act} {w : World}
  (h : Inv P N ops Q listed L seen (i :: rest) pend σ Hr G E base w0 Z φ a w) {o : Oper} (ho : ops[i]? = some o) (hnE : ∀ e ∈ E, e.i ≠ i) (hown : ownB ops seen o = true)
  {pend' : List Nat} {r : AV} {H' : Heap} {nx' : Nat} {G' : List Kept} (hp : ∀ p ∈ pend, p ∈ pend') (hGs : ∀ v ∈ G, v ∈ G')
  (hlate : Late P N ops pend' G' i (σ.fr.put o.dst r) Hr) (hnx : σ.nx <= nx') (g1 : ∀ v ∈ G', (v ∈ G \/ v.i = i) /\ ∃ o, ops[v.i]? = some o /\ isA o.op = true) (g2 : ∀ v ∈ G', v.b < nx' /\ φ v.b = none /\ Hr.get v.b = none)
  (g3 : ∀ u ∈ G', ∀ v ∈ G', (u.i = v.i -> u = v) /\ (u.b = v.b -> u = v)) (g4 : ∀ c y, H'.get c = some y -> Hr.get c = some y \/ ∃ v ∈ G', v.b = c /\ y = .row v.cs.1 v.cs.2)
  (hv' : VReg P N ops (masks ops.toList []) Q rest (i :: seen) pend' ⟨σ.fr.put o.dst r, H', nx', σ.df⟩) :
  Inv P N ops Q listed (i :: L) (i :: seen) rest pend' ⟨σ.fr.put o.dst r, H', nx', σ.df⟩ Hr G' E base w0 Z φ a w := by
 obtain ⟨hst, hns, hok⟩ := regOk_head h.ok
 obtain ⟨o', ho', hed, hrd, _⟩ := regStep_spec hst
 rw [ho] at ho'; injection ho' with ho'; subst ho'
 have hfd := ownB_spec hown
 have hlt : i < ops.size := (Array.getElem?_eq_some_iff.1 ho).1
 have hmemE : ∀ e ∈ E, e.i ∈ rest := fun e he => (List.mem_cons.1 (h.eop e he).mem).resolve_left (hnE e he)
 refine ⟨fun j hj => ?_, h.lsz, fun j hj => ?_, fun j hj => ?_, h.closed, hok, ?_, ?_, ?_, ?_, h.size, h.df, h.heap.nxMono hnx, fun v hv => ⟨?_, (g1 v hv).2⟩, g2, g3, g4, fun e he => ⟨hmemE e he, (h.eop e he).free, (h.eop e he).op⟩, h.eblk, h.ed, hv'⟩
 ·rw [h.hl j hj]
  simp only [List.mem_cons, not_or]
  refine or_congr ?_ Iff.rfl
  constructor
  ·rintro ⟨a1, a2⟩; exact ⟨.inr a1, fun e => hns (e ▸ a1), a2⟩
  ·rintro ⟨a1, a2, a3⟩; exact ⟨a1.resolve_left a2, a3⟩
 ·rcases List.mem_cons.1 hj with rfl | hj
  ·exact List.mem_cons_self ..
  ·exact List.mem_cons_of_mem _ (h.hL j hj)
 ·rcases List.mem_cons.1 hj with rfl | hj
  ·exact hlt
  ·exact h.bound j hj
 ·intro l1 x l2 hsp ox hox e he hb
  cases l1 with
  | nil =>
   simp only [List.nil_append, List.cons.injEq] at hsp
   obtain ⟨rfl, rfl⟩ := hsp
   rw [ho] at hox; injection hox with hox; subst hox
   exact hed e he hb
  | cons y l1 =>
   simp only [List.cons_append, List.cons.injEq] at hsp
   exact h.edges l1 x l2 hsp.2 ox hox e he hb
 ·intro j hj
  rcases List.mem_cons.1 hj with rfl | hj
  ·exact hlate
  ·obtain ⟨oj, hoj, k2, k3, k4⟩ := h.late j hj
   have hd : ∀ d, o.dst = some d -> d ∉ tmpsOf ops oj /\ oj.dst ≠ some d := fun d e => names_tmps ((hfd d e).2 j (h.hL j hj) oj hoj)
   refine ⟨oj, hoj, k2, k3, ?_⟩
   rcases k4 with ⟨k4, k5⟩ | ⟨t, b, cs, k4, k5, k6, k7, k8⟩
   ·refine .inl ⟨k4, late_mono hp (late_put hd (fun hx => ?_) k5)⟩
    obtain ⟨⟨q, hq1, hq2⟩, _⟩ := hx
    refine ⟨q, ?_, fun d hdd => ?_⟩
    ·rw [<- lateV_congr (agree_put (ops := ops) fun d e => (hd d e).1)]; exact hq1
    ·rw [put_get fun e => (hd d e).2 hdd]; exact hq2 d hdd
   ·refine .inr ⟨t, b, cs, k4, k5, k6, hGs _ k7, fun d hdd => ?_⟩
    rw [put_get fun e => (hd d e).2 hdd]; exact k8 d hdd
 ·intro j hj k hk hkj oj ok d hoj hok' hd
  rcases List.mem_cons.1 hj with rfl | hj2
  ·rw [ho] at hoj; injection hoj with hoj; subst hoj
   have hk' : k ∈ seen := (List.mem_cons.1 hk).resolve_left hkj
   have := names_tmps ((hfd d hd).2 k hk' ok hok')
   exact ⟨fun hm => absurd hm this.1, this.2⟩
  ·rcases List.mem_cons.1 hk with rfl | hk2
   ·rw [ho] at hok'; injection hok' with hok'; subst hok'
    refine ⟨fun hm => hrd j (h.hL j hj2) oj d hoj hd hm, fun e => ?_⟩
    exact (names_tmps ((hfd d e).2 j (h.hL j hj2) oj hoj)).2 hd
   ·exact h.apart j hj2 k hk2 hkj oj ok d hoj hok' hd
 ·intro t ht htE
  simp only
  rw [put_get (ht i (List.mem_cons_self ..) o ho)]
  exact h.frm t (fun j hj => ht j (List.mem_cons_of_mem _ hj)) htE
 ·rcases (g1 v hv).1 with h1 | h1
  ·exact List.mem_cons_of_mem _ (h.gL v h1).1
  ·rw [h1]; exact List.mem_cons_self ..
theorem Inv.adv {listed : Array Bool} {L seen rest pend : List Nat} {i : Nat} {σ : St} {Hr : Heap} {G : List Kept} {E : List Early} {base : Nat -> Prop} {w0 : Start} {Z : ZMap} {φ : PMap} {a : Act} {w : World}
  (h : Inv P N ops Q listed L seen (i :: rest) pend σ Hr G E base w0 Z φ a w) {o : Oper} (ho : ops[i]? = some o) (hfree : freeB ops (masks ops.toList []) seen o = true) (hnE : ∀ e ∈ E, e.i ≠ i) :
  ∃ pend' σ', Inv P N ops Q listed (i :: L) (i :: seen) rest pend' σ' Hr G E base w0 Z φ a w := by
 obtain ⟨hst, hns, hok⟩ := regOk_head h.ok
 obtain ⟨o', ho', hed, hrd, hcase⟩ := regStep_spec hst
 rw [ho] at ho'; injection ho' with ho'; subst ho'
 rw [if_pos hfree] at hcase
 obtain ⟨hq, hown⟩ := freeB_spec hfree
 have hfd := ownB_spec hown
 have hv := h.v
 unfold VReg at hv
 rw [ho] at hv
 simp only [hfree, if_true] at hv
 obtain ⟨hdst, hv⟩ := hv
 have mk : ∀ (pend' : List Nat) (r : AV), (∀ p ∈ pend, p ∈ pend') -> LateG P ops pend' i o (σ.fr.put o.dst r) Hr -> VReg P N ops (masks ops.toList []) Q rest (i :: seen) pend' { σ with fr := σ.fr.put o.dst r } ->
   ∃ pend' σ', Inv P N ops Q listed (i :: L) (i :: seen) rest pend' σ' Hr G E base w0 Z φ a w := fun pend' r hp hlg hv' =>
  ⟨pend', _, h.push ho hnE hown hp (fun v hv => hv) ⟨o, ho, hdst, fun d hd => (hfd d hd).1, .inl ⟨hq, hlg⟩⟩ (Nat.le_refl _) (fun v hv => ⟨.inl hv, (h.gL v hv).2⟩) h.gb h.gd h.gH hv'⟩
 have toHr : ∀ r, lateV P o.op σ.fr σ.H = some r -> lateV P o.op σ.fr Hr = some r := fun r hr => by
  cases hrd' : readsQ o.op with
  | false => rw [lateV_noread (H' := σ.H) hrd']; exact hr
  | true =>
   have := h.closedA_ (hcase hrd')
   subst this
   exact lateV_sub h.subH hr
 have runIt : (∃ r, lateV P o.op σ.fr σ.H = some r /\ VReg P N ops (masks ops.toList []) Q rest (i :: seen) (if readsQ o.op then i :: pend else pend) { σ with fr := σ.fr.put o.dst r }) ->
   (∀ r, LateX P (if readsQ o.op then i :: pend else pend) i o (σ.fr.put o.dst r) Hr -> LateG P ops (if readsQ o.op then i :: pend else pend) i o (σ.fr.put o.dst r) Hr) ->
   ∃ pend' σ', Inv P N ops Q listed (i :: L) (i :: seen) rest pend' σ' Hr G E base w0 Z φ a w := by
  rintro ⟨r, hr, hv'⟩ hG
  refine mk _ r (fun p hp => by split <;> simp [hp]) (hG r ⟨⟨r, ?_, fun d hd => by simp only [hd]; exact put_get_self⟩, fun hrd => by rw [if_pos hrd]; simp⟩) hv'
  rw [<- lateV_congr (agree_put (ops := ops) fun d e => (hfd d e).1)]; exact toHr r hr
 cases hg : o.guard with
 | none =>
  rw [hg] at hv
  exact runIt hv fun r hx => by unfold LateG; rw [hg]; exact hx
 | some p =>
  obtain ⟨j, want⟩ := p
  rw [hg] at hv
  obtain ⟨b, hb, h1, h2⟩ := hv
  have hgd : ∀ r, guardV ops (σ.fr.put o.dst r) j = some b := fun r => by rw [guardV_put hg fun d e => (hfd d e).1]; exact hb
  by_cases hbw : b = some want
  ·exact runIt (h1 hbw) fun r hx => by unfold LateG; rw [hg]; exact ⟨b, hgd r, fun _ => hx, fun hne => absurd hbw hne⟩
  ·refine mk pend skipV (fun p hp => hp) ?_ (h2 hbw)
   unfold LateG; rw [hg]
   exact ⟨b, hgd _, fun hw => absurd hw hbw, fun _ d hd => by simp only [hd]; exact put_get_self⟩
theorem Inv.advA {listed : Array Bool} {L seen rest pend : List Nat} {i : Nat} {σ : St} {Hr : Heap} {G : List Kept} {E : List Early} {base : Nat -> Prop} {w0 : Start} {Z : ZMap} {φ : PMap} {a : Act} {w : World}
  (h : Inv P N ops Q listed L seen (i :: rest) pend σ Hr G E base w0 Z φ a w) {o : Oper} (ho : ops[i]? = some o) (hnf : freeB ops (masks ops.toList []) seen o = false) (hfree : freeA ops seen o = true) (hnE : ∀ e ∈ E, e.i ≠ i) :
  ∃ σ' G', Inv P N ops Q listed (i :: L) (i :: seen) rest pend σ' Hr G' E base w0 Z φ a w := by
 obtain ⟨⟨t, hop⟩, hg, hown⟩ := freeA_spec hfree
 obtain ⟨_, hns, _⟩ := regOk_head h.ok
 have hfd := ownB_spec hown
 have hv := h.v
 unfold VReg at hv
 rw [ho] at hv
 simp only [hnf, Bool.false_eq_true, if_false, hg] at hv
 obtain ⟨hdst, hv⟩ := hv
 unfold SOpR at hv
 rw [hop] at hv
 simp only [aq, ae, isVar, Bool.true_eq_false, reduceCtorEq, false_and, exists_false, false_or, or_false] at hv
 obtain ⟨r, H', nx', hae, _, hv'⟩ := hv
 unfold aalloc at hae
 simp only [Option.bind_eq_bind, Option.bind_eq_some_iff, Option.some.injEq, Prod.mk.injEq] at hae
 obtain ⟨cs, hcs, rfl, rfl, rfl⟩ := hae
 have hiG : ∀ v ∈ G, v.i ≠ i := fun v hv e => hns (e ▸ h.hL _ (h.gL v hv).1)
 refine ⟨_, ⟨i, σ.nx, cs⟩ :: G, h.push ho hnE hown (fun p hp => hp) (fun v hv => List.mem_cons_of_mem _ hv)
  ⟨o, ho, hdst, fun d hd => (hfd d hd).1, .inr ⟨t, σ.nx, cs, hop, hg, hcs, List.mem_cons_self .., fun d hd => by simp only [hd]; exact put_get_self⟩⟩ (Nat.le_succ _) (fun v hv => ?_) (fun v hv => ?_) (fun u hu v hv => ?_) (fun c y hc => ?_) hv'⟩
 ·rcases List.mem_cons.1 hv with rfl | hv
  ·exact ⟨.inr rfl, o, ho, by rw [hop]; rfl⟩
  ·exact ⟨.inl hv, (h.gL v hv).2⟩
 ·rcases List.mem_cons.1 hv with rfl | hv
  ·exact ⟨Nat.lt_succ_self _, h.heap.fresh (Nat.le_refl _), h.heap.freshH (Nat.le_refl _)⟩
  ·exact ⟨Nat.lt_succ_of_lt (h.gb v hv).1, (h.gb v hv).2⟩
 ·rcases List.mem_cons.1 hu with rfl | hu <;> rcases List.mem_cons.1 hv with rfl | hv
  ·exact ⟨fun _ => rfl, fun _ => rfl⟩
  ·exact ⟨fun e => absurd e.symm (hiG v hv), fun e => by have := (h.gb v hv).1; simp only at e; omega⟩
  ·exact ⟨fun e => absurd e (hiG u hu), fun e => by have := (h.gb u hu).1; simp only at e; omega⟩
  ·exact h.gd u hu v hv
 ·rw [Heap.get_set] at hc
  by_cases hcn : c = σ.nx
  ·rw [if_pos hcn] at hc; injection hc with hc
   exact .inr ⟨_, List.mem_cons_self .., hcn.symm, hc.symm⟩
  ·rw [if_neg hcn] at hc
   rcases h.gH c y hc with h1 | ⟨v, hv, h1⟩
   ·exact .inl h1
   ·exact .inr ⟨v, List.mem_cons_of_mem _ hv, h1⟩
theorem Inv.advE {listed : Array Bool} {L seen rest pend : List Nat} {i : Nat} {σ : St} {Hr : Heap} {G : List Kept} {E : List Early} {base : Nat -> Prop} {w0 : Start} {Z : ZMap} {φ : PMap} {a : Act} {w : World}
  (h : Inv P N ops Q listed L seen (i :: rest) pend σ Hr G E base w0 Z φ a w) {o : Oper} (ho : ops[i]? = some o) (hnf : freeB ops (masks ops.toList []) seen o = false) {e : Early} (he : e ∈ E) (hei : e.i = i) :
  ∃ σ' Hr' φ', PLe φ φ' /\ Inv P N ops Q listed L (i :: seen) rest pend σ' Hr' G (E.filter fun f => f.i ≠ i) base w0 Z φ' a w := by
 subst hei
 obtain ⟨hst, hns, hok⟩ := regOk_head h.ok
 obtain ⟨o', ho', hed, hrd, _⟩ := regStep_spec hst
 rw [ho] at ho'; injection ho' with ho'; subst ho'
 have hlt : e.i < ops.size := (Array.getElem?_eq_some_iff.1 ho).1
 obtain ⟨o', t, ho', hop, hg, hx⟩ := earlyB_spec (h.eop e he).free
 rw [ho] at ho'; injection ho' with ho'; subst ho'
 obtain ⟨o', t', ho', hop', hcs, hval⟩ := (h.eop e he).op
 rw [ho] at ho'; injection ho' with ho'; subst ho'
 rw [hop] at hop'; injection hop' with hop'; subst hop'
 have hb := h.eblk e he
 have hown : ∀ d, o.dst = some d -> ∀ j ∈ seen, ∀ p, ops[j]? = some p -> d ∉ namesOf ops p := fun d hd j hj p hp => h.eOwn he ho hd hp (.inl hj)
 have hts : tmpsOf ops o = [] := by unfold tmpsOf; rw [hop, hg]; rfl
 have hv := h.v
 unfold VReg at hv
 rw [ho] at hv
 simp only [hnf, Bool.false_eq_true, if_false, hg] at hv
 obtain ⟨hdst, hv⟩ := hv
 unfold SOpR at hv
 rw [hop] at hv
 simp only [aq, ae, isVar, Bool.true_eq_false, reduceCtorEq, false_and, exists_false, false_or, or_false] at hv
 obtain ⟨r, H', nx', hae, _, hv'⟩ := hv
 unfold aalloc at hae
 simp only [Option.bind_eq_bind, Option.bind_eq_some_iff, Option.some.injEq, Prod.mk.injEq] at hae
 obtain ⟨cs, hcs', rfl, rfl, rfl⟩ := hae
 rw [hcs] at hcs'; injection hcs' with hcs'; subst hcs'
 have hfr := h.heap.fresh (Nat.le_refl σ.nx)
 have hle := PMap.le_set (x := e.loc) hfr
 have hiL : e.i ∉ L := fun hm => hns (h.hL _ hm)
 have hfE : ∀ f, f ∈ E.filter (fun f => f.i ≠ e.i) ↔ f ∈ E /\ f.i ≠ e.i := fun f => by simp
 have hS : Sub Hr (Hr.set σ.nx (.row e.cs.1 e.cs.2)) := fun c y hc => by
  rw [Heap.get_set]
  by_cases hcn : c = σ.nx
  ·subst hcn; rw [h.heap.freshH (Nat.le_refl _)] at hc; cases hc
  ·rw [if_neg hcn]; exact hc
 have hH : HRel base w0 Z (φ.set σ.nx e.loc) (Hr.set σ.nx (.row e.cs.1 e.cs.2)) (σ.nx + 1) w := by
  refine ⟨h.heap.below, h.heap.z, h.heap.z0, h.heap.gl, fun c y hy => ?_, fun c y hy => ?_, fun c l' hc => ?_, fun c y hy => ?_, ?_, ?_⟩
  ·unfold PMap.set at hy
   by_cases hc : c = σ.nx
   ·omega
   ·rw [if_neg hc] at hy; have := h.heap.fnx c y hy; omega
  ·rw [Heap.get_set] at hy
   by_cases hc : c = σ.nx
   ·omega
   ·rw [if_neg hc] at hy; have := h.heap.hnx c y hy; omega
  ·unfold PMap.set at hc
   by_cases hcb : c = σ.nx
   ·rw [if_pos hcb] at hc; injection hc with hc; subst hc; exact hb.lt
   ·rw [if_neg hcb] at hc; exact h.heap.flt c l' hc
  ·rw [Heap.get_set] at hy
   by_cases hcb : c = σ.nx
   ·rw [if_pos hcb] at hy; injection hy with hy; subst hy; subst hcb
    exact .inr ⟨e.loc, PMap.set_self _ _ _, hb.z, hb.rel.mono (ZLe.refl _) hle rfl⟩
   ·rw [if_neg hcb] at hy
    rcases h.heap.own' c y hy with ⟨hg, hf⟩ | ⟨l', hf, hz, hr⟩
    ·exact .inl ⟨hg, by unfold PMap.set; rw [if_neg hcb]; exact hf⟩
    ·exact .inr ⟨l', hle _ _ hf, hz, hr.mono (ZLe.refl _) hle rfl⟩
  ·intro c c' y y' l1 l2 hne hy hy' hc hc'
   rw [Heap.get_set] at hy hy'
   unfold PMap.set at hc hc'
   by_cases h1 : c = σ.nx
   ·rw [if_pos h1] at hc
    injection hc with hc; subst hc
    by_cases h2 : c' = σ.nx
    ·omega
    ·rw [if_neg h2] at hc' hy'; exact (hb.own c' y' l2 hy' hc').symm
   ·rw [if_neg h1] at hc hy
    by_cases h2 : c' = σ.nx
    ·rw [if_pos h2] at hc'; injection hc' with hc'; subst hc'; exact hb.own c y l1 hy hc
    ·rw [if_neg h2] at hc' hy'
     exact h.heap.inj c c' y y' l1 l2 hne hy hy' hc hc'
  ·intro c y l1 hy hc hu
   rw [Heap.get_set] at hy
   unfold PMap.set at hc
   by_cases h1 : c = σ.nx
   ·rw [if_pos h1] at hc; injection hc with hc; subst hc; exact hb.ob hu
   ·rw [if_neg h1] at hc hy
    exact h.heap.ob c y l1 hy hc hu
 refine ⟨⟨σ.fr.put o.dst (.ptr σ.nx 0 0), σ.H.set σ.nx (.row e.cs.1 e.cs.2), σ.nx + 1, σ.df⟩, Hr.set σ.nx (.row e.cs.1 e.cs.2), φ.set σ.nx e.loc, hle,
  ⟨fun j hj => ?_, h.lsz, fun j hj => List.mem_cons_of_mem _ (h.hL j hj), fun j hj => ?_, h.closed, hok, ?_, ?_, ?_, ?_, h.size, h.df.mono (ZLe.refl _) hle, hH, h.gL, fun v hv => ?_, h.gd, fun c y hc => ?_, fun f hf => ?_, fun f hf => ?_, fun f hf g hg => h.ed f ((hfE f).1 hf).1 g ((hfE g).1 hg).1, hv'⟩⟩
 ·rw [h.hl j hj]
  by_cases hji : j = e.i
  ·subst hji
   exact ⟨fun _ => .inl ⟨List.mem_cons_self .., hiL⟩, fun _ => .inr ⟨e, he, rfl⟩⟩
  ·refine or_congr ?_ ?_
   ·simp [hji]
   ·constructor
    ·rintro ⟨f, hf, rfl⟩; exact ⟨f, (hfE f).2 ⟨hf, hji⟩, rfl⟩
    ·rintro ⟨f, hf, rfl⟩; exact ⟨f, ((hfE f).1 hf).1, rfl⟩
 ·rcases List.mem_cons.1 hj with rfl | hj
  ·exact hlt
  ·exact h.bound j hj
 ·intro l1 x l2 hsp ox hox e' hm hb
  cases l1 with
  | nil =>
   simp only [List.nil_append, List.cons.injEq] at hsp
   obtain ⟨rfl, rfl⟩ := hsp
   rw [ho] at hox; injection hox with hox; subst hox
   exact hed e' hm hb
  | cons y l1 =>
   simp only [List.cons_append, List.cons.injEq] at hsp
   exact h.edges l1 x l2 hsp.2 ox hox e' hm hb
 ·intro j hj
  obtain ⟨oj, hoj, k2, k3, k4⟩ := h.late j hj
  have hd : ∀ d, o.dst = some d -> d ∉ tmpsOf ops oj /\ oj.dst ≠ some d := fun d e' => names_tmps (hown d e' j (h.hL j hj) oj hoj)
  refine ⟨oj, hoj, k2, k3, ?_⟩
  rcases k4 with ⟨k4, k5⟩ | ⟨t, b, cs, k4, k5, k6, k7, k8⟩
  ·refine .inl ⟨k4, late_put hd (fun hx => ?_) k5⟩
   obtain ⟨⟨q, hq1, hq2⟩, _⟩ := hx
   refine ⟨q, ?_, fun d hdd => ?_⟩
   ·rw [<- lateV_congr (agree_put (ops := ops) fun d e => (hd d e).1)]; exact lateV_sub hS hq1
   ·rw [put_get fun e => (hd d e).2 hdd]; exact hq2 d hdd
  ·refine .inr ⟨t, b, cs, k4, k5, k6, k7, fun d hdd => ?_⟩
   rw [put_get fun e => (hd d e).2 hdd]; exact k8 d hdd
 ·intro j hj k hk hkj oj ok d hoj hok' hd
  rcases List.mem_cons.1 hk with rfl | hk2
  ·rw [ho] at hok'; injection hok' with hok'; subst hok'
   refine ⟨fun hm => (by rw [hts] at hm; cases hm), fun e' => ?_⟩
   exact (names_tmps (hown d e' j (h.hL j hj) oj hoj)).2 hd
  ·exact h.apart j hj k hk2 hkj oj ok d hoj hok' hd
 ·intro t ht htE
  simp only
  by_cases htd : o.dst = some t
  ·rw [htd, put_get_self, hval t htd]
   have := Rep.ptr (Z := Z) (φ := φ.set σ.nx e.loc) (b := σ.nx) (i := 0) (o := 0) (PMap.set_self _ _ _)
   simpa [Early.loc] using this
  ·rw [put_get htd]
   refine (h.frm t ht fun f hf of hof => ?_).mono (ZLe.refl _) hle
   by_cases hfi : f.i = e.i
   ·rw [hfi, ho] at hof; injection hof with hof; subst hof; exact htd
   ·exact htE f ((hfE f).2 ⟨hf, hfi⟩) of hof
 ·obtain ⟨g1, g2, g3⟩ := h.gb v hv
  have hne : v.b ≠ σ.nx := by omega
  exact ⟨Nat.lt_succ_of_lt g1, by unfold PMap.set; rw [if_neg hne]; exact g2, by rw [Heap.get_set, if_neg hne]; exact g3⟩
 ·rw [Heap.get_set] at hc
  by_cases hcn : c = σ.nx
  ·rw [if_pos hcn] at hc; injection hc with hc
   subst hcn; subst hc; exact .inl (Heap.get_set_self _ _ _)
  ·rw [if_neg hcn] at hc
   rcases h.gH c y hc with h1 | h1
   ·exact .inl (hS _ _ h1)
   ·exact .inr h1
 ·obtain ⟨hf1, hf2⟩ := (hfE f).1 hf
  have := h.eop f hf1
  exact ⟨(List.mem_cons.1 this.mem).resolve_left hf2, this.free, this.op⟩
 ·obtain ⟨hf1, hf2⟩ := (hfE f).1 hf
  have hbf := h.eblk f hf1
  refine ⟨hbf.z, hbf.lt, hbf.ob, fun c y l hc hl => ?_, hbf.rel.mono (ZLe.refl _) hle rfl⟩
  rw [Heap.get_set] at hc
  unfold PMap.set at hl
  by_cases hcn : c = σ.nx
  ·rw [if_pos hcn] at hl; injection hl with hl; subst hl
   intro hB
   exact hf2 (by have := (h.ed e he f hf1).2 hB; rw [this])
  ·rw [if_neg hcn] at hc hl; exact hbf.own c y l hc hl
def Stops (ops : Array Oper) (seen rest : List Nat) : Prop := rest = [] \/ ∃ i rest' o, rest = i :: rest' /\ ops[i]? = some o /\ freeB ops (masks ops.toList []) seen o = false /\ freeA ops seen o = false
theorem Inv.norm : ∀ {rest : List Nat} {listed : Array Bool} {L seen pend : List Nat} {σ : St} {Hr : Heap} {G : List Kept} {E : List Early} {base : Nat -> Prop} {w0 : Start} {Z : ZMap} {φ : PMap} {a : Act} {w : World},
  Inv P N ops Q listed L seen rest pend σ Hr G E base w0 Z φ a w -> ∃ L' seen' rest' pend' σ' Hr' G' E' φ', PLe φ φ' /\ Inv P N ops Q listed L' seen' rest' pend' σ' Hr' G' E' base w0 Z φ' a w /\ Stops ops seen' rest'
 | [], listed, L, seen, pend, σ, Hr, G, E, base, w0, Z, φ, a, w, h => ⟨L, seen, [], pend, σ, Hr, G, E, φ, PLe.refl _, h, .inl rfl⟩
 | i :: rest, listed, L, seen, pend, σ, Hr, G, E, base, w0, Z, φ, a, w, h => by
  obtain ⟨hst, _, _⟩ := regOk_head h.ok
  obtain ⟨o, ho, _⟩ := regStep_spec hst
  by_cases hE : ∃ e ∈ E, e.i = i
  ·obtain ⟨e, he, hei⟩ := hE
   have hfA : freeA ops seen o = true := by subst hei; exact h.eFree he ho
   have hf : freeB ops (masks ops.toList []) seen o = false := by
    obtain ⟨⟨t, hop⟩, _, _⟩ := freeA_spec hfA
    unfold freeB
    rw [isA_hard (by rw [hop]; rfl)]; rfl
   obtain ⟨σ', Hr', φ', hφ, h'⟩ := h.advE ho hf he hei
   obtain ⟨L', seen', rest', pend', σ2, Hr2, G', E', φ2, hφ2, h2, h3⟩ := Inv.norm h'
   exact ⟨L', seen', rest', pend', σ2, Hr2, G', E', φ2, hφ.trans hφ2, h2, h3⟩
  ·have hnE : ∀ e ∈ E, e.i ≠ i := fun e he hei => hE ⟨e, he, hei⟩
   cases hf : freeB ops (masks ops.toList []) seen o with
   | true =>
    obtain ⟨pend', σ', h'⟩ := h.adv ho hf hnE
    exact Inv.norm h'
   | false =>
    cases hfa : freeA ops seen o with
    | true =>
     obtain ⟨σ', G', h'⟩ := h.advA ho hf hfa hnE
     exact Inv.norm h'
    | false => exact ⟨L, seen, i :: rest, pend, σ, Hr, G, E, φ, PLe.refl _, h, .inr ⟨i, rest, o, rfl, ho, hf, hfa⟩⟩
end
end Go.Lom

/- Regions that draw their order: one order serves all: the end. -/
namespace Go.Lom
open Go.RowKit
section
variable {P : Program} {N : Nat} {ops : Array Oper} {Q : AX -> St -> Prop}
theorem filter_get (D : Tmp -> Bool) : ∀ (F : Fr) (t : Tmp), Fr.get (F.filter fun p => !D p.1) t = if D t then .undef else F.get t
 | [], t => by simp [Fr.get]
 | (c, v) :: F, t => by
  simp only [List.filter_cons]
  by_cases hc : D c = true
  ·simp only [hc, Bool.not_true, Bool.false_eq_true, if_false]
   rw [filter_get D F t]
   by_cases ht : D t = true
   ·rw [if_pos ht, if_pos ht]
   ·rw [if_neg ht, if_neg ht]
    simp only [Fr.get]
    rw [if_neg]; rintro rfl; exact ht hc
  ·have hc' : D c = false := by simpa using hc
   simp only [hc', Bool.not_false, if_true, Fr.get]
   by_cases htc : t = c
   ·subst htc; simp [hc']
   ·rw [if_neg htc, if_neg htc, filter_get D F t]
def isD (ops : Array Oper) (L : List Nat) (t : Tmp) : Bool := L.any fun i => (ops[i]?).bind (·.dst) == some t
def maskF (ops : Array Oper) (L : List Nat) (F : Fr) : Fr := F.filter fun p => !isD ops L p.1
theorem isD_false {L : List Nat} {t : Tmp} (h : isD ops L t = false) : ∀ i ∈ L, ∀ o, ops[i]? = some o -> o.dst ≠ some t := by
 intro i hi o ho hd
 unfold isD at h
 have := (List.any_eq_false.1 h) i hi
 rw [ho] at this; simp [hd] at this
theorem isD_true {L : List Nat} {t : Tmp} (h : isD ops L t = true) : ∃ i ∈ L, ∃ o, ops[i]? = some o /\ o.dst = some t := by
 unfold isD at h
 obtain ⟨i, hi, h2⟩ := List.any_eq_true.1 h
 cases ho : ops[i]? with
 | none => rw [ho] at h2; simp at h2
 | some o => rw [ho] at h2; exact ⟨i, hi, o, ho, by simpa using h2⟩
variable {listed : Array Bool} {L seen rest pend : List Nat} {σ : St} {Hr : Heap} {G : List Kept} {E : List Early} {base : Nat -> Prop} {w0 : Start} {Z : ZMap} {φ : PMap} {a : Act} {w : World}
theorem Inv.maskRel (h : Inv P N ops Q listed L seen rest pend σ Hr G E base w0 Z φ a w) : FrRel Z φ (maskF ops (L ++ E.map (·.i)) σ.fr) a.tmps := by
 intro t
 unfold maskF
 rw [filter_get (isD ops (L ++ E.map (·.i)))]
 cases hd : isD ops (L ++ E.map (·.i)) t with
 | true => exact .undef _
 | false => exact h.frm t (fun i hi => isD_false hd i (List.mem_append.2 (.inl hi))) fun e he => isD_false hd e.i (List.mem_append.2 (.inr (List.mem_map.2 ⟨e, he, rfl⟩)))
theorem getD_iff {x : Nat} (hx : x < listed.size) : listed.getD x false = listed.getD x true := by
 simp [Array.getD, hx]
theorem getD_lt {x : Nat} (h : listed.getD x false = true) : x < listed.size := by
 rcases Nat.lt_or_ge x listed.size with h1 | h1
 ·exact h1
 ·simp [Array.getD, Nat.not_lt.2 h1] at h
theorem Inv.preDone (h : Inv P N ops Q listed L seen rest pend σ Hr G E base w0 Z φ a w) {i : Nat} {o : Oper} (ho : ops[i]? = some o) (he : ∀ e ∈ o.after, Region.binds .any e = true -> listed.getD e.on false = true)
  {k : Nat} (hk : preB (masks ops.toList []) k i = true) : listed.getD k false = true := by
 obtain ⟨e, hem, hb, h2⟩ := preB_edge ho hk
 have h3 := he e (by simpa using hem) hb
 rcases h2 with rfl | h2
 ·exact h3
 ·have hlt := getD_lt h3
  exact h.closed e.on k (by rw [<- getD_iff hlt]; exact h3) (by rw [<- h.lsz]; exact hlt) h2
theorem Inv.notLate (h : Inv P N ops Q listed L seen rest pend σ Hr G E base w0 Z φ a w) {k : Nat} (hk : listed.getD k false = true) : k ∉ L := by
 have hlt := getD_lt hk
 rw [getD_iff hlt] at hk
 exact h.notL (by rw [<- h.lsz]; exact hlt) hk
theorem Inv.clear_ (h : Inv P N ops Q listed L seen rest pend σ Hr G E base w0 Z φ a w) {i : Nat} {o : Oper} (ho : ops[i]? = some o) (he : ∀ e ∈ o.after, Region.binds .any e = true -> listed.getD e.on false = true)
  (hself : i ∈ L -> ∀ d, o.dst = some d -> d ∉ tmpsOf ops o) (hpre : ∀ j ∈ L, j ≠ i -> ∀ oj d, ops[j]? = some oj -> oj.dst = some d -> d ∈ tmpsOf ops o -> preB (masks ops.toList []) j i = true) (hE : i ∈ seen \/ ((∀ e ∈ E, i ≠ e.i) /\ ∀ k, preB (masks ops.toList []) k i = true -> k ∈ seen)) :
  ∀ t ∈ tmpsOf ops o, isD ops (L ++ E.map (·.i)) t = false := by
 intro t ht
 cases hd : isD ops (L ++ E.map (·.i)) t with
 | false => rfl
 | true =>
  exfalso
  obtain ⟨j, hj, oj, hoj, hdj⟩ := isD_true hd
  rcases List.mem_append.1 hj with hj | hj
  case inr =>
   obtain ⟨e, he, rfl⟩ := List.mem_map.1 hj
   refine h.eOwn he hoj hdj ho ?_ (List.mem_append.2 (.inr ht))
   rcases hE with hE | ⟨hE, hE2⟩
   ·exact .inl hE
   ·exact .inr ⟨hE e he, hE2⟩
  by_cases hji : j = i
  ·subst hji
   rw [ho] at hoj; injection hoj with hoj; subst hoj
   exact hself hj t hdj ht
  ·exact h.notLate (h.preDone ho he (hpre j hj hji oj t hoj hdj ht)) hj
theorem agree_mask {o : Oper} {F : Fr} (h : ∀ t ∈ tmpsOf ops o, isD ops L t = false) : Agree F (maskF ops L F) o.op := by
 intro t ht
 unfold maskF
 rw [filter_get (isD ops L), h t (mem_tmps ht)]; rfl
theorem guardV_mask {o : Oper} {F : Fr} {j : Nat} {want : Bool} (hg : o.guard = some (j, want)) (h : ∀ t ∈ tmpsOf ops o, isD ops L t = false) : guardV ops (maskF ops L F) j = guardV ops F j := by
 unfold guardV
 cases hd : (ops[j]?).bind (·.dst) with
 | none => rfl
 | some d =>
  simp only
  unfold maskF
  rw [filter_get (isD ops L), h d (mem_guard hg hd)]; rfl
theorem getD_set (i j : Nat) (d : Bool) (hi : i < listed.size) : (listed.setIfInBounds i true).getD j d = if j = i then true else listed.getD j d := by
 by_cases h : j = i
 ·subst h; simp [Array.getD, hi]
 ·rw [if_neg h, getD_set_ne d (Ne.symm h)]
theorem put_tmps {a : Act} {dst : Option Tmp} {v : Value} {t : Tmp} (h : dst ≠ some t) : (a.put dst v).tmps.getD t Go.undef = a.tmps.getD t Go.undef := by
 cases dst with
 | none => rfl
 | some d =>
  have : d ≠ t := fun e => h (by rw [e])
  simp [Act.put, Array.getD_eq_getD_getElem?, Array.getElem?_setIfInBounds, this]
theorem put_tmps_self {a : Act} {d : Tmp} {v : Value} (h : d < a.tmps.size) : (a.put (some d) v).tmps.getD d Go.undef = v := by
 simp [Act.put, Array.getD, h]
theorem put_size {a : Act} {dst : Option Tmp} {v : Value} : (a.put dst v).tmps.size = a.tmps.size := by cases dst <;> simp [Act.put]
theorem put_defs {a : Act} {dst : Option Tmp} {v : Value} : (a.put dst v).defers = a.defers := by cases dst <;> simp [Act.put]
theorem mem_split_last {p : Nat -> Prop} [DecidablePred p] : ∀ (l : List Nat), (∃ x ∈ l, p x) -> ∃ l1 x l2, l = l1 ++ x :: l2 /\ p x /\ ∀ y ∈ l2, ¬ p y
 | [], ⟨x, hx, _⟩ => by simp at hx
 | y :: l, h => by
  by_cases hl : ∃ x ∈ l, p x
  ·obtain ⟨l1, x, l2, h1, h2, h3⟩ := mem_split_last l hl
   exact ⟨y :: l1, x, l2, by rw [h1]; rfl, h2, h3⟩
  ·obtain ⟨x, hx, hp⟩ := h
   rcases List.mem_cons.1 hx with rfl | hx
   ·exact ⟨[], x, l, rfl, hp, fun y hy hpy => hl ⟨y, hy, hpy⟩⟩
   ·exact absurd ⟨x, hx, hp⟩ hl
theorem Inv.done (h : Inv P N ops Q listed L seen rest pend σ Hr G E base w0 Z φ a w) (hst : Stops ops seen rest) (hr : Region.ready .any ops listed = []) : L = [] /\ rest = [] := by
 have key : ∀ i o, ops[i]? = some o -> listed.getD i true = false -> (∀ e ∈ o.after.toList, Region.binds .any e = true -> listed.getD e.on false = true) -> False := by
  intro i o ho hu he
  have : i ∈ Region.ready .any ops listed := mem_ready.2 ⟨hu, o, ho, fun e hm hb => he e (by simpa using hm) hb⟩
  rw [hr] at this; cases this
 have inSeen : ∀ i, i < ops.size -> i ∈ seen -> i ∉ L -> listed.getD i false = true := fun i hi h1 h2 => by
  rw [getD_iff (by rw [h.lsz]; exact hi)]; exact (h.hl i hi).2 (.inl ⟨h1, h2⟩)
 have ltOf : ∀ i ∈ seen, i < ops.size \/ ¬ i < ops.size := fun i _ => Decidable.em _
 have hL : L = [] := by
  cases hLL : L with
  | nil => rfl
  | cons x0 L0 =>
   exfalso
   obtain ⟨l1, x, l2, h1, h2, h3⟩ := mem_split_last (p := fun i => i ∈ L) seen ⟨x0, h.hL x0 (by rw [hLL]; simp), by rw [hLL]; simp⟩
   obtain ⟨o, ho, _⟩ := h.late x h2
   have hlt : x < ops.size := (Array.getElem?_eq_some_iff.1 ho).1
   refine key x o ho ?_ fun e he hb => ?_
   ·cases hx : listed.getD x true with
    | false => rfl
    | true => exact absurd h2 (h.notL hlt hx)
   ·have h4 := h.edges l1 x l2 h1 o ho e he hb
    have h5 : e.on ∉ L := h3 _ h4
    have h6 : e.on ∈ seen := by rw [h1]; simp [h4]
    by_cases hes : e.on < ops.size
    ·exact inSeen _ hes h6 h5
    ·exfalso
     obtain ⟨s1, s2, hs12⟩ := List.append_of_mem h6
     exact hes (h.bound _ h6)
 refine ⟨hL, ?_⟩
 rcases hst with h1 | ⟨i, rest', o, h1, ho, hf, hfa⟩
 ·exact h1
 ·exfalso
  subst h1
  obtain ⟨hs1, hns, _⟩ := regOk_head h.ok
  obtain ⟨o', ho', hed, _, _⟩ := regStep_spec hs1
  rw [ho] at ho'; injection ho' with ho'; subst ho'
  have hlt : i < ops.size := (Array.getElem?_eq_some_iff.1 ho).1
  refine key i o ho ?_ fun e he hb => inSeen _ (h.bound _ (hed e he hb)) (hed e he hb) (by rw [hL]; simp)
  cases hx : listed.getD i true with
  | false => rfl
  | true =>
   exfalso
   rcases (h.hl i hlt).1 hx with h1 | ⟨e, he, rfl⟩
   ·exact hns h1.1
   ·rw [h.eFree he ho] at hfa; cases hfa
end
end Go.Lom

/- Regions that draw their order: one order serves all: the theorem itself. -/
namespace Go.Lom
open Go.RowKit
section
variable {P : Program} {N n0 : Nat} {ops : Array Oper} {Q : AX -> St -> Prop}
variable {listed : Array Bool} {L seen rest pend : List Nat} {σ : St} {Hr : Heap} {G : List Kept} {E : List Early} {base : Nat -> Prop} {w0 : Start} {Z : ZMap} {φ : PMap} {a : Act} {w : World}
theorem names_dst {o : Oper} {d : Tmp} (h : d ∉ namesOf ops o) : o.dst ≠ some d := (names_tmps h).2
theorem EOp.put {e : Early} (h : EOp P N ops rest a e) {dst : Option Tmp} {v : Value} (hd : ∀ o, ops[e.i]? = some o -> ∀ d, o.dst = some d -> dst ≠ some d) {ds : List Deferred} : EOp P N ops rest ({ a with defers := ds }.put dst v) e := by
 obtain ⟨h1, h2, o, t, h3, h4, h5, h6⟩ := h
 refine ⟨h1, h2, o, t, h3, h4, h5, fun d hod => ?_⟩
 rw [put_tmps (hd o h3 d hod)]
 exact h6 d hod
theorem EOp.tail {i : Nat} {e : Early} (h : EOp P N ops (i :: rest) a e) (hne : e.i ≠ i) : EOp P N ops rest a e := ⟨(List.mem_cons.1 h.mem).resolve_left hne, h.free, h.op⟩
def early (base : Nat -> Prop) (w0 : Start) (E : List Early) (B : Nat) : Prop := (B < w0.world.heap.size /\ base B) \/ ∃ e ∈ E, e.B = B
theorem early_keep (h : HRel base w0 Z φ Hr n0 w) (hE : ∀ e ∈ E, EBlk base w0 Z φ Hr w e) : HRel (early base w0 E) ⟨w, Z⟩ Z φ Hr n0 w := by
 refine ⟨KeptW.refl _ _, h.z, fun _ _ _ => rfl, h.gl, h.fnx, h.hnx, h.flt, h.own', h.inj, fun b x l hb hl hu => ?_⟩
 exfalso
 rcases hu with ⟨h1, h2⟩ | ⟨e, he, h1⟩
 ·have := h.ob b x l hb hl h2; omega
 ·exact (hE e he).own b x l hb hl h1.symm
theorem early_back {Z' : ZMap} {φ' : PMap} {H' : Heap} {n' : Nat} {w' : World} (h : HRel base w0 Z φ Hr n0 w) (hE : ∀ e ∈ E, EBlk base w0 Z φ Hr w e) (hZ : ZLe Z Z') (hφ : PLe φ φ') (h' : HRel (early base w0 E) ⟨w, Z⟩ Z' φ' H' n' w') :
  HRel base w0 Z' φ' H' n' w' /\ ∀ e ∈ E, EBlk base w0 Z' φ' H' w' e := by
 have hk := h'.below
 refine ⟨⟨⟨hk.os.trans h.below.os, hk.tape.trans h.below.tape, hk.output.trans h.below.output, Nat.le_trans h.below.size hk.size, fun B hB hu => ?_⟩, h'.z, fun B hB hu => ?_, h'.gl, h'.fnx, h'.hnx, h'.flt, h'.own', h'.inj, fun b x l hb hl hu => ?_⟩, fun e he => ?_⟩
 ·rw [hk.block B (Nat.lt_of_lt_of_le hB h.below.size) (.inl ⟨hB, hu⟩)]; exact h.below.block B hB hu
 ·rw [h'.z0 B (Nat.lt_of_lt_of_le hB h.below.size) (.inl ⟨hB, hu⟩)]; exact h.z0 B hB hu
 ·rcases Nat.lt_or_ge l.B w0.world.heap.size with hlt | hge
  ·have h1 := h'.ob b x l hb hl (.inl ⟨hlt, hu⟩)
   have h2 := h.below.size
   simp only at h1
   omega
  ·exact hge
 ·have he' := hE e he
  refine ⟨?_, Nat.lt_of_lt_of_le he'.lt hk.size, he'.ob, fun b x l hb hl hB => ?_, ?_⟩
  ·rw [h'.z0 e.B he'.lt (.inr ⟨e, he, rfl⟩)]; exact he'.z
  ·have h1 := h'.ob b x l hb hl (.inr ⟨e, he, hB.symm⟩)
   have := he'.lt
   simp only at h1
   omega
  ·exact he'.rel.mono hZ hφ (hk.block e.B he'.lt (.inr ⟨e, he, rfl⟩))
theorem Inv.early_step (h : Inv P N ops Q listed L seen rest pend σ Hr G E base w0 Z φ a w) {i : Nat} {o : Oper} (ho : ops[i]? = some o) (hu : listed.getD i true = false) (hi : i ∈ rest) (hf : earlyB ops (masks ops.toList []) i = true)
  (he : ∀ e ∈ o.after, Region.binds .any e = true -> listed.getD e.on false = true) (hdst : ∀ d, o.dst = some d -> d < N) {t : TypeId} (hop : o.op = .alloc t) {cs : Nat × List (List AV)} (hcs : zeroRows P t = some cs) {ob : Obj} {v : Value} (hv : v = .pointer (some ⟨w.heap.size, 0, none⟩))
  (hrel : blkRel Z φ (w.alloc ob) ⟨w.heap.size, 0, cs.1, cs.2.length⟩ (.row cs.1 cs.2)) :
  Inv P N ops Q (listed.setIfInBounds i true) L seen rest pend σ Hr G (⟨i, w.heap.size, cs⟩ :: E) base w0 Z φ (a.put o.dst v) (w.alloc ob) := by
 have hlt : i < ops.size := (Array.getElem?_eq_some_iff.1 ho).1
 have hil : i < listed.size := by rw [h.lsz]; exact hlt
 have hnE : ∀ e ∈ E, e.i ≠ i := fun e he hei => by
  have := (h.hl i hlt).2 (.inr ⟨e, he, hei⟩)
  rw [hu] at this; cases this
 have hns : i ∉ seen := regOk_disj h.ok _ hi
 have hK : KeptW (fun _ => True) w (w.alloc ob) := (KeptW.refl _ w).alloc ob
 have hH : HRel base w0 Z φ Hr σ.nx (w.alloc ob) := by
  have hb : ∀ B, B < w.heap.size -> (w.alloc ob).heap[B]? = w.heap[B]? := fun B hB => hK.block B hB trivial
  refine ⟨h.heap.below.alloc ob, fun B o hB => ?_, h.heap.z0, h.heap.gl, h.heap.fnx, h.heap.hnx, fun b l hl => Nat.lt_of_lt_of_le (h.heap.flt b l hl) hK.size, fun b x hx => ?_, h.heap.inj, h.heap.ob⟩
  ·have := h.heap.z B o hB
   have hlt : B < w.heap.size := by
    rcases Nat.lt_or_ge B w.heap.size with hlt | hge
    ·exact hlt
    ·rw [Array.getElem?_eq_none hge] at this; cases this
   rw [hb B hlt]; exact this
  ·rcases h.heap.own' b x hx with hg | ⟨l, hl, hz, hr⟩
   ·exact .inl hg
   ·exact .inr ⟨l, hl, hz, hr.mono (ZLe.refl _) (PLe.refl _) (hb l.B (h.heap.flt _ _ hl))⟩
 have hslot : ∀ e ∈ E, ∀ oe, ops[e.i]? = some oe -> ∀ d, oe.dst = some d -> o.dst ≠ some d := by
  intro e heE oe hoe d hd hod
  obtain ⟨o', _, ho', _, _, hx⟩ := earlyB_spec hf
  rw [ho] at ho'; injection ho' with ho'; subst ho'
  have hpre := hx d hod e.i oe (hnE e heE) hoe (by unfold namesOf; rw [hd]; simp)
  have h1 := (h.hl e.i (Array.getElem?_eq_some_iff.1 hoe).1).2 (.inr ⟨e, heE, rfl⟩)
  have h2 := h.closed e.i i h1 (Array.getElem?_eq_some_iff.1 hoe).1 hpre
  rw [getD_iff hil, hu] at h2; cases h2
 refine ⟨fun j hj => ?_, by simpa using h.lsz, h.hL, h.bound, fun j k hj hjn hk => ?_, h.ok, h.edges, h.late, h.apart, fun t' ht htE => ?_, by rw [put_size]; exact h.size, by rw [put_defs]; exact h.df, hH, h.gL, h.gb, h.gd, h.gH, fun e heE => ?_, fun e heE => ?_, fun e heE f hfE => ?_, h.v⟩
 ·rw [getD_set i j true hil]
  by_cases hji : j = i
  ·subst hji; simp
  ·rw [if_neg hji, h.hl j hj]
   refine or_congr Iff.rfl ?_
   constructor
   ·rintro ⟨e, he, h1⟩; exact ⟨e, List.mem_cons_of_mem _ he, h1⟩
   ·rintro ⟨e, he, h1⟩
    rcases List.mem_cons.1 he with rfl | he
    ·exact absurd h1.symm hji
    ·exact ⟨e, he, h1⟩
 ·rw [getD_set i j true hil] at hj
  rw [getD_set i k false hil]
  by_cases hki : k = i
  ·rw [if_pos hki]
  ·rw [if_neg hki]
   by_cases hji : j = i
   ·subst hji; exact h.preDone ho he hk
   ·rw [if_neg hji] at hj; exact h.closed j k hj hjn hk
 ·rw [put_tmps (htE _ (List.mem_cons_self ..) o ho)]
  exact h.frm t' ht fun e he => htE e (List.mem_cons_of_mem _ he)
 ·rcases List.mem_cons.1 heE with rfl | heE
  ·exact ⟨hi, hf, o, t, ho, hop, hcs, fun d hd => by rw [hd, put_tmps_self (by rw [h.size]; exact hdst d hd)]; exact hv⟩
  ·exact (h.eop e heE).put (ds := a.defers) (hslot e heE)
 ·rcases List.mem_cons.1 heE with rfl | heE
  ·refine ⟨h.heap.notZ (Nat.le_refl _), ?_, fun _ => h.heap.below.size, fun b x l hb hl => ?_, hrel⟩
   ·show w.heap.size < (w.heap.push ob).size
    simp
   ·have := h.heap.flt b l hl
    simp only [ne_eq]; omega
  ·have hb := h.eblk e heE
   exact ⟨hb.z, Nat.lt_of_lt_of_le hb.lt hK.size, hb.ob, hb.own, hb.rel.mono (ZLe.refl _) (PLe.refl _) (hK.block e.B hb.lt trivial)⟩
 ·rcases List.mem_cons.1 heE with rfl | heE <;> rcases List.mem_cons.1 hfE with rfl | hfE
  ·exact ⟨fun _ => rfl, fun _ => rfl⟩
  ·exact ⟨fun e' => absurd e'.symm (hnE f hfE), fun e' => by have := (h.eblk f hfE).lt; simp only at e'; omega⟩
  ·exact ⟨fun e' => absurd e' (hnE e heE), fun e' => by have := (h.eblk e heE).lt; simp only at e'; omega⟩
  ·exact h.ed e heE f hfE
theorem Inv.late_step (h : Inv P N ops Q listed L seen rest pend σ Hr G E base w0 Z φ a w) {i : Nat} {o : Oper} (ho : ops[i]? = some o) (hi : i ∈ L)
  (he : ∀ e ∈ o.after, Region.binds .any e = true -> listed.getD e.on false = true) {Z' : ZMap} {φ' : PMap} {Hr' : Heap} {G' : List Kept} {w' : World} (hZ : ZLe Z Z') (hφ : PLe φ φ') (hS : Sub Hr Hr') (hH : HRel base w0 Z' φ' Hr' σ.nx w')
  (hG : ∀ v, v ∈ G' ↔ v ∈ G /\ v.i ≠ i) (hb : ∀ v ∈ G', φ' v.b = none /\ Hr'.get v.b = none) (hE : ∀ e ∈ E, EBlk base w0 Z' φ' Hr' w' e) (hHe : ∀ c y, σ.H.get c = some y -> Hr'.get c = some y \/ ∃ v ∈ G', v.b = c /\ y = .row v.cs.1 v.cs.2)
  {v : Value} (hv : ∀ d, o.dst = some d -> Rep Z' φ' (σ.fr.get d) v) :
  Inv P N ops Q (listed.setIfInBounds i true) (L.filter (· ≠ i)) seen rest pend σ Hr' G' E base w0 Z' φ' (a.put o.dst v) w' := by
 have hlt : i < ops.size := (Array.getElem?_eq_some_iff.1 ho).1
 have hil : i < listed.size := by rw [h.lsz]; exact hlt
 have hdst : dstOk N o = true := by
  obtain ⟨o', ho', hd, _⟩ := h.late i hi
  rw [ho] at ho'; injection ho' with ho'; subst ho'; exact hd
 have memF : ∀ j, j ∈ L.filter (· ≠ i) ↔ j ∈ L /\ j ≠ i := fun j => by simp
 refine ⟨fun j hj => ?_, by simpa using h.lsz, fun j hj => h.hL j ((memF j).1 hj).1, h.bound, fun j k hj hjn hk => ?_, h.ok, h.edges, fun j hj => ?_,
  fun j hj => h.apart j ((memF j).1 hj).1, fun t ht htE => ?_, by rw [put_size]; exact h.size, by rw [put_defs]; exact h.df.mono hZ hφ, hH, fun v hv => ?_, fun v hv => ⟨(h.gb v ((hG v).1 hv).1).1, hb v hv⟩,
  fun u hu v hv => h.gd u ((hG u).1 hu).1 v ((hG v).1 hv).1, hHe, fun e he => (h.eop e he).put (fun oe hoe d hd hod => ?_), hE, h.ed, h.v⟩
 ·rw [getD_set i j true hil, memF]
  by_cases hji : j = i
  ·subst hji; simp [h.hL j hi]
  ·rw [if_neg hji, h.hl j hj]; simp [hji]
 ·rw [getD_set i j true hil] at hj
  rw [getD_set i k false hil]
  by_cases hki : k = i
  ·rw [if_pos hki]
  ·rw [if_neg hki]
   by_cases hji : j = i
   ·subst hji; exact h.preDone ho he hk
   ·rw [if_neg hji] at hj; exact h.closed j k hj hjn hk
 ·obtain ⟨hjL, hji⟩ := (memF j).1 hj
  obtain ⟨oj, k1, k2, k3, k4⟩ := h.late j hjL
  refine ⟨oj, k1, k2, k3, ?_⟩
  rcases k4 with ⟨k4, k5⟩ | ⟨t, b, cs, k4, k5, k6, k7, k8⟩
  ·refine .inl ⟨k4, ?_⟩
   have hx : LateX P pend j oj σ.fr Hr -> LateX P pend j oj σ.fr Hr' := fun ⟨⟨r, h1, h2⟩, h3⟩ => ⟨⟨r, lateV_sub hS h1, h2⟩, h3⟩
   unfold LateG at *
   split
   ·rename_i hg; rw [hg] at k5; exact hx k5
   ·rename_i x want hg; rw [hg] at k5; obtain ⟨b, h1, h2, h3⟩ := k5; exact ⟨b, h1, fun e => hx (h2 e), h3⟩
  ·exact .inr ⟨t, b, cs, k4, k5, k6, (hG _).2 ⟨k7, hji⟩, k8⟩
 ·cases hod : o.dst with
  | none =>
   exact (h.frm t (fun j hj oj hoj => by
    by_cases hji : j = i
    ·subst hji; rw [ho] at hoj; injection hoj with hoj; subst hoj; rw [hod]; simp
    ·exact ht j ((memF j).2 ⟨hj, hji⟩) oj hoj) htE).mono hZ hφ
  | some d =>
   by_cases htd : t = d
   ·subst htd
    rw [put_tmps_self (dstOk_lt hdst h.size t hod)]
    exact hv t hod
   ·rw [put_tmps (by intro e; injection e with e; exact htd e.symm)]
    exact (h.frm t (fun j hj oj hoj => by
     by_cases hji : j = i
     ·subst hji; rw [ho] at hoj; injection hoj with hoj; subst hoj; rw [hod]; intro e; injection e with e; exact htd e.symm
     ·exact ht j ((memF j).2 ⟨hj, hji⟩) oj hoj) htE).mono hZ hφ
 ·obtain ⟨h1, h2⟩ := (hG v).1 hv
  exact ⟨(memF _).2 ⟨(h.gL v h1).1, h2⟩, (h.gL v h1).2⟩
 ·exact (names_dst (h.eOwn he hoe hd ho (.inl (h.hL i hi)))) hod
theorem Inv.hard_step {i : Nat} {o : Oper} (h : Inv P N ops Q listed L seen (i :: rest) pend σ Hr [] E base w0 Z φ a w) (ho : ops[i]? = some o) (hf : freeB ops (masks ops.toList []) seen o = false) (hfa : freeA ops seen o = false)
  (he : ∀ e ∈ o.after, Region.binds .any e = true -> listed.getD e.on false = true) (hdst : dstOk N o = true) {Z' : ZMap} {φ' : PMap} (hZ : ZLe Z Z') (hφ : PLe φ φ') {r : AV} {v : Value} (hr : Rep Z' φ' r v)
  {H' Hr' : Heap} {nx' : Nat} {df' : List ADef} {ds' : List Deferred} {w' : World} (hD : DfRel P w0.world.heap.size Z' φ' df' ds') (hH : HRel base w0 Z' φ' Hr' nx' w') (hSub : Sub H' Hr')
  (hnE : ∀ e ∈ E, e.i ≠ i) (hE : ∀ e ∈ E, EBlk base w0 Z' φ' Hr' w' e)
  (hst : ∀ p ∈ pend, preB (masks ops.toList []) p i = false -> stable P ops (σ.fr.put o.dst r) Hr' p \/ Hr' = Hr)
  (hv : VReg P N ops (masks ops.toList []) Q rest (i :: seen) pend ⟨σ.fr.put o.dst r, H', nx', df'⟩) :
  Inv P N ops Q (listed.setIfInBounds i true) L (i :: seen) rest pend ⟨σ.fr.put o.dst r, H', nx', df'⟩ Hr' [] E base w0 Z' φ' ({ a with defers := ds' }.put o.dst v) w' := by
 have hlt : i < ops.size := (Array.getElem?_eq_some_iff.1 ho).1
 have hil : i < listed.size := by rw [h.lsz]; exact hlt
 obtain ⟨hs1, hns, hok⟩ := regOk_head h.ok
 obtain ⟨o', ho', hed, hrd, hcase⟩ := regStep_spec hs1
 rw [ho] at ho'; injection ho' with ho'; subst ho'
 have hiL : i ∉ L := fun hm => hns (h.hL i hm)
 have notPre : ∀ j ∈ L, preB (masks ops.toList []) j i = false := fun j hj => by
  cases hp : preB (masks ops.toList []) j i with
  | false => rfl
  | true => exact absurd hj (h.notLate (h.preDone ho he hp))
 have hconf : ∀ j ∈ L, ∀ oj, ops[j]? = some oj -> ∀ d, o.dst = some d -> d ∉ tmpsOf ops oj /\ oj.dst ≠ some d := by
  intro j hj oj hoj d hd
  rw [hf] at hcase
  simp only [Bool.false_eq_true, if_false, hfa, false_or] at hcase
  obtain ⟨_, _, hc⟩ := hcase
  rcases hc j (h.hL j hj) with hc | hc
  ·rw [notPre j hj] at hc; cases hc
  ·exact names_tmps (hc d hd oj hoj)
 refine ⟨fun j hj => ?_, by simpa using h.lsz, fun j hj => List.mem_cons_of_mem _ (h.hL j hj), fun j hj => ?_, fun j k hj hjn hk => ?_, hok, ?_, ?_, ?_, fun t ht htE => ?_, by rw [put_size]; exact h.size, by rw [put_defs]; exact hD, hH, fun v hv => (by cases hv), fun v hv => (by cases hv), fun v hv => (by cases hv), fun c y hc => .inl (hSub c y hc),
  fun e he => ((h.eop e he).tail (hnE e he)).put (fun oe hoe d hd hod => ?_), hE, h.ed, hv⟩
 ·rw [getD_set i j true hil]
  by_cases hji : j = i
  ·subst hji; simp [hiL]
  ·rw [if_neg hji, h.hl j hj]; simp [hji]
 ·rcases List.mem_cons.1 hj with rfl | hj
  ·exact hlt
  ·exact h.bound j hj
 ·rw [getD_set i j true hil] at hj
  rw [getD_set i k false hil]
  by_cases hki : k = i
  ·rw [if_pos hki]
  ·rw [if_neg hki]
   by_cases hji : j = i
   ·subst hji; exact h.preDone ho he hk
   ·rw [if_neg hji] at hj; exact h.closed j k hj hjn hk
 ·intro l1 x l2 hsp ox hox e hm hb
  cases l1 with
  | nil =>
   simp only [List.nil_append, List.cons.injEq] at hsp
   obtain ⟨rfl, rfl⟩ := hsp
   rw [ho] at hox; injection hox with hox; subst hox
   exact hed e hm hb
  | cons y l1 =>
   simp only [List.cons_append, List.cons.injEq] at hsp
   exact h.edges l1 x l2 hsp.2 ox hox e hm hb
 ·intro j hj
  obtain ⟨oj, hoj, g2, g3, g4⟩ := h.late j hj
  have hd := hconf j hj oj hoj
  rcases g4 with ⟨g1, g4⟩ | ⟨_, _, _, _, _, _, g5, _⟩
  case inr => cases g5
  refine ⟨oj, hoj, g2, g3, .inl ⟨g1, late_put hd (fun hx => ?_) g4⟩⟩
  obtain ⟨⟨q, hq1, hq2⟩, hp⟩ := hx
  cases hrd' : readsQ oj.op with
  | true =>
   rcases hst j (hp hrd') (notPre j hj) with hs | hs
   ·unfold stable at hs
    rw [hoj] at hs
    rw [lateV_reads hrd']
    exact hs
   ·refine ⟨q, ?_, fun d hdd => ?_⟩
    ·rw [hs, <- lateV_congr (agree_put (ops := ops) fun d e => (hd d e).1)]; exact hq1
    ·rw [put_get fun e => (hd d e).2 hdd]; exact hq2 d hdd
  | false =>
   refine ⟨q, ?_, fun d hdd => ?_⟩
   ·rw [lateV_noread (H' := Hr) hrd', <- lateV_congr (agree_put (ops := ops) fun d e => (hd d e).1)]; exact hq1
   ·rw [put_get fun e => (hd d e).2 hdd]; exact hq2 d hdd
 ·intro j hj k hk hkj oj ok d hoj hok' hd
  rcases List.mem_cons.1 hk with rfl | hk2
  ·rw [ho] at hok'; injection hok' with hok'; subst hok'
   refine ⟨fun hm => hrd j (h.hL j hj) oj d hoj hd hm, fun e => (hconf j hj oj hoj d e).2 hd⟩
  ·exact h.apart j hj k hk2 hkj oj ok d hoj hok' hd
 ·cases hod : o.dst with
  | none => simp only [Fr.put, Act.put]; exact (h.frm t ht htE).mono hZ hφ
  | some d =>
   by_cases htd : t = d
   ·subst htd
    rw [put_get_self, put_tmps_self (dstOk_lt (a := { a with defers := ds' }) hdst h.size t hod)]
    exact hr
   ·have hne : (some d : Option Tmp) ≠ some t := by intro e; injection e with e; exact htd e.symm
    rw [put_get hne, put_tmps hne]
    exact (h.frm t ht htE).mono hZ hφ
 ·exact (names_dst (h.eOwn he hoe hd ho (.inr ⟨(hnE e he).symm, h.headPre ho hed⟩))) hod
theorem count_set {listed : Array Bool} {n i : Nat} (hi : i < n) (hu : listed.getD i true = false) (hsz : listed.size = n) :
  ((List.range n).filter fun j => !(listed.setIfInBounds i true).getD j true).length < ((List.range n).filter fun j => !listed.getD j true).length := by
 have hil : i < listed.size := by omega
 have e1 : (fun j => !(listed.setIfInBounds i true).getD j true) = fun j => (!listed.getD j true) && (decide (j ≠ i)) := by
  funext j
  rw [getD_set i j true hil]
  by_cases h : j = i
  ·subst h; simp
  ·rw [if_neg h]; simp [h]
 rw [e1, <- List.filter_filter]
 have hmem : i ∈ (List.range n).filter fun j => !listed.getD j true := List.mem_filter.2 ⟨List.mem_range.2 hi, by rw [hu]; rfl⟩
 have e2 : ((List.range n).filter fun a => decide (a ≠ i)).filter (fun a => !listed.getD a true) = ((List.range n).filter fun a => !listed.getD a true).filter fun a => decide (a ≠ i) := by
  rw [List.filter_filter, List.filter_filter]; congr 1; funext x; rw [Bool.and_comm]
 rw [e2]
 exact List.length_filter_lt_length_iff_exists.2 ⟨i, hmem, by simp⟩
def wpOpW (ro : Option Nat) (P : Program) (ops : Array Oper) (Q : Exit -> Act -> World -> Prop) (i : Nat) (K : Act -> World -> Prop) (a : Act) (w : World) : Prop :=
 match ops[i]? with
 | none => K a w
 | some o => if Region.wanted o (yielded ops a.tmps) then opW ro P o a w K Q else K (a.put o.dst Go.undef) w
theorem opsW_cons {ro : Option Nat} {R : Exit -> Act -> World -> Prop} (i : Nat) (rest : List Nat) (a : Act) (w : World) : opsW ro P ops R (i :: rest) a w = wpOpW ro P ops R i (opsW ro P ops R rest) a w := by
 cases h : ops[i]? <;> simp [opsW, wpOpW, h]
theorem wpOpW_mono {ro : Option Nat} {R R' : Exit -> Act -> World -> Prop} {K K' : Act -> World -> Prop} {i : Nat} (hK : ∀ a w, K a w -> K' a w) (hQ : ∀ e a w, R e a w -> R' e a w) {a : Act} {w : World} (h : wpOpW ro P ops R i K a w) : wpOpW ro P ops R' i K' a w := by
 unfold wpOpW at *
 split
 ·rename_i ho; rw [ho] at h; exact hK _ _ h
 ·rename_i o ho
  rw [ho] at h
  simp only at h
  split
  ·rename_i hw
   rw [if_pos hw] at h
   exact opW_mono hK hQ h
  ·rename_i hw
   rw [if_neg hw] at h
   exact hK _ _ h
def anyW (ro : Option Nat) (P : Program) (ops : Array Oper) (Q : Exit -> Act -> World -> Prop) : Nat -> Array Bool -> Act -> World -> Prop
 | 0, listed, a, w => Region.ready .any ops listed = [] /\ Q .normal a w
 | fuel + 1, listed, a, w =>
  (Region.ready .any ops listed = [] -> Q .normal a w) /\
  ∀ i ∈ Region.ready .any ops listed, wpOpW ro P ops Q i (anyW ro P ops Q fuel (listed.setIfInBounds i true)) a w
theorem anyW_mono {ro : Option Nat} {R R' : Exit -> Act -> World -> Prop} (hQ : ∀ e a w, R e a w -> R' e a w) : ∀ (fuel : Nat) {listed : Array Bool} {a : Act} {w : World}, anyW ro P ops R fuel listed a w -> anyW ro P ops R' fuel listed a w
 | 0, listed, a, w, h => ⟨h.1, hQ _ _ _ h.2⟩
 | fuel + 1, listed, a, w, h => ⟨fun hr => hQ _ _ _ (h.1 hr), fun i hi => wpOpW_mono (fun _ _ h => anyW_mono hQ fuel h) hQ (h.2 i hi)⟩
theorem anyW_sound {ro : Option Nat} {R : Exit -> Act -> World -> Prop} : ∀ (fuel t : Nat) (listed : Array Bool) (a : Act) (w : World), anyW ro P ops R fuel listed a w -> opsW ro P ops R (Region.linearise.go .any ops fuel t listed []) a w := by
 intro fuel
 induction fuel with
 | zero => intro t listed a w h; simpa [Region.linearise.go, opsW] using h.2
 | succ fuel ih =>
  intro t listed a w h
  obtain ⟨h₀, h₁⟩ := h
  simp only [Region.linearise.go]
  change opsW ro P ops R (match (Region.ready .any ops listed)[t % (Region.ready .any ops listed).length]? with
   | some i => Region.linearise.go .any ops fuel (t / (Region.ready .any ops listed).length) (listed.setIfInBounds i true) [i]
   | none => [].reverse) a w
  cases hi : (Region.ready .any ops listed)[t % (Region.ready .any ops listed).length]? with
  | none =>
   have hnil : Region.ready .any ops listed = [] := by
    cases hr : Region.ready .any ops listed with
    | nil => rfl
    | cons x xs =>
     rw [hr] at hi
     have hlt : t % (x :: xs).length < (x :: xs).length := Nat.mod_lt _ (by simp)
     simp at hi
     simp at hlt
     omega
   simpa [opsW] using h₀ hnil
  | some i =>
   simp only []
   rw [linearise_go_acc, List.reverse_singleton, List.singleton_append, opsW_cons]
   exact wpOpW_mono (fun a w => ih _ _ a w) (fun _ _ _ h => h) (h₁ i (List.mem_of_getElem? hi))
theorem wpW_region_any {ro : Option Nat} {R : Exit -> Act -> World -> Prop} {id : Nat} {a : Act} {w : World} (hm : P.follows .mixedOrders = true)
  (h : anyW ro P ops R ops.size (Array.replicate ops.size false) a { w with drawn := w.drawn + 1 }) : (Code.region id ops true).wpIn (Wf ro) 0 P R a w :=
 wpIn_region_draw fun t => by
  simp only [Region.schedule, hm, Bool.true_or, if_true]
  exact opsW_in _ _ _ (anyW_sound ops.size t _ a _ h)
theorem any_of_inv {ro : Option Nat} (hA : earlyOk P N ops = true) (hro : OpsRo ro ops) : ∀ (fuel : Nat) {listed : Array Bool} {L seen rest pend : List Nat} {σ : St} {Hr : Heap} {G : List Kept} {E : List Early} {base : Nat -> Prop} {w0 : Start} {Z : ZMap} {φ : PMap} {a : Act} {w : World},
  Inv P N ops Q listed L seen rest pend σ Hr G E base w0 Z φ a w -> Stops ops seen rest -> ((List.range ops.size).filter fun j => !listed.getD j true).length <= fuel ->
  anyW ro P ops (Lift P base w0 N n0 Z φ Q) fuel listed a w
 | fuel, listed, L, seen, rest, pend, σ, Hr, G, E, base, w0, Z, φ, a, w, h, hst, hfuel => by
  have fin : Region.ready .any ops listed = [] -> Lift P base w0 N n0 Z φ Q .normal a w := by
   intro hr
   obtain ⟨h1, h2⟩ := h.done hst hr
   subst h1 h2
   have hG0 : G = [] := h.noG fun j hj p hp ha hjL => by cases hjL
   subst hG0
   have hv := h.v
   unfold VReg at hv
   exact ⟨Z, φ, .normal, σ, ZLe.refl _, PLe0.refl _ _, trivial, ⟨fun t => h.frm t (fun i hi => by simp at hi) fun e he => by have := (h.eop e he).mem; simp at this, h.size, h.df, h.heap.sub h.subH⟩, hv⟩
  cases fuel with
  | zero =>
   have hr : Region.ready .any ops listed = [] := by
    cases hx : Region.ready .any ops listed with
    | nil => rfl
    | cons i l =>
     exfalso
     have hm : i ∈ Region.ready .any ops listed := by rw [hx]; simp
     obtain ⟨hu, o, ho, _⟩ := mem_ready.1 hm
     have hlt : i < ops.size := (Array.getElem?_eq_some_iff.1 ho).1
     have : i ∈ (List.range ops.size).filter fun j => !listed.getD j true := List.mem_filter.2 ⟨List.mem_range.2 hlt, by rw [hu]; rfl⟩
     have := List.length_pos_of_mem this
     omega
   exact ⟨hr, fin hr⟩
  | succ fuel =>
   refine ⟨fin, fun i hi => ?_⟩
   obtain ⟨hu, o, ho, he⟩ := mem_ready.1 hi
   have hlt : i < ops.size := (Array.getElem?_eq_some_iff.1 ho).1
   have hcount := count_set (listed := listed) hlt hu h.lsz
   unfold wpOpW
   rw [ho]
   simp only
   by_cases hiL : i ∈ L
   ·-- it was late
    obtain ⟨o', ho', hdst, hself, hGa⟩ := h.late i hiL
    rw [ho] at ho'; injection ho' with ho'; subst ho'
    have hclr := h.clear_ ho he (fun _ => hself) (fun j hj hji oj d hoj hd hm => (h.apart j hj i (h.hL i hiL) (Ne.symm hji) oj o d hoj ho hd).1 hm) (.inl (h.hL i hiL))
    rcases hGa with ⟨hq, hG⟩ | ⟨t, b, cs, hop, hg, hcs, hmem, hfd⟩
    ·have noi : ∀ v ∈ G, v.i ≠ i := fun v hv e => by
      obtain ⟨_, o', ho', ha⟩ := h.gL v hv
      rw [e, ho] at ho'; injection ho' with ho'; subst ho'
      rw [isA_hard ha] at hq; cases hq
     have next : ∀ Z' w' v, ZLe Z Z' -> HRel base w0 Z' φ Hr σ.nx w' -> (∀ e ∈ E, EBlk base w0 Z' φ Hr w' e) -> (∀ d, o.dst = some d -> Rep Z' φ (σ.fr.get d) v) -> anyW ro P ops (Lift P base w0 N n0 Z φ Q) fuel (listed.setIfInBounds i true) (a.put o.dst v) w' := fun Z' w' v hZ hH hE hv =>
      anyW_mono (fun e a w hl => hl.mono hZ (PLe0.refl _ _) fun _ _ h => h) fuel
       (any_of_inv hA hro fuel (h.late_step ho hiL he hZ (PLe.refl _) (Sub.refl _) hH (fun v => ⟨fun hv => ⟨hv, noi v hv⟩, fun hv => hv.1⟩) (fun v hv => (h.gb v hv).2) hE h.gH hv) hst (by omega))
     have exec : LateX P pend i o σ.fr Hr -> opW ro P o a w (anyW ro P ops (Lift P base w0 N n0 Z φ Q) fuel (listed.setIfInBounds i true)) (Lift P base w0 N n0 Z φ Q) := by
      rintro ⟨⟨q, hq1, hq2⟩, _⟩
      rw [lateV_congr (agree_mask hclr)] at hq1
      obtain ⟨v, Z', w', hv, hZ, hH, hrep⟩ := sound_late (early_keep h.heap h.eblk) h.maskRel hq1
      obtain ⟨hH1, hE1⟩ := early_back h.heap h.eblk hZ (PLe.refl _) hH
      unfold opW
      rw [semAt_ro (hro.at ho), hv]
      exact next Z' w' v hZ hH1 hE1 fun d hd => by rw [hq2 d hd]; exact hrep
     cases hg : o.guard with
     | none =>
      have hw : Region.wanted o (yielded ops a.tmps) = true := by simp [Region.wanted, hg]
      rw [if_pos hw]
      unfold LateG at hG; rw [hg] at hG
      exact exec hG
     | some p =>
      obtain ⟨j, want⟩ := p
      unfold LateG at hG; rw [hg] at hG
      obtain ⟨b, hb, h1, h2⟩ := hG
      have hy := guard_yielded h.maskRel h.size (by rw [guardV_mask hg hclr]; exact hb)
      by_cases hbw : b = some want
      ·have hw : Region.wanted o (yielded ops a.tmps) = true := by simp [Region.wanted, hg, hy, hbw]
       rw [if_pos hw]
       exact exec (h1 hbw)
      ·have hw : ¬ Region.wanted o (yielded ops a.tmps) = true := by simp [Region.wanted, hg, hy, hbw]
       rw [if_neg hw]
       exact next Z w _ (ZLe.refl _) h.heap h.eblk fun d hd => by rw [h2 hbw d hd]; exact rep_skip _ _
    ·-- a variable
     have hw : Region.wanted o (yielded ops a.tmps) = true := by simp [Region.wanted, hg]
     rw [if_pos hw]
     obtain ⟨hb1, hb2, hb3⟩ := h.gb _ hmem
     obtain ⟨v, φ', w', hrun, hφ, hfr', hrep, hHe⟩ := sound_allocAt (early_keep h.heap h.eblk) hb2 hb1 hcs
     obtain ⟨hH', hE'⟩ := early_back h.heap h.eblk (ZLe.refl _) hφ hHe
     have hex : (execOp a.eval o).run P w = .ok (.value v) w' := by
      obtain ⟨dst, op, ty, pos, after, guard⟩ := o
      simp only at hop; subst hop
      exact run_bind' hrun rfl
     unfold opW
     rw [semAt_ro (hro.at ho), hex]
     have hne : ∀ x y, Hr.get x = some y -> x ≠ b := fun x y hx e => by
      simp only at hb3
      rw [e, hb3] at hx; cases hx
     have hS : Sub Hr (Hr.set b (.row cs.1 cs.2)) := fun x y hx => by rw [Heap.get_set, if_neg (hne x y hx)]; exact hx
     have hmF : ∀ v, v ∈ G.filter (fun v => v.i ≠ i) ↔ v ∈ G /\ v.i ≠ i := fun v => by simp
     refine anyW_mono (fun e a w hl => hl.mono (ZLe.refl _) hφ.to0 fun _ _ h => h) fuel
      (any_of_inv hA hro fuel (h.late_step ho hiL he (ZLe.refl _) hφ hS hH' hmF (fun u hu => ?_) hE' (fun c y hc => ?_) fun d hd => by rw [hfd d hd]; exact hrep) hst (by omega))
     ·obtain ⟨hu1, hu2⟩ := (hmF u).1 hu
      have hub : u.b ≠ b := fun e => hu2 (by have := (h.gd u hu1 _ hmem).2 e; rw [this])
      rw [hfr' _ hub, Heap.get_set, if_neg hub]
      exact (h.gb u hu1).2
     ·rcases h.gH c y hc with h1 | ⟨u, hu, rfl, rfl⟩
      ·exact .inl (hS _ _ h1)
      ·by_cases hui : u.i = i
       ·have := (h.gd u hu _ hmem).1 hui
        subst this
        exact .inl (Heap.get_set_self _ _ _)
       ·exact .inr ⟨u, (hmF u).2 ⟨hu, hui⟩, rfl, rfl⟩
   ·-- it is the next one of the walk
    have hnseen : i ∉ seen := fun hm => by
     have := (h.hl i hlt).2 (.inl ⟨hm, hiL⟩)
     rw [hu] at this; cases this
    have hnE : ∀ e ∈ E, e.i ≠ i := fun e he' hei => by
     have := (h.hl i hlt).2 (.inr ⟨e, he', hei⟩)
     rw [hu] at this; cases this
    rcases hst with hnil | ⟨i', rest', o', hrest, ho', hf, hfa⟩
    ·subst hnil
     rcases regOk_all h.ok i hlt with h1 | h1
     ·cases h1
     ·exact absurd h1 hnseen
    subst hrest
    obtain ⟨hs1, hns, hok⟩ := regOk_head h.ok
    obtain ⟨o2, ho2, hed, hrd, hcase⟩ := regStep_spec hs1
    rw [ho'] at ho2; injection ho2 with ho2; subst ho2
    rw [hf] at hcase
    simp only [Bool.false_eq_true, if_false, hfa, false_or] at hcase
    obtain ⟨hc, hcA, _⟩ := hcase
    have hii : i = i' \/ (i ∈ i' :: rest' /\ earlyB ops (masks ops.toList []) i = true) := by
     rcases regOk_all h.ok i hlt with h1 | h1
     ·rcases List.mem_cons.1 h1 with h2 | h2
      ·exact .inl h2
      ·rcases hc i h2 with hc | hc
       ·exfalso
        have h3 := h.preDone ho he hc
        have hlt' : i' < ops.size := (Array.getElem?_eq_some_iff.1 ho').1
        rw [getD_iff (by rw [h.lsz]; exact hlt')] at h3
        rcases (h.hl i' hlt').1 h3 with h4 | ⟨e, he', rfl⟩
        ·exact hns h4.1
        ·rw [h.eFree he' ho'] at hfa; cases hfa
       ·exact .inr ⟨h1, hc⟩
     ·exact absurd h1 hnseen
    rcases hii with hii | ⟨hir, hearly⟩
    case inr =>
     obtain ⟨o3, t, ho3, hop, hg, _⟩ := earlyB_spec hearly
     rw [ho] at ho3; injection ho3 with ho3; subst ho3
     have hw : Region.wanted o (yielded ops a.tmps) = true := by simp [Region.wanted, hg]
     rw [if_pos hw]
     obtain ⟨hdst, cs, hcs⟩ := earlyOk_spec hA ho hop
     obtain ⟨ob, hrun, hrel⟩ := run_zeroRow (Z := Z) (φ := φ) (w := w) hcs
     have hex : (execOp a.eval o).run P w = .ok (.value (.pointer (some ⟨w.heap.size, 0, none⟩))) (w.alloc ob) := by
      obtain ⟨dst, op, ty, pos, after, guard⟩ := o
      simp only at hop; subst hop
      exact run_bind' hrun rfl
     unfold opW
     rw [semAt_ro (hro.at ho), hex]
     exact any_of_inv hA hro fuel (h.early_step ho hu hir hearly he (fun d hd => by have := dstOk_lt hdst h.size d hd; rw [h.size] at this; exact this) hop hcs rfl hrel) (.inr ⟨i', rest', o', rfl, ho', hf, hfa⟩) (by omega)
    subst hii
    rw [ho] at ho'; injection ho' with ho'; subst ho'
    have hG0 : G = [] := h.noG fun j hj p hp ha => h.notLate (h.preDone ho he (hcA j hj p hp ha))
    subst hG0
    have hH0 := h.heap.sub h.subH
    have hclr := h.clear_ ho he (fun hm => absurd hm hiL) (fun j hj hji oj d hoj hd hm => hrd j (h.hL j hj) oj d hoj hd hm) (.inr ⟨fun e he' => (hnE e he').symm, h.headPre ho hed⟩)
    have hEb : ∀ e ∈ E, EBlk base w0 Z φ σ.H w e := fun e he' => let hb := h.eblk e he'; ⟨hb.z, hb.lt, hb.ob, fun b x l hx hl => hb.own b x l (h.subH _ _ hx) hl, hb.rel⟩
    have hv := h.v
    unfold VReg at hv
    rw [ho] at hv
    simp only [hf, Bool.false_eq_true, if_false] at hv
    obtain ⟨hdst, hv⟩ := hv
    have exec : SOpR P o σ.fr σ.H σ.nx σ.df (fun r H nx df => (∀ p ∈ pend, preB (masks ops.toList []) p i = false -> stable P ops (σ.fr.put o.dst r) H p) /\ VReg P N ops (masks ops.toList []) Q rest' (i :: seen) pend ⟨σ.fr.put o.dst r, H, nx, df⟩)
      (fun v H nx => Q (.panic v) ⟨forget ops σ.fr, H, nx, σ.df⟩) -> opW ro P o a w (anyW ro P ops (Lift P base w0 N n0 Z φ Q) fuel (listed.setIfInBounds i true)) (Lift P base w0 N n0 Z φ Q) := by
     intro hop
     refine wp_opR (hro.at ho) (SOpR_congr (agree_mask hclr) hop) h.maskRel h.df (early_keep hH0 hEb) (fun Z' φ' r v H' nx' df' ds' w' hZ hφ hr hD hH hk => ?_) fun Z' φ' v u H' nx' w' hZ hφ hr hH hq => ?_
     ·obtain ⟨hH1, hE1⟩ := early_back hH0 hEb hZ hφ hH
      obtain ⟨L2, seen2, rest2, pend2, σ2, Hr2, G2, E2, φ2, hφ2, hI, hS⟩ := (h.hard_step ho hf hfa he hdst hZ hφ hr hD hH1 (Sub.refl _) hnE hE1 (fun p hp hpp => .inl (hk.1 p hp hpp)) hk.2).norm
      have := any_of_inv hA hro fuel hI hS (by omega)
      exact anyW_mono (fun e a w hl => hl.mono hZ (hφ.trans hφ2).to0 fun _ _ h => h) fuel this
     ·obtain ⟨hH, _⟩ := early_back hH0 hEb hZ hφ hH
      refine ⟨Z', φ', .panic v, ⟨forget ops σ.fr, H', nx', σ.df⟩, hZ, hφ.to0, ⟨u, rfl, hr⟩, ⟨fun t => ?_, h.size, h.df.mono hZ hφ, hH⟩, hq⟩
      unfold forget
      rw [filter_get (fun t => ops.toList.any fun o => o.dst == some t)]
      split
      ·exact .undef _
      ·rename_i hno
       refine (h.frm t (fun j hj oj hoj hd => hno ?_) fun e he' oj hoj hd => hno ?_).mono hZ hφ <;>
       exact List.any_eq_true.2 ⟨oj, by simpa using Array.mem_of_getElem? hoj, by simp [hd]⟩
    cases hg : o.guard with
    | none =>
     rw [hg] at hv
     have hw : Region.wanted o (yielded ops a.tmps) = true := by simp [Region.wanted, hg]
     rw [if_pos hw]
     exact exec hv
    | some p =>
     obtain ⟨j, want⟩ := p
     rw [hg] at hv
     obtain ⟨b, hb, h1, h2⟩ := hv
     have hy := guard_yielded h.maskRel h.size (by rw [guardV_mask hg hclr]; exact hb)
     by_cases hbw : b = some want
     ·have hw : Region.wanted o (yielded ops a.tmps) = true := by simp [Region.wanted, hg, hy, hbw]
      rw [if_pos hw]
      exact exec (h1 hbw)
     ·have hw : ¬ Region.wanted o (yielded ops a.tmps) = true := by simp [Region.wanted, hg, hy, hbw]
      rw [if_neg hw]
      obtain ⟨L2, seen2, rest2, pend2, σ2, Hr2, G2, E2, φ2, hφ2, hI, hS⟩ := (h.hard_step ho hf hfa he hdst (ZLe.refl _) (PLe.refl _) (rep_skip _ _) h.df h.heap h.subH hnE h.eblk (fun p hp hpp => .inr rfl) (h2 hbw)).norm
      exact anyW_mono (fun e a w hl => hl.mono (ZLe.refl _) hφ2.to0 fun _ _ h => h) fuel (any_of_inv hA hro fuel hI hS (by omega))
theorem swp_draw {σ : St} {id : Nat} (hm : P.follows .mixedOrders = true) (ord : List Nat) (hok : regOk ops (masks ops.toList []) ord [] = true) (hA : earlyOk P N ops = true) (h : VReg P N ops (masks ops.toList []) Q ord [] [] σ) : SWp P N n0 (.region id ops true) Q σ := by
 intro ro base w0 Z φ a w hro hs
 refine wpW_region_any hm ?_
 have hI : Inv P N ops Q (Array.replicate ops.size false) [] [] ord [] σ σ.H [] [] base w0 Z φ a { w with drawn := w.drawn + 1 } :=
  ⟨fun i hi => by simp [Array.getD, hi], by simp, fun i hi => by simp at hi, fun i hi => by simp at hi, fun j i hj hjn => by simp [Array.getD, hjn] at hj, hok, fun l1 i l2 h => by simp at h, fun i hi => by simp at hi, fun i hi => by simp at hi,
   fun t _ _ => hs.fr t, hs.size, hs.df, hs.heap.drew, fun v hv => (by cases hv), fun v hv => (by cases hv), fun v hv => (by cases hv), fun c y hc => .inl hc, fun v hv => (by cases hv), fun v hv => (by cases hv), fun v hv => (by cases hv), h⟩
 obtain ⟨L, seen, rest, pend, σ', Hr', G, E, φ', hφ', hI', hS⟩ := hI.norm
 refine anyW_mono (fun e a w hl => hl.mono (ZLe.refl _) hφ'.to0 fun _ _ h => h) ops.size (any_of_inv hA hro.region ops.size hI' hS ?_)
 have := List.length_filter_le (fun j => !(Array.replicate ops.size false).getD j true) (List.range ops.size)
 simpa using this
end
end Go.Lom

/- Functions: a call, out of what is asked of the body; deferred calls. -/
namespace Go.Lom
open Go.RowKit
def ares1 (P : Program) (F : Fr) (H : Heap) : ResultVar -> Option AV
 | .tmp t => some (F.get t)
 | .cell a t => ald P t (F.get a) H
def tupOf : List AV -> AV
 | [v] => v
 | vs => .tup vs
def ares (P : Program) (fn : Func) (F : Fr) (H : Heap) : Option AV := (fn.results.toList.mapM (ares1 P F H)).map tupOf
section
variable {P : Program} {base : Nat -> Prop} {w0 : Start} {Z : ZMap} {φ : PMap} {H : Heap} {nx : Nat} {w : World}
theorem putObj_other {w : World} {r k : Nat} (o : Obj) (h : k ≠ r) : (w.putObj r o).heap[k]? = w.heap[k]? := World.putObj_heap_other h
theorem putObj_size (w : World) (r : Nat) (o : Obj) : (w.putObj r o).heap.size = w.heap.size := by simp [World.putObj]
theorem HRel.drop (h : HRel base w0 Z φ H nx w) {b : Nat} {x : Blk} {l : Loc} (hb : H.get b = some x) (hf : φ b = some l) (o : Obj) (hlt : l.B < w.heap.size) : HRel base w0 Z φ (H.del b) nx (w.putObj l.B o) := by
 obtain ⟨hz, hr⟩ := h.ownAt hb hf
 have hsz := putObj_size w l.B o
 refine ⟨h.kept hb hf rfl rfl rfl (by omega) fun k hk _ => putObj_other o hk, fun C oC hC => ?_, h.z0, h.gl, h.fnx, fun c y hy => ?_, fun c l' hc => by have := h.flt c l' hc; omega, fun c y hy => ?_, fun c c' y y' l1 l2 hne hy hy' h1 h2 => ?_, fun c y l1 hy hc => ?_⟩
 ·rw [putObj_other o (fun e => by subst e; rw [hz] at hC; cases hC)]
  exact h.z C oC hC
 all_goals
  rw [Heap.get_del] at hy
  split at hy
  ·cases hy
  rename_i hcb
 ·exact h.hnx c y hy
 ·rcases h.own' c y hy with h1 | ⟨l', h1, h2, h3⟩
  ·exact .inl h1
  ·refine .inr ⟨l', h1, h2, h3.mono (ZLe.refl _) (PLe.refl _) (putObj_other o ?_)⟩
   exact h.inj c b y x l' l hcb hy hb h1 hf
 ·rw [Heap.get_del] at hy'
  split at hy'
  ·cases hy'
  exact h.inj c c' y y' l1 l2 hne hy hy' h1 h2
 ·exact h.ob c y l1 hy hc
theorem run_mapM_rep {α : Type} (g : α -> Sem Value) (k : α -> Option AV) (hg : ∀ x y, k x = some y -> ∃ u, (g x).run P w = .ok u w /\ Rep Z φ y u) : ∀ (l : List α) (ys : List AV), l.mapM k = some ys ->
  ∃ us, (l.mapM g).run P w = .ok us w /\ Reps Z φ ys us.toArray
 | [], ys, h => by simp at h; subst h; exact ⟨[], rfl, rfl, fun i v u a => by simp at a⟩
 | x :: l, ys, h => by
  rw [List.mapM_cons] at h
  simp only [Option.bind_eq_bind, Option.bind_eq_some_iff, Option.pure_def, Option.some.injEq] at h
  obtain ⟨y, hy, ys', h1, rfl⟩ := h
  obtain ⟨u, hu, hr⟩ := hg x y hy
  obtain ⟨us, hus, h2⟩ := run_mapM_rep g k hg l ys' h1
  refine ⟨u :: us, ?_, ?_⟩
  ·rw [List.mapM_cons]; exact run_bind' hu (run_bind' hus rfl)
  ·refine ⟨by have := h2.1; simp at this; simp [this], fun i v q a b => ?_⟩
   cases i with
   | zero => simp at a b; subst a b; exact hr
   | succ i => exact h2.2 i v q (by simpa using a) (by simpa using b)
theorem run_results (hh : HRel base w0 Z φ H nx w) {F : Fr} {tmps : Array Value} (hF : FrRel Z φ F tmps) {fn : Func} {r : AV} (hr : ares P fn F H = some r) : ∃ v, (results fn tmps).run P w = .ok v w /\ Rep Z φ r v := by
 unfold ares at hr
 simp only [Option.map_eq_some_iff] at hr
 obtain ⟨ys, hys, rfl⟩ := hr
 obtain ⟨us, hus, hreps⟩ := run_mapM_rep (P := P) (w := w) (Z := Z) (φ := φ) (fun (x : ResultVar) => match x with
  | .tmp t => pure (tmps.getD t Go.undef)
  | .cell a t => do loadVar t (<- asAddr (tmps.getD a Go.undef))) (ares1 P F H) (fun x y hxy => by
   cases x with
   | tmp t => simp only [ares1, Option.some.injEq] at hxy; subst hxy; exact ⟨_, rfl, hF t⟩
   | cell a t =>
    simp only [ares1] at hxy
    have ha := hF a
    generalize hu : tmps.getD a Go.undef = u at ha
    obtain ⟨v, hv, hrv⟩ := sound_load hh ha hxy
    refine ⟨v, ?_, hrv⟩
    cases hg : F.get a <;> rw [hg] at ha hxy <;> try (simp [ald, ldArr] at hxy; done)
    all_goals (cases ha; show Sem.run P (do loadVar t (<- asAddr (tmps.getD a Go.undef))) w = _; rw [hu]; exact hv)) fn.results.toList ys hys
 have hsz := hreps.1
 unfold results
 have e0 : (fn.results.mapM (fun (x : ResultVar) => match x with
  | .tmp t => pure (tmps.getD t Go.undef)
  | .cell a t => do loadVar t (<- asAddr (tmps.getD a Go.undef)))).run P w = .ok us.toArray w := by
  rw [Array.mapM_eq_mapM_toList, map_eq_pure_bind]
  exact run_bind' hus rfl
 refine ⟨if h : us.toArray.size = 1 then us.toArray[0] else .tuple us.toArray, run_bind' e0 rfl, ?_⟩
 match ys, us, hreps with
 | [y], [u], hreps => exact hreps.2 0 y u rfl rfl
 | [], [], hreps => exact .tup rfl (fun i v q a => by simp at a)
 | y :: y2 :: ys, u :: u2 :: us, hreps =>
  have : ¬ (u :: u2 :: us).toArray.size = 1 := by simp
  rw [dif_neg this]
  exact .tup hreps.1 hreps.2
 | [], _ :: _, hreps => have := hreps.1; simp at this
 | _ :: _, [], hreps => have := hreps.1; simp at this
 | [y], _ :: _ :: _, hreps => have := hreps.1; simp at this
 | _ :: _ :: _, [u], hreps => have := hreps.1; simp at this
inductive AMode where
 | ret
 | panic (v : AV)
 | recd (v : AV)
def MRel (Z : ZMap) (φ : PMap) : AMode -> FrameMode -> Prop
 | .ret, .returning => True
 | .panic v, .panicking chain => ∃ u, chain = [{ v := u, recovered := false }] /\ Rep Z φ v u
 | .recd v, .panicking chain => ∃ u, chain = [{ v := u, recovered := true }] /\ Rep Z φ v u
 | _, _ => False
def SCallD (P : Program) (k : FuncId) (avs : List AV) (m : AMode) (H : Heap) (nx : Nat) (R : AE -> AMode -> Heap -> Nat -> Prop) : Prop :=
 ∀ base w0 Z φ w us u, HRel base w0 Z φ H nx w -> Reps Z φ avs us -> MRel Z φ m u ->
  CallsDIn (Wf none) 0 P k us u w fun e u' w' => ∃ Z' φ' x m' H' nx', ZLe Z Z' /\ PLe φ φ' /\ ERel Z' φ' x e /\ MRel Z' φ' m' u' /\ HRel base w0 Z' φ' H' nx' w' /\ R x m' H' nx'
def settleA : AMode -> AMode
 | .recd _ => .ret
 | m => m
def LeavesA (P : Program) (fn : Func) (F : Fr) (R : AE -> Heap -> Nat -> Prop) : List ADef -> AMode -> Heap -> Nat -> Prop
 | [], .ret, H, nx => ∃ v, ares P fn F H = some v /\ R (.ret v) H nx
 | [], .panic v, H, nx => R (.panic v) H nx
 | [], .recd _, _, _ => False
 | .call f args :: ds, m, H, nx => SCallD P f args m H nx fun x m' H' nx' =>
   match x, m' with
   | .ret _, m' => LeavesA P fn F R ds (settleA m') H' nx'
   | .panic v, .ret => LeavesA P fn F R ds (.panic v) H' nx'
   | .panic _, _ => False
 | .mark b :: ds, m, H, nx => H.get b = some .dfs /\ LeavesA P fn F R ds m (H.del b) nx
 | .many :: ds, m, H, nx => LeavesA P fn F R ds m H nx
theorem mrel_ne_run {m : AMode} {u : FrameMode} (h : MRel Z φ m u) : u ≠ .run := by
 rintro rfl; cases m <;> exact h
theorem MRel.settle {m : AMode} {u : FrameMode} (h : MRel Z φ m u) : MRel Z φ (settleA m) (Go.settle u) := by
 cases m with
 | ret => cases u <;> first | exact h.elim | exact trivial
 | panic v =>
  cases u <;> try exact h.elim
  obtain ⟨x, rfl, hr⟩ := h
  exact ⟨x, rfl, hr⟩
 | recd v =>
  cases u <;> try exact h.elim
  obtain ⟨x, rfl, hr⟩ := h
  exact trivial
theorem MRel.monoD {Z Z' : ZMap} (hZ : ZLeD Z Z') {m : AMode} {u : FrameMode} (h : MRel Z φ m u) : MRel Z' φ m u := by
 cases m <;> cases u <;> first | exact h.elim | exact trivial | (obtain ⟨q, h1, h2⟩ := h; exact ⟨q, h1, h2.monoD hZ (PLe.refl _)⟩)
theorem HRel.letgo (h : HRel base w0 Z φ H nx w) {B : Nat} {o : Obj} (hz : Z B = some o) (ho : isDef o = true) (hB : w0.world.heap.size <= B) (o' : Obj) : HRel base w0 (zdel Z B) φ H nx (w.putObj B o') := by
 have hD := zdel_leD hz ho
 have hsz := putObj_size w B o'
 refine ⟨⟨h.below.os, h.below.tape, h.below.output, by rw [hsz]; exact h.below.size, fun k hk hu => ?_⟩, fun C q hC => ?_, fun C hC hu => ?_, h.gl.monoD hD, h.fnx, h.hnx, fun b l hl => by rw [hsz]; exact h.flt b l hl, fun b x hx => ?_, h.inj, h.ob⟩
 ·rw [putObj_other o' (by omega)]; exact h.below.block k hk hu
 ·by_cases hCB : C = B
  ·subst hCB; rw [zdel_self] at hC; cases hC
  ·rw [zdel_ne hCB] at hC; rw [putObj_other o' hCB]; exact h.z C q hC
 ·rw [zdel_ne (by omega)]; exact h.z0 C hC hu
 ·rcases h.own' b x hx with h1 | ⟨l, h1, h2, h3⟩
  ·exact .inl h1
  ·have hne : l.B ≠ B := fun e => by rw [e, hz] at h2; cases h2
   exact .inr ⟨l, h1, by rw [zdel_ne hne]; exact h2, h3.monoD hD (PLe.refl _) (putObj_other o' hne)⟩
theorem leaves_of {fn : Func} {F : Fr} {tmps : Array Value} {R : AE -> Heap -> Nat -> Prop} {R' : Ending -> World -> Prop} {Zs : ZMap} (hzs : ∀ B, w0.world.heap.size <= B -> Zs B = none) :
  ∀ (ds : List ADef) (m : AMode) (H : Heap) (nx : Nat) (Z : ZMap) (φ : PMap) (w : World) (us : List Deferred) (u : FrameMode), ZLe Zs Z -> LeavesA P fn F R ds m H nx -> FrRel Z φ F tmps -> DfRel P w0.world.heap.size Z φ ds us -> MRel Z φ m u -> HRel base w0 Z φ H nx w ->
   (∀ e w', (∃ Z' φ' x H' nx', ZLe Zs Z' /\ PLe φ φ' /\ ERel Z' φ' x e /\ HRel base w0 Z' φ' H' nx' w' /\ R x H' nx') -> R' e w') -> LeavesInM (Wf none) 0 P fn tmps R' us u w
 | [], m, H, nx, Z, φ, w, us, u, hzz, h, hF, hD, hM, hH, hR => by
  have : us = [] := hD.eq_nil
  subst this
  cases m with
  | ret =>
   cases u <;> try exact hM.elim
   obtain ⟨v, hv, hr⟩ := h
   obtain ⟨q, hq, hrq⟩ := run_results hH hF hv
   exact ⟨q, hq, hR _ _ ⟨Z, φ, .ret v, H, nx, hzz, PLe.refl _, hrq, hH, hr⟩⟩
  | panic v =>
   cases u <;> try exact hM.elim
   exact hR _ _ ⟨Z, φ, .panic v, H, nx, hzz, PLe.refl _, hM, hH, h⟩
  | recd v => exact h.elim
 | .many :: ds, m, H, nx, Z, φ, w, us, u, hzz, h, hF, hD, hM, hH, hR => by
  unfold LeavesA at h
  induction us generalizing Z w with
  | nil =>
   obtain ⟨hm, hap⟩ := hD
   cases hm with
   | none hm => exact leaves_of hzs ds m H nx Z φ w [] u hzz h hF ⟨hm, hap⟩ hM hH hR
  | cons du us ih =>
   obtain ⟨hm, hap⟩ := hD
   cases hm with
   | none hm => exact leaves_of hzs ds m H nx Z φ w _ u hzz h hF ⟨hm, hap⟩ hM hH hR
   | more hz ht hB hm =>
    rename_i B
    obtain ⟨ha1, ha2⟩ := List.pairwise_cons.1 hap
    have hD := zdel_leD hz rfl
    refine ⟨mrel_ne_run hM, .inl ⟨B, _, ht, run_takeDeferred (hH.z _ _ hz), ih (zdel Z B) _ (fun C o hC => ?_) (hF.monoD hD (PLe.refl _)) ⟨hm.del hz rfl fun d hd => ha1 d hd B ht, ha2⟩ (hM.monoD hD) (hH.letgo hz rfl hB _)⟩⟩
    rw [zdel_ne]; exact hzz C o hC
    rintro rfl
    rw [hzs C hB] at hC; cases hC
 | .mark b :: ds, m, H, nx, Z, φ, w, us, u, hzz, h, hF, hD, hM, hH, hR => by
  obtain ⟨hm, hap⟩ := hD
  cases hm with
  | mark hl ht hB hm =>
   unfold LeavesA at h
   obtain ⟨hb, h⟩ := h
   obtain ⟨hz, hblk⟩ := hH.ownAt hb hl
   have hH' := hH.drop hb hl (.deferred none) (hH.flt _ _ hl)
   exact ⟨mrel_ne_run hM, .inl ⟨_, _, ht, run_takeDeferred hblk, leaves_of hzs ds m (H.del b) nx Z φ _ _ u hzz h hF ⟨hm, (List.pairwise_cons.1 hap).2⟩ hM hH' hR⟩⟩
 | .call f args :: ds, m, H, nx, Z, φ, w, us, u, hzz, h, hF, hD, hM, hH, hR => by
  obtain ⟨hm, hap⟩ := hD
  cases hm with
  | @call _ _ caps du _ us ht hreps hok hm =>
   obtain ⟨target, dargs⟩ := du
   simp only at ht hreps
   subst ht
   have hD' : DfRel P w0.world.heap.size Z φ ds us := ⟨hm, (List.pairwise_cons.1 hap).2⟩
   unfold LeavesA at h
   refine ⟨mrel_ne_run hM, .inr ⟨fun h => absurd (wf_depth none h) (by omega), _, _, _, _, rfl, run_callFunc hok (dargs ++ caps) w, fun _ _ => trivial, (h base w0 Z φ w _ u hH hreps hM).mono fun e u' w' ⟨Z', φ', x, m', H', nx', g1, g2, g3, g4, g5, g6⟩ => ?_⟩⟩
   have hR'' : ∀ e w'', (∃ Z'' φ'' x H'' nx'', ZLe Zs Z'' /\ PLe φ' φ'' /\ ERel Z'' φ'' x e /\ HRel base w0 Z'' φ'' H'' nx'' w'' /\ R x H'' nx'') -> R' e w'' := fun e w'' ⟨Z'', φ'', x, H'', nx'', a1, a2, a3⟩ => hR e w'' ⟨Z'', φ'', x, H'', nx'', a1, g2.trans a2, a3⟩
   cases x with
   | ret v =>
    cases e <;> try exact g3.elim
    exact leaves_of hzs ds (settleA m') H' nx' Z' φ' w' us _ (hzz.trans g1) g6 (hF.mono g1 g2) (hD'.mono g1 g2) g4.settle g5 hR''
   | panic v =>
    cases e <;> try exact g3.elim
    cases m' with
    | ret =>
     cases u' <;> try exact g4.elim
     obtain ⟨q, rfl, hq⟩ := g3
     exact leaves_of hzs ds (.panic v) H' nx' Z' φ' w' us _ (hzz.trans g1) g6 (hF.mono g1 g2) (hD'.mono g1 g2) ⟨q, rfl, hq⟩ g5 hR''
    | panic _ => exact g6.elim
    | recd _ => exact g6.elim
def fr0 (avs : List AV) : Fr := avs.zipIdx.map fun p => (p.2, p.1)
theorem frZeroGet : ∀ (avs : List AV) (k t : Nat), Fr.get ((avs.zipIdx k).map fun p => (p.2, p.1)) t = if k <= t then (avs[t - k]?).getD .undef else .undef
 | [], k, t => by simp [Fr.get]
 | v :: avs, k, t => by
  simp only [List.zipIdx_cons, List.map_cons, Fr.get]
  by_cases h : t = k
  ·subst h; simp
  ·rw [if_neg h, frZeroGet avs (k + 1) t]
   by_cases hk : k <= t
   ·rw [if_pos hk, if_pos (by omega)]
    have : t - k = (t - (k + 1)) + 1 := by omega
    rw [this]; simp
   ·rw [if_neg hk, if_neg (by omega)]
theorem frZeroRel {avs : List AV} {us : Array Value} (h : Reps Z φ avs us) (n : Nat) : FrRel Z φ (fr0 avs) (us ++ Array.replicate n Go.undef) := by
 intro t
 unfold fr0
 rw [frZeroGet avs 0 t]
 simp only [Nat.zero_le, if_true, Nat.sub_zero]
 by_cases ht : t < avs.length
 ·rw [List.getElem?_eq_getElem ht]
  have : t < us.size := by have := h.1; omega
  have e1 : (us ++ Array.replicate n Go.undef).getD t Go.undef = us[t] := by
   rw [Array.getD_eq_getD_getElem?, Array.getElem?_append_left this, Array.getElem?_eq_getElem this]; rfl
  rw [e1]
  exact h.2 t _ _ (List.getElem?_eq_getElem ht) (Array.getElem?_eq_getElem this)
 ·rw [List.getElem?_eq_none (by omega)]
  exact .undef _
def BodyQ (P : Program) (fn : Func) (R : AE -> Heap -> Nat -> Prop) : AX -> St -> Prop
 | .normal, σ | .ret, σ => LeavesA P fn σ.fr R σ.df .ret σ.H σ.nx
 | .panic v, σ => LeavesA P fn σ.fr R σ.df (.panic v) σ.H σ.nx
 | .exit _, _ => False
theorem scall_of {k : FuncId} {fn : Func} {c : Code} {avs : List AV} {R : AE -> Heap -> Nat -> Prop} (hf : P.funcs[k]? = some fn) (hb : fn.body = some c)
    (h : SWp P (avs.length + (fn.ntmps - avs.length)) nx c (BodyQ P fn R) ⟨fr0 avs, H, nx, []⟩) : SCall P k avs H nx R := by
  intro base w0 Z φ w us hH hr
  have hH0 := early_keep (E := []) hH fun e he => nomatch he
  have hzs : ∀ B, w.heap.size <= B -> Z B = none := fun B hB => by
    cases hz : Z B with
    | none => rfl
    | some o => have := hH.z _ _ hz; rw [Array.getElem?_eq_none hB] at this; cases this
  refine (callsIn_wide (n := 0)).1 (callsIn_of_wp_marks (F := Wf none) hf hb trivial (wpIn_mono (h none _ ⟨w, Z⟩ Z φ _ w InRo.none ⟨frZeroRel hr _, by simp [hr.1], DfRel.nil _ _ _ _, hH0⟩) fun e a w hl => ?_))
  obtain ⟨Z', φ', x, σ, h1, h20, h3, h4, h5⟩ := hl
  have h2 : PLe φ φ' := fun b x hb => h20 b x (hH.fnx b x hb) hb
  have fin : ∀ e w', (∃ Z'' φ'' x H' nx', ZLe Z Z'' /\ PLe φ' φ'' /\ ERel Z'' φ'' x e /\ HRel _ _ Z'' φ'' H' nx' w' /\ R x H' nx') -> ∃ Z'' φ'' x H' nx', ZLe Z Z'' /\ PLe φ φ'' /\ ERel Z'' φ'' x e /\ HRel base w0 Z'' φ'' H' nx' w' /\ R x H' nx' :=
    fun e w' ⟨Z'', φ'', x, H', nx', a1, a2, a3, a4, a5⟩ => ⟨Z'', φ'', x, H', nx', a1, h2.trans a2, a3, (early_back (E := []) hH (fun e he => nomatch he) a1 (h2.trans a2) a4).1, a5⟩
  cases x with
  | normal => cases e <;> try exact h3.elim
              exact leaves_of hzs σ.df .ret σ.H σ.nx Z' φ' w a.defers .returning h1 h5 h4.fr h4.df trivial h4.heap fin
  | ret => cases e <;> try exact h3.elim
           exact leaves_of hzs σ.df .ret σ.H σ.nx Z' φ' w a.defers .returning h1 h5 h4.fr h4.df trivial h4.heap fin
  | panic v => cases e <;> try exact h3.elim
               obtain ⟨q, rfl, hq⟩ := h3
               exact leaves_of hzs σ.df (.panic v) σ.H σ.nx Z' φ' w a.defers _ h1 h5 h4.fr h4.df ⟨q, rfl, hq⟩ h4.heap fin
  | exit i => exact h5.elim
end
end Go.Lom
