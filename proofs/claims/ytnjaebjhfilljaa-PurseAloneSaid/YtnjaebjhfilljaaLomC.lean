/- Operations on abstract values that leave memory alone: they are sound. -/
import Derived.Test.YtnjaebjhfilljaaLomB
import Derived.Laws.Cells
import Derived.ChangeKeysEq
namespace Go.Lom
open Go.RowKit

section
variable {P : Program} {base : Nat → Prop} {w0 : Start} {Z : ZMap} {φ : PMap} {H : Heap} {nx : Nat} {w : World}

theorem run_bind' {α β : Type} {s : Sem α} {f : α → Sem β} {w w' : World} {x : α} {r : Result β} (h : s.run P w = .ok x w') (h2 : (f x).run P w' = r) : (s >>= f).run P w = r := by
  rw [Sem.run_bind, h]; exact h2
theorem run_pure' {α : Type} (x : α) (w : World) : (pure x : Sem α).run P w = .ok x w := rfl

theorem run_szOf {t n : Nat} (h : szOf P t = some n) (w : World) : (sizeOf t).run P w = .ok n w := by
  unfold szOf at h
  cases hi : P.info? t with
  | none => simp [hi] at h
  | some i =>
    simp only [hi, Option.map_some, Option.some.injEq] at h; subst h
    simp [sizeOf, typeInfo, hi, go_sem]

theorem run_isAgg {t : TypeId} {d : TypeDesc} (h : P.underlying t = some d) (w : World) : (isAgg t).run P w = .ok (isAggD d) w := by
  unfold isAgg
  refine run_bind' (Go.run_underlying h w) ?_
  cases d <;> rfl

def CellsAt (Z : ZMap) (φ : PMap) (w : World) (B x : Nat) (e : List AV) : Prop :=
  ∀ (j : Nat) (v : AV), e[j]? = some v → ∃ u, w.cell? ⟨B, x + j, none⟩ = some u ∧ Rep Z φ v u

theorem run_load_cell {a : Addr} {u : Value} (h : w.cell? a = some u) : (load a).run P w = .ok u w := by
  simp [load, Sem.run, h]

theorem add_none (B x n : Nat) : (⟨B, x, none⟩ : Addr).add n = ⟨B, x + n, none⟩ := by
  unfold Addr.add; split <;> simp_all

/-- A variable of a type, read. -/
theorem run_loadVar {t : TypeId} {e : List AV} {o B x : Nat} {r : AV} (h : rd P t e o = some r) (hc : CellsAt Z φ w B x e) :
    ∃ v, (loadVar t ⟨B, x + o, none⟩).run P w = .ok v w ∧ Rep Z φ r v := by
  unfold rd at h
  cases hu : P.underlying t with
  | none => simp [hu] at h
  | some d =>
    simp only [hu, Option.bind_eq_bind, Option.bind_some] at h
    unfold loadVar
    by_cases ha : isAggD d = true
    · rw [if_pos ha] at h
      simp only [Option.bind_eq_some_iff] at h
      obtain ⟨n, hn, h⟩ := h
      by_cases hl : o + n ≤ e.length
      · rw [if_pos hl] at h; injection h with h; subst h
        have hex : ∀ j, j < n → ∃ u, w.cell? ⟨B, x + o + j, none⟩ = some u ∧ ∀ v, e[o + j]? = some v → Rep Z φ v u := fun j hj => by
          have he : e[o + j]? = some (e[o + j]'(by omega)) := List.getElem?_eq_getElem (by omega)
          obtain ⟨u, hu, hr⟩ := hc (o + j) _ he
          exact ⟨u, by rw [Nat.add_assoc]; exact hu, fun v hv => by rw [he] at hv; injection hv with hv; subst hv; exact hr⟩
        have hF : ∃ f : Nat → Value, ∀ j, j < n → w.cell? ⟨B, x + o + j, none⟩ = some (f j) ∧ ∀ v, e[o + j]? = some v → Rep Z φ v (f j) :=
          ⟨fun j => if hj : j < n then Classical.choose (hex j hj) else Go.undef, fun j hj => by simp only [hj, dif_pos]; exact Classical.choose_spec (hex j hj)⟩
        obtain ⟨f, hf⟩ := hF
        refine ⟨.agg ((List.range n).map f).toArray, ?_, .agg (by simp; omega) fun i v u hi hu' => ?_⟩
        · refine run_bind' (run_isAgg hu w) ?_
          rw [if_pos ha]
          refine run_bind' (run_szOf hn w) (run_bind' (run_loadCells w _ n f fun j hj => by rw [add_none]; exact (hf j hj).1) rfl)
        · have hin : i < n := by
            have := List.getElem?_eq_some_iff.1 hi
            obtain ⟨hlt, _⟩ := this
            simp at hlt; omega
          simp [hin] at hu'
          subst hu'
          refine (hf i hin).2 v ?_
          rw [List.getElem?_take, if_pos hin, List.getElem?_drop] at hi
          exact hi
      · rw [if_neg hl] at h; cases h
    · rw [if_neg ha] at h
      obtain ⟨u, hcell, hr⟩ := hc o r h
      refine ⟨u, ?_, hr⟩
      refine run_bind' (run_isAgg hu w) ?_
      rw [if_neg ha]
      exact run_load_cell hcell

theorem run_part {t : TypeId} {e : List AV} {o : Nat} {r : AV} {us : Array Value} (h : rd P t e o = some r) (hc : Reps Z φ e us) :
    ∃ v, (part t us o).run P w = .ok v w ∧ Rep Z φ r v := by
  unfold rd at h
  cases hu : P.underlying t with
  | none => simp [hu] at h
  | some d =>
    simp only [hu, Option.bind_eq_bind, Option.bind_some] at h
    unfold part
    by_cases ha : isAggD d = true
    · rw [if_pos ha] at h
      simp only [Option.bind_eq_some_iff] at h
      obtain ⟨n, hn, h⟩ := h
      by_cases hl : o + n ≤ e.length
      · rw [if_pos hl] at h; injection h with h; subst h
        refine ⟨.agg (us.extract o (o + n)), ?_, .agg (by simp; have := hc.1; omega) fun i v u hi hu' => ?_⟩
        · refine run_bind' (run_isAgg hu w) ?_
          rw [if_pos ha]
          exact run_bind' (run_szOf hn w) rfl
        · have hin : i < n := by
            obtain ⟨hlt, _⟩ := List.getElem?_eq_some_iff.1 hi
            simp at hlt; omega
          refine hc.2 (o + i) v u ?_ ?_
          · rw [List.getElem?_take, if_pos hin, List.getElem?_drop] at hi
            exact hi
          · rw [Array.getElem?_extract] at hu'
            split at hu'
            · exact hu'
            · cases hu'
      · rw [if_neg hl] at h; cases h
    · rw [if_neg ha] at h
      have hlt : o < us.size := by have := (List.getElem?_eq_some_iff.1 h).1; have := hc.1; omega
      refine ⟨us[o], ?_, hc.2 o r _ h (Array.getElem?_eq_getElem hlt)⟩
      refine run_bind' (run_isAgg hu w) ?_
      rw [if_neg ha]
      simp [Array.getElem?_eq_getElem hlt, go_sem]

/-- The cells of an element of a row. -/
theorem asRow_rel {l : Loc} {blk : Blk} {s : Nat} {es : List (List AV)} (h : asRow blk = some (s, es)) (hr : blkRel Z φ w l blk) : rowRel Z φ w l s es := by
  cases blk <;> simp [asRow] at h
  · obtain ⟨rfl, rfl⟩ := h; exact hr
  · obtain ⟨rfl, rfl⟩ := h; exact hr
theorem HRel.rowOf (h : HRel base w0 Z φ H nx w) {b : Nat} {blk : Blk} {s : Nat} {es : List (List AV)} (hb : H.get b = some blk) (hrow : asRow blk = some (s, es)) {l : Loc}
    (hf : φ b = some l) : Z l.B = none ∧ rowRel Z φ w l s es :=
  let ⟨hz, hr⟩ := h.ownAt hb hf; ⟨hz, asRow_rel hrow hr⟩
theorem HRel.cellsAt' (h : HRel base w0 Z φ H nx w) {b i : Nat} {blk : Blk} {s : Nat} {es : List (List AV)} {e : List AV} (hb : H.get b = some blk) (hrow : asRow blk = some (s, es)) (hi : es[i]? = some e) {l : Loc}
    (hf : φ b = some l) : l.s = s ∧ e.length = s ∧ e.all oneC = true ∧ CellsAt Z φ w l.B (l.ob + i * s) e := by
  obtain ⟨hz, hs, hlim, c, T, fz, hw, hsz, _, he⟩ := h.rowOf hb hrow hf
  subst hs
  refine ⟨rfl, (he i e hi).1, (he i e hi).2.1, fun j v hj => ?_⟩
  obtain ⟨u, hu, hr⟩ := (he i e hi).2.2 j v hj
  exact ⟨u, by simp only [World.cell?, hw]; simpa using hu, hr⟩
theorem HRel.cellsAt (h : HRel base w0 Z φ H nx w) {b i : Nat} {s : Nat} {es : List (List AV)} {e : List AV} (hb : H.get b = some (.row s es)) (hi : es[i]? = some e) {l : Loc}
    (hf : φ b = some l) : l.s = s ∧ e.length = s ∧ e.all oneC = true ∧ CellsAt Z φ w l.B (l.ob + i * s) e := h.cellsAt' hb rfl hi hf

theorem HRel.zcellAt (h : HRel base w0 Z φ H nx w) {B x : Nat} {u : Value} (hz : zcell Z B x = some u) : w.cell? ⟨B, x, none⟩ = some u := by
  unfold zcell at hz
  cases hZ : Z B with
  | none => rw [hZ] at hz; cases hz
  | some o =>
    rw [hZ] at hz
    have := h.z B o hZ
    cases o <;> simp at hz
    simp [World.cell?, this, hz]

theorem sound_load (h : HRel base w0 Z φ H nx w) {t : TypeId} {x r : AV} {u : Value} (hx : Rep Z φ x u) (hr : ald P t x H = some r) :
    ∃ v, (Instr.loadAt t u).run P w = .ok v w ∧ Rep Z φ r v := by
  unfold ald at hr
  cases hx with
  | ptr hf =>
    simp only [Option.bind_eq_bind, Option.bind_eq_some_iff] at hr
    obtain ⟨blk, hb, ⟨s2, es⟩, hrow, e, he, hr⟩ := hr
    obtain ⟨rfl, _, _, hc⟩ := h.cellsAt' hb hrow he hf
    exact run_loadVar hr hc
  | rp us h1 h2 =>
    exact run_loadVar hr fun j v hj => ⟨us j, h.zcellAt (h1 j v hj), h2 j v hj⟩
  | _ => simp at hr

theorem run_underlying' {t : TypeId} {d : TypeDesc} (h : P.underlying t = some d) (w : World) : (underlying t).run P w = .ok d w := Go.run_underlying h w

theorem fieldsOf_some {t : TypeId} {fs : Array Field} (h : fieldsOf P t = some fs) : P.underlying t = some (.struct fs) := by
  unfold fieldsOf at h
  split at h
  · rename_i h2; injection h with h; subst h; exact h2
  · cases h

theorem sound_fieldAddr {t : TypeId} {x r : AV} {u : Value} {f : Nat} (hx : Rep Z φ x u) (hr : afieldAddr P t x f = some r) :
    ∃ v, (Instr.fieldAt t u f).run P w = .ok v w ∧ Rep Z φ r v := by
  unfold afieldAddr at hr
  simp only [Option.bind_eq_bind, Option.bind_eq_some_iff] at hr
  obtain ⟨fs, hfs, fl, hfl, n, hn, hr⟩ := hr
  have hu := fieldsOf_some hfs
  have key : ∀ B x : Nat, (Instr.fieldAt t (.pointer (some ⟨B, x, none⟩)) f).run P w = .ok (.pointer (some ⟨B, x + fl.offset, none⟩)) w := fun B x => by
    by_cases hn0 : n = 0
    · rw [if_pos hn0] at hr; cases hr
    unfold Instr.fieldAt
    refine run_bind' (run_underlying' hu w) ?_
    simp only [hfl]
    refine run_bind' (x := (⟨B, x, none⟩ : Addr)) (w' := w) rfl ?_
    refine run_bind' (x := (⟨B, x + fl.offset, none⟩ : Addr)) (w' := w) ?_ rfl
    unfold fieldPlace
    refine run_bind' (run_szOf hn w) ?_
    rw [if_neg hn0, add_none]; rfl
  by_cases hn0 : n = 0
  · rw [if_pos hn0] at hr; cases hr
  rw [if_neg hn0] at hr
  cases hx with
  | ptr hf =>
    injection hr with hr; subst hr
    exact ⟨_, key _ _, by rw [Nat.add_assoc]; exact .ptr hf⟩
  | rp us h1 h2 =>
    injection hr with hr; subst hr
    exact ⟨_, key _ _, by rw [Nat.add_assoc]; exact .rp us h1 h2⟩
  | _ => cases hr

theorem Rep.reps {cs : List AV} {us : Array Value} (h : Rep Z φ (.agg cs) (.agg us)) : Reps Z φ cs us := by
  cases h with | agg hl h => exact ⟨hl, h⟩

theorem sound_field {t : TypeId} {x r : AV} {u : Value} {f : Nat} (hx : Rep Z φ x u) (hr : afield P t x f = some r) :
    ∃ v, (Instr.field t u f).run P w = .ok v w ∧ Rep Z φ r v := by
  unfold afield at hr
  simp only [Option.bind_eq_bind, Option.bind_eq_some_iff] at hr
  obtain ⟨fs, hfs, fl, hfl, hr⟩ := hr
  have hu := fieldsOf_some hfs
  cases hx with
  | agg hl h =>
    obtain ⟨v, hv, hrep⟩ := run_part (w := w) hr ⟨hl, h⟩
    refine ⟨v, ?_, hrep⟩
    unfold Instr.field
    refine run_bind' (run_underlying' hu w) ?_
    simp only [hfl]
    exact run_bind' (x := _) (w' := w) rfl hv
  | _ => simp at hr

theorem asI_some {x : AV} {n : Int} {u : Value} (h : asI x = some n) (hx : Rep Z φ x u) : ∃ k, u = .int k n := by
  cases hx <;> simp [asI] at h
  subst h; exact ⟨_, rfl⟩

theorem run_indexAt_slice {t e : TypeId} {a : Addr} {len c s : Nat} {k : IntKind} {n : Int} (hu : P.underlying t = some (.slice e)) (hs : szOf P e = some s) (h0 : 0 ≤ n) (hlt : n < len) (w : World) :
    (Instr.indexAt t (.slice (some a) len c) (.int k n)).run P w = .ok (.pointer (some (a.add (n.toNat * s)))) w := by
  simp [Instr.indexAt, asIntOf, Sem.run_bind, run_underlying' hu, run_szOf hs, h0, hlt, go_sem]
theorem run_indexAt_array {t e : TypeId} {a : Addr} {len s : Nat} {k : IntKind} {n : Int} (hu : P.underlying t = some (.array len e)) (hs : szOf P e = some s) (h0 : 0 ≤ n) (hlt : n < len) (w : World) :
    (Instr.indexAt t (.pointer (some a)) (.int k n)).run P w = .ok (.pointer (some (a.add (n.toNat * s)))) w := by
  simp [Instr.indexAt, Instr.sureAddr, asIntOf, Sem.run_bind, run_underlying' hu, run_szOf hs, h0, hlt, go_sem]

theorem sound_indexAddr {t : TypeId} {x i r : AV} {u ui : Value} (hx : Rep Z φ x u) (hi : Rep Z φ i ui) (hr : aindexAddr P t x i = some r) :
    ∃ v, (Instr.indexAt t u ui).run P w = .ok v w ∧ Rep Z φ r v := by
  unfold aindexAddr at hr
  simp only [Option.bind_eq_bind, Option.bind_eq_some_iff] at hr
  obtain ⟨n, hn, hr⟩ := hr
  obtain ⟨k, rfl⟩ := asI_some hn hi
  by_cases hneg : n < 0
  · rw [if_pos hneg] at hr; cases hr
  rw [if_neg hneg] at hr
  cases hu : P.underlying t with
  | none => simp [hu] at hr
  | some d =>
    rw [hu] at hr
    cases d with
    | slice e =>
      have fin : ∀ (a : Addr) (len c s : Nat), n < len → szOf P e = some s → ∀ q : Addr, q = a.add (n.toNat * s) →
          (Instr.indexAt t (.slice (some a) len c) (.int k n)).run P w = .ok (.pointer (some q)) w := by
        intro a len c s hlt hs q hq
        subst hq
        exact run_indexAt_slice hu hs (by omega) hlt w
      have rsK : ∀ (xs : List (List AV)) (v : Value), Rep Z φ (.rs xs) v → ((szOf P e).bind fun s => xs[n.toNat]?.bind fun c => if c.length = s then some (.rp c 0) else none) = some r →
          ∃ q, (Instr.indexAt t v (.int k n)).run P w = .ok q w ∧ Rep Z φ r q := by
        intro xs v hx hr
        cases hx with
        | rs0 => simp at hr
        | rs us hxn hc ha h0 h1 h2 =>
          simp only [Option.bind_eq_some_iff] at hr
          obtain ⟨s, hs, c, hcx, hr⟩ := hr
          split at hr
          · rename_i hcl
            injection hr with hr; subst hr
            rename_i B off cc s' nn a
            have hlt : n.toNat < xs.length := (List.getElem?_eq_some_iff.1 hcx).1
            rcases ha with rfl | h00
            · refine ⟨_, fin _ _ _ s (by omega) hs _ (by rw [add_none]), ?_⟩
              have e2 : s' = s := by rw [← (h0 _ _ hcx).1, hcl]
              subst e2
              have := Rep.rp (Z := Z) (φ := φ) (e := c) (o := 0) (B := B) (off := off + n.toNat * s') (us n.toNat) (fun j v hj => h1 _ _ j v hcx hj) (fun j v hj => h2 _ _ j v hcx hj)
              simpa using this
            · omega
          · cases hr
      cases hx with
      | sl hf hls hc hl hm ha =>
        subst hls
        simp only at hr
        split at hr
        · rename_i hh
          injection hr with hr; subst hr
          rcases ha with rfl | hc0
          · refine ⟨_, fin _ _ _ _ hh.1 hh.2 _ (by rw [add_none]), ?_⟩
            rename_i b off len c l cap
            have e1 : l.ob + off * l.s + n.toNat * l.s = l.ob + (off + n.toNat) * l.s + 0 := by rw [Nat.add_mul]; omega
            rw [e1]
            exact .ptr hf
          · have := hh.1; omega
        · cases hr
      | sl0n hc =>
        simp only at hr
        split at hr
        · rename_i hh; have := hh.1; simp at this; omega
        · cases hr
      | sl0s hc a =>
        simp only at hr
        split at hr
        · rename_i hh; have := hh.1; simp at this; omega
        · cases hr
      | rl hx => exact rsK _ _ hx (by simpa only [Option.bind_eq_bind] using hr)
      | rs us hxn hc ha h0 h1 h2 => exact rsK _ _ (.rs us hxn hc ha h0 h1 h2) (by simpa only [Option.bind_eq_bind] using hr)
      | _ => simp at hr
    | array len e =>
      have fin : ∀ (B x s : Nat), n < len → szOf P e = some s → (Instr.indexAt t (.pointer (some ⟨B, x, none⟩)) (.int k n)).run P w = .ok (.pointer (some ⟨B, x + n.toNat * s, none⟩)) w := by
        intro B x s hlt hs
        rw [run_indexAt_array hu hs (by omega) hlt w, add_none]
      cases hx with
      | ptr hf =>
        simp only at hr
        split at hr
        · rename_i hlt
          simp only [Option.map_eq_some_iff] at hr
          obtain ⟨s, hs, hr⟩ := hr
          subst hr
          exact ⟨_, fin _ _ s hlt hs, by rw [Nat.add_assoc]; exact .ptr hf⟩
        · cases hr
      | rp us h1 h2 =>
        simp only at hr
        split at hr
        · rename_i hlt
          simp only [Option.map_eq_some_iff] at hr
          obtain ⟨s, hs, hr⟩ := hr
          subst hr
          exact ⟨_, fin _ _ s hlt hs, by rw [Nat.add_assoc]; exact .rp us h1 h2⟩
        · cases hr
      | _ => simp at hr
    | _ => simp at hr

theorem bytes_get (s : List UInt8) (i : Nat) : (⟨s.toArray⟩ : ByteArray)[i]? = s[i]? := by
  by_cases h : i < s.length
  · rw [getElem?_pos _ _ (by show i < s.toArray.size; simpa using h), List.getElem?_eq_getElem h]; rfl
  · rw [getElem?_neg _ _ (by show ¬ i < s.toArray.size; simpa using h), List.getElem?_eq_none (by omega)]

theorem sound_index {t : TypeId} {x i r : AV} {u ui : Value} (hx : Rep Z φ x u) (hi : Rep Z φ i ui) (hr : aindex P t x i = some r) :
    ∃ v, (Instr.index t u ui).run P w = .ok v w ∧ Rep Z φ r v := by
  unfold aindex at hr
  simp only [Option.bind_eq_bind, Option.bind_eq_some_iff] at hr
  obtain ⟨n, hn, hr⟩ := hr
  obtain ⟨k, rfl⟩ := asI_some hn hi
  by_cases hneg : n < 0
  · rw [if_pos hneg] at hr; cases hr
  rw [if_neg hneg] at hr
  cases hu : P.underlying t with
  | none => simp [hu] at hr
  | some d =>
    rw [hu] at hr
    cases hx with
    | agg hl h =>
      cases d <;> simp [Option.bind_eq_some_iff] at hr
      rename_i len e
      obtain ⟨hlt, s, hs, hr⟩ := hr
      obtain ⟨v, hv, hrep⟩ := run_part (w := w) hr ⟨hl, h⟩
      refine ⟨v, ?_, hrep⟩
      unfold Instr.index
      refine run_bind' (x := (k, n)) (w' := w) rfl ?_
      refine run_bind' (run_underlying' hu w) ?_
      simp only
      rw [if_pos ⟨by omega, hlt⟩]
      exact run_bind' (run_szOf hs w) hv
    | str s =>
      cases d <;> simp [Option.bind_eq_some_iff] at hr
      obtain ⟨b, hb, hr⟩ := hr
      subst hr
      refine ⟨_, ?_, .int _ _⟩
      unfold Instr.index
      refine run_bind' (x := (k, n)) (w' := w) rfl ?_
      refine run_bind' (run_underlying' hu w) ?_
      simp only
      rw [if_pos (by omega), bytes_get, hb]
      rfl
    | _ => simp at hr

end
end Go.Lom
