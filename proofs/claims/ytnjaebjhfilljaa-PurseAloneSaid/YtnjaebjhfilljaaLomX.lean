/- New blocks, set up late: variables under a number that was kept for them; literals that nobody writes. -/
import Derived.Test.YtnjaebjhfilljaaLomO
set_option linter.unusedSimpArgs false
set_option linter.unusedVariables false
namespace Go.Lom
open Go.RowKit

section
variable {P : Program} {base : Nat → Prop} {w0 : Start} {Z : ZMap} {φ : PMap} {H : Heap} {nx : Nat} {w : World}

/-- A new block under a number that was kept for it. -/
theorem HRel.allocAt (h : HRel base w0 Z φ H nx w) {b : Nat} (hfr : φ b = none) (hb : b < nx) {o : Obj} {x : Blk} {l : Loc} (hlB : l.B = w.heap.size)
    (hx : blkRel Z (φ.set b l) (w.alloc o) l x) :
    HRel base w0 Z (φ.set b l) (H.set b x) nx (w.alloc o) := by
  have hle := PMap.le_set (x := l) hfr
  have hsz : (w.alloc o).heap.size = w.heap.size + 1 := by show (w.heap.push o).size = _; simp
  refine ⟨h.below.alloc o, fun B o' hB => ?_, h.z0, fun c y hy => ?_, fun c y hy => ?_, fun c l' hc => ?_, fun c y hy => ?_, ?_, ?_⟩
  · have := h.z B o' hB
    have hlt : B < w.heap.size := by
      rcases Nat.lt_or_ge B w.heap.size with hlt | hge
      · exact hlt
      · rw [Array.getElem?_eq_none hge] at this; cases this
    rw [heap_push _ _ _ hlt]; exact this
  · unfold PMap.set at hy
    by_cases hc : c = b
    · omega
    · rw [if_neg hc] at hy; have := h.fnx c y hy; omega
  · rw [Heap.get_set] at hy
    by_cases hc : c = b
    · omega
    · rw [if_neg hc] at hy; exact h.hnx c y hy
  · unfold PMap.set at hc
    rw [hsz]
    by_cases hcb : c = b
    · rw [if_pos hcb] at hc; injection hc with hc; subst hc; omega
    · rw [if_neg hcb] at hc; have := h.flt c l' hc; omega
  · rw [Heap.get_set] at hy
    by_cases hcb : c = b
    · rw [if_pos hcb] at hy; injection hy with hy; subst hy; subst hcb
      exact .inr ⟨l, PMap.set_self _ _ _, by rw [hlB]; exact h.notZ (Nat.le_refl _), hx⟩
    · rw [if_neg hcb] at hy
      rcases h.own' c y hy with ⟨hg, hf⟩ | ⟨l', hf, hz, hr⟩
      · exact .inl ⟨hg, by unfold PMap.set; rw [if_neg hcb]; exact hf⟩
      · exact .inr ⟨l', hle _ _ hf, hz, hr.mono (ZLe.refl _) hle (heap_push _ _ _ (h.flt _ _ hf))⟩
  · intro c c' y y' l1 l2 hne hy hy' hc hc'
    rw [Heap.get_set] at hy hy'
    unfold PMap.set at hc hc'
    by_cases h1 : c = b
    · rw [if_pos h1] at hc
      injection hc with hc; subst hc
      by_cases h2 : c' = b
      · omega
      · rw [if_neg h2] at hc'; have := h.flt _ _ hc'; omega
    · rw [if_neg h1] at hc hy
      by_cases h2 : c' = b
      · rw [if_pos h2] at hc'; injection hc' with hc'; subst hc'; have := h.flt _ _ hc; omega
      · rw [if_neg h2] at hc' hy'
        exact h.inj c c' y y' l1 l2 hne hy hy' hc hc'
  · intro c y l1 hy hc hu
    rw [Heap.get_set] at hy
    unfold PMap.set at hc
    by_cases h1 : c = b
    · rw [if_pos h1] at hc; injection hc with hc; subst hc
      have := h.below.size; omega
    · rw [if_neg h1] at hc hy
      exact h.ob c y l1 hy hc hu

def ZMap.set (Z : ZMap) (B : Nat) (o : Obj) : ZMap := fun C => if C = B then some o else Z C
theorem ZMap.set_self (Z : ZMap) (B : Nat) (o : Obj) : Z.set B o B = some o := by simp [ZMap.set]
theorem ZMap.le_set {Z : ZMap} {B : Nat} {o : Obj} (h : Z B = none) : ZLe Z (Z.set B o) := by
  intro C y hy; unfold ZMap.set; by_cases hc : C = B
  · subst hc; rw [h] at hy; cases hy
  · simp [hc, hy]

/-- A new block that nobody writes. -/
theorem HRel.allocZ (h : HRel base w0 Z φ H nx w) (o : Obj) : HRel base w0 (Z.set w.heap.size o) φ H nx (w.alloc o) := by
  have hle := ZMap.le_set (o := o) (h.notZ (Nat.le_refl w.heap.size))
  have hsz : (w.alloc o).heap.size = w.heap.size + 1 := by show (w.heap.push o).size = _; simp
  refine ⟨h.below.alloc o, fun B o' hB => ?_, fun B hB hu => ?_, h.fnx, h.hnx, fun c l' hc => ?_, fun c y hy => ?_, h.inj, h.ob⟩
  · unfold ZMap.set at hB
    by_cases hc : B = w.heap.size
    · subst hc; rw [if_pos rfl] at hB; injection hB with hB; subst hB; exact heap_new w _
    · rw [if_neg hc] at hB
      have := h.z B o' hB
      have hlt : B < w.heap.size := by
        rcases Nat.lt_or_ge B w.heap.size with hlt | hge
        · exact hlt
        · rw [Array.getElem?_eq_none hge] at this; cases this
      rw [heap_push _ _ _ hlt]; exact this
  · unfold ZMap.set
    rw [if_neg (by have := h.below.size; omega)]
    exact h.z0 B hB hu
  · have := h.flt c l' hc; omega
  · rcases h.own' c y hy with hg | ⟨l', hf, hz, hr⟩
    · exact .inl hg
    refine .inr ⟨l', hf, ?_, hr.mono hle (PLe.refl _) (heap_push _ _ _ (h.flt _ _ hf))⟩
    unfold ZMap.set
    rw [if_neg (by have := h.flt _ _ hf; omega)]
    exact hz

/-! ### Memory that is known better -/

theorem elems_sub {H H' : Heap} (hs : Sub H H') {x : AV} {es : List (List AV)} (h : elems H x = some es) : elems H' x = some es := by
  unfold elems at *
  split at h <;> try exact h
  simp only [Option.bind_eq_bind, Option.bind_eq_some_iff] at h ⊢
  obtain ⟨blk, hb, h⟩ := h
  exact ⟨blk, hs _ _ hb, h⟩

theorem aq_sub {H H' : Heap} (hs : Sub H H') {op : Op} {F : Fr} {r : AV} (h : aq P op F H = some r) : aq P op F H' = some r := by
  cases op <;> simp only [aq] at h ⊢ <;> try exact h
  case load t a =>
    unfold ald at *
    split at h <;> try exact h
    simp only [Option.bind_eq_bind, Option.bind_eq_some_iff] at h ⊢
    obtain ⟨blk, hb, h⟩ := h
    exact ⟨blk, hs _ _ hb, h⟩
  case convert s d x =>
    unfold aconv at *
    split at h <;> try exact h
    split at h <;> try exact h
    simp only [Option.bind_eq_bind, Option.bind_eq_some_iff] at h ⊢
    obtain ⟨es, he, h⟩ := h
    exact ⟨es, elems_sub hs he, h⟩
  case lookup t x k ok =>
    unfold alookup at *
    simp only [Option.bind_eq_bind, Option.bind_eq_some_iff] at h ⊢
    obtain ⟨kt, hk, es, he, h⟩ := h
    refine ⟨kt, hk, es, ?_, h⟩
    unfold entriesOf at *
    split at he <;> try exact he
    simp only [Option.bind_eq_some_iff] at he ⊢
    obtain ⟨blk, hb, he⟩ := he
    exact ⟨blk, hs _ _ hb, he⟩
  case call c =>
    unfold aqCall at *
    split at h <;> try exact h
    split at h <;> try exact h
    unfold alen at *
    split at h <;> try exact h
    simp only [Option.bind_eq_bind, Option.bind_eq_some_iff] at h ⊢
    obtain ⟨blk, hb, h⟩ := h
    exact ⟨blk, hs _ _ hb, h⟩

/-! ### Literals that nobody writes -/

/-- What a quiet operation, or a literal that nobody writes, yields. -/
def lateV (P : Program) (op : Op) (F : Fr) (H : Heap) : Option AV :=
  match op with
  | .buildSlice t len ps => (aliteral P t len (ps.toList.map fun p => (p.1, ev F p.2))).map fun x => .rs x.2
  | op => aq P op F H

theorem sound_late (h : HRel base w0 Z φ H nx w) {F : Fr} {a : Act} (hF : FrRel Z φ F a.tmps) {o : Oper} {r : AV} (hr : lateV P o.op F H = some r) :
    ∃ v Z' w', (execOp a.eval o).run P w = .ok (.value v) w' ∧ ZLe Z Z' ∧ HRel base w0 Z' φ H nx w' ∧ Rep Z' φ r v := by
  have dflt : aq P o.op F H = some r → ∃ v Z' w', (execOp a.eval o).run P w = .ok (.value v) w' ∧ ZLe Z Z' ∧ HRel base w0 Z' φ H nx w' ∧ Rep Z' φ r v := by
    intro hq
    obtain ⟨v, hv, hrep⟩ := sound_q h hF hq
    exact ⟨v, Z, w, hv, ZLe.refl _, h, hrep⟩
  obtain ⟨dst, op, ty, pos, after, guard⟩ := o
  cases op <;> try exact dflt hr
  rename_i t len ps
  simp only [lateV, Option.map_eq_some_iff] at hr
  obtain ⟨⟨s, es⟩, hlit, rfl⟩ := hr
  obtain ⟨hlen, c, e, hrun, hsz, hes⟩ := run_literal (w := w) (P := P) (t := t) (len := len) (qs := ps.map fun (i, x) => (i, a.eval x)) (by simp) (repP_ev hF ps) hlit
  have hle := ZMap.le_set (o := Obj.cells c e (0, 0)) (h.notZ (Nat.le_refl w.heap.size))
  refine ⟨_, Z.set w.heap.size (.cells c e), _, run_bind' hrun rfl, hle, h.allocZ _, ?_⟩
  refine .rs (B := w.heap.size) (off := 0) (s := s) (a := ⟨w.heap.size, 0, none⟩) (fun i j => c.getD (i * s + j) Go.undef) hlen (Nat.le_refl _) (.inl rfl) (fun i el hi => ⟨(hes i el hi).1, (hes i el hi).2.1⟩) (fun i el j v hi hj => ?_) fun i el j v hi hj => ?_
  · obtain ⟨u, hu, _⟩ := (hes i el hi).2.2 j v hj
    unfold zcell
    rw [ZMap.set_self]
    simp only [Nat.zero_add]
    rw [hu, Array.getD_eq_getD_getElem?, hu]; rfl
  · obtain ⟨u, hu, hr⟩ := (hes i el hi).2.2 j v hj
    rw [Array.getD_eq_getD_getElem?, hu]
    exact hr.mono hle (PLe.refl _)

/-- A variable, set up under a number that was kept for it. -/
theorem sound_allocAt (hh : HRel base w0 Z φ H nx w) {b : Nat} (hfr : φ b = none) (hb : b < nx) {t : TypeId} {cs : List AV} (hz : zeroCellsOf P t = some cs) :
    ∃ v φ' w', (Instr.alloc t true (.tuple #[])).run P w = .ok v w' ∧ PLe φ φ' ∧ (∀ c, c ≠ b → φ' c = φ c) ∧ Rep Z φ' (.ptr b 0 0) v ∧ HRel base w0 Z φ' (H.set b (.row cs.length [cs])) nx w' := by
  unfold zeroCellsOf at hz
  simp only [Option.bind_eq_some_iff] at hz
  obtain ⟨z, hz, hcs⟩ := hz
  obtain ⟨u, hu, hru⟩ := run_zeroValue (Z := Z) (φ := φ) hz w
  obtain ⟨hr, h1⟩ := rep_cells hcs hru
  have hrun : (newVar t u).run P w = .ok (⟨w.heap.size, 0, none⟩ : Addr) (w.alloc (.cells u.cells t)) := rfl
  refine ⟨.pointer (some ⟨w.heap.size, 0, none⟩), φ.set b ⟨w.heap.size, 0, cs.length, 1⟩, _, run_bind' hu (run_bind' hrun rfl), PMap.le_set hfr, fun c hc => by simp [PMap.set, hc], ?_, ?_⟩
  · have := Rep.ptr (Z := Z) (φ := φ.set b ⟨w.heap.size, 0, cs.length, 1⟩) (b := b) (i := 0) (o := 0) (PMap.set_self _ _ _)
    simpa using this
  · refine hh.allocAt hfr hb rfl ⟨rfl, by simp, u.cells, t, (0, 0), heap_new w _, by simp; rw [hr.1]; omega, fun x _ => by simp, fun i el hi => ?_⟩
    match i with
    | 0 =>
      simp at hi; subst hi
      refine ⟨rfl, h1, fun j v hj => ?_⟩
      have hlt : j < u.cells.size := by have := (List.getElem?_eq_some_iff.1 hj).1; have := hr.1; omega
      exact ⟨u.cells[j], by simp [hlt], (hr.2 j v _ hj (Array.getElem?_eq_getElem hlt)).mono (ZLe.refl _) (PMap.le_set hfr)⟩
    | i + 1 => simp at hi

end
end Go.Lom
