/- Regions that draw their order: one order serves all: the theorem. -/
import Derived.Test.YtnjaebjhfilljaaLomQ
set_option linter.unusedSimpArgs false
set_option linter.unusedVariables false
namespace Go.Lom
open Go.RowKit

section
variable {P : Program} {N : Nat} {ops : Array Oper} {Q : AX → St → Prop}

theorem mem_tmps {o : Oper} {t : Tmp} (h : Operand.tmp t ∈ o.op.operands.toList) : t ∈ tmpsOf ops o := by
  unfold tmpsOf
  refine List.mem_append.2 (.inl (List.mem_filterMap.2 ⟨_, h, rfl⟩))
theorem mem_guard {o : Oper} {j : Nat} {want : Bool} {d : Tmp} (hg : o.guard = some (j, want)) (hd : (ops[j]?).bind (·.dst) = some d) : d ∈ tmpsOf ops o := by
  unfold tmpsOf
  refine List.mem_append.2 (.inr ?_)
  rw [hg]; simp [hd]

/-- What a late operation was found to yield. -/
def LateX (P : Program) (pend : List Nat) (i : Nat) (o : Oper) (F : Fr) (H : Heap) : Prop :=
  (∃ r, lateV P o.op F H = some r ∧ ∀ d, o.dst = some d → F.get d = r) ∧ (readsQ o.op = true → i ∈ pend)
def LateG (P : Program) (ops : Array Oper) (pend : List Nat) (i : Nat) (o : Oper) (F : Fr) (H : Heap) : Prop :=
  match o.guard with
  | none => LateX P pend i o F H
  | some (j, want) => ∃ b, guardV ops F j = some b ∧ (b = some want → LateX P pend i o F H) ∧ (b ≠ some want → ∀ d, o.dst = some d → F.get d = skipV)
/-- A variable that is still to be set up: its operation, the number that is kept for it, what it holds. -/
structure Kept where
  i : Nat
  b : Nat
  cs : List AV
def LateA (P : Program) (G : List Kept) (i : Nat) (o : Oper) (F : Fr) : Prop :=
  ∃ t b cs, o.op = .alloc t ∧ o.guard = none ∧ zeroCellsOf P t = some cs ∧ ⟨i, b, cs⟩ ∈ G ∧ ∀ d, o.dst = some d → F.get d = .ptr b 0 0
def Late (P : Program) (N : Nat) (ops : Array Oper) (pend : List Nat) (G : List Kept) (i : Nat) (F : Fr) (H : Heap) : Prop :=
  ∃ o, ops[i]? = some o ∧ dstOk N o = true ∧ (∀ d, o.dst = some d → d ∉ tmpsOf ops o) ∧ ((isL ops (masks ops.toList []) o = true ∧ LateG P ops pend i o F H) ∨ LateA P G i o F)

theorem late_mono {pend pend' : List Nat} {i : Nat} {o : Oper} {F : Fr} {H : Heap} (h : ∀ p ∈ pend, p ∈ pend') (hl : LateG P ops pend i o F H) : LateG P ops pend' i o F H := by
  unfold LateG at *
  split
  · rename_i hg; rw [hg] at hl; exact ⟨hl.1, fun hr => h _ (hl.2 hr)⟩
  · rename_i j want hg
    rw [hg] at hl
    obtain ⟨b, h1, h2, h3⟩ := hl
    exact ⟨b, h1, fun hb => ⟨(h2 hb).1, fun hr => h _ ((h2 hb).2 hr)⟩, h3⟩

/-- The state of a region half done: 'seen': what the walk has behind it; 'L': what of that is still to come in truth; 'G': the variables among these; 'Hr': memory in truth. -/
structure Inv (P : Program) (N : Nat) (ops : Array Oper) (Q : AX → St → Prop) (listed : Array Bool) (L seen rest pend : List Nat) (σ : St) (Hr : Heap) (G : List Kept) (base : Nat → Prop) (w0 : Start) (Z : ZMap) (φ : PMap) (a : Act) (w : World) : Prop where
  hl : ∀ i, i < ops.size → (listed.getD i true = true ↔ i ∈ seen ∧ i ∉ L)
  lsz : listed.size = ops.size
  hL : ∀ i ∈ L, i ∈ seen
  bound : ∀ i ∈ seen, i < ops.size
  closed : ∀ j i, listed.getD j true = true → j < ops.size → preB (masks ops.toList []) i j = true → listed.getD i false = true
  ok : regOk ops (masks ops.toList []) rest seen = true
  edges : ∀ l1 i l2, seen = l1 ++ i :: l2 → ∀ o, ops[i]? = some o → ∀ e ∈ o.after.toList, Region.binds .any e = true → e.on ∈ l2
  late : ∀ i ∈ L, Late P N ops pend G i σ.fr Hr
  apart : ∀ i ∈ L, ∀ j ∈ seen, j ≠ i → ∀ oi oj d, ops[i]? = some oi → ops[j]? = some oj → oi.dst = some d → (d ∈ tmpsOf ops oj → preB (masks ops.toList []) i j = true) ∧ oj.dst ≠ some d
  frm : ∀ t, (∀ i ∈ L, ∀ o, ops[i]? = some o → o.dst ≠ some t) → Rep Z φ (σ.fr.get t) (a.tmps.getD t Go.undef)
  size : a.tmps.size = N
  df : DfRel P Z φ σ.df a.defers
  heap : HRel base w0 Z φ Hr σ.nx w
  gL : ∀ v ∈ G, v.i ∈ L ∧ ∃ o, ops[v.i]? = some o ∧ isA o.op = true
  gb : ∀ v ∈ G, v.b < σ.nx ∧ φ v.b = none ∧ Hr.get v.b = none
  gd : ∀ u ∈ G, ∀ v ∈ G, (u.i = v.i → u = v) ∧ (u.b = v.b → u = v)
  gH : ∀ c y, σ.H.get c = some y → Hr.get c = some y ∨ ∃ v ∈ G, v.b = c ∧ y = .row v.cs.length [v.cs]
  v : VReg P N ops (masks ops.toList []) Q rest seen pend σ

theorem put_get {F : Fr} {dst : Option Tmp} {r : AV} {t : Tmp} (h : dst ≠ some t) : (F.put dst r).get t = F.get t := by
  cases dst with
  | none => rfl
  | some d => simp only [Fr.put, Fr.get]; rw [if_neg]; rintro rfl; exact h rfl
theorem put_get_self {F : Fr} {d : Tmp} {r : AV} : (F.put (some d) r).get d = r := by simp [Fr.put, Fr.get]

theorem regOk_head {ms : List Nat} {i : Nat} {rest seen : List Nat} (h : regOk ops ms (i :: rest) seen = true) : regStep ops ms seen rest i = true ∧ i ∉ seen ∧ regOk ops ms rest (i :: seen) = true := by
  simp only [regOk, Bool.and_eq_true, Bool.not_eq_true'] at h
  refine ⟨h.1.1, ?_, h.2⟩
  intro hm
  have := h.1.2
  rw [List.contains_iff_mem.2 hm] at this; cases this

theorem regOk_all : ∀ {rest seen : List Nat} {ms : List Nat}, regOk ops ms rest seen = true → ∀ i, i < ops.size → i ∈ rest ∨ i ∈ seen
  | [], seen, ms, h, i, hi => by
    simp only [regOk, List.all_eq_true, List.mem_range] at h
    exact .inr (List.contains_iff_mem.1 (h i hi))
  | j :: rest, seen, ms, h, i, hi => by
    obtain ⟨_, _, h3⟩ := regOk_head h
    rcases regOk_all h3 i hi with h4 | h4
    · exact .inl (List.mem_cons_of_mem _ h4)
    · rcases List.mem_cons.1 h4 with rfl | h5
      · exact .inl (List.mem_cons_self ..)
      · exact .inr h5

/-- What 'regStep' says. -/
theorem regStep_spec {ms : List Nat} {seen rest : List Nat} {i : Nat} (h : regStep ops ms seen rest i = true) : ∃ o, ops[i]? = some o ∧
    (∀ e ∈ o.after.toList, Region.binds .any e = true → e.on ∈ seen) ∧
    (∀ j ∈ seen, ∀ p d, ops[j]? = some p → p.dst = some d → d ∈ tmpsOf ops o → preB ms j i = true) ∧
    (if freeB ops ms seen o = true then (readsQ o.op = true → closedA ops ms seen = true) else freeA ops seen o = true ∨ ((∀ k ∈ rest, preB ms i k = true) ∧ (∀ j ∈ seen, ∀ p, ops[j]? = some p → isA p.op = true → preB ms j i = true) ∧ (∀ j ∈ seen, preB ms j i = true ∨ ∀ d, o.dst = some d → ∀ p, ops[j]? = some p → d ∉ namesOf ops p))) := by
  unfold regStep at h
  split at h
  · cases h
  rename_i o ho
  simp only [Bool.and_eq_true] at h
  obtain ⟨⟨⟨h1, h2⟩, h3⟩, h4⟩ := h
  refine ⟨o, ho, ?_, ?_, ?_⟩
  · intro e he hb
    have := List.all_eq_true.1 h1 e he
    rw [hb] at this
    simpa using this
  · intro j hj p d hp hd ht
    have := List.all_eq_true.1 h2 j hj
    rw [hp] at this
    simp only [hd] at this
    rw [List.contains_iff_mem.2 ht] at this
    simpa using this
  · split at h4
    · rename_i hf
      rw [if_pos hf]
      intro hr
      rw [hr] at h4
      simpa using h4
    · rename_i hf
      rw [if_neg hf]
      simp only [Bool.or_eq_true, Bool.and_eq_true] at h4
      rcases h4 with h4 | ⟨⟨h4, h6⟩, h5⟩
      · exact .inl h4
      · refine .inr ⟨fun k hk => List.all_eq_true.1 h4 k hk, fun j hj p hp ha => ?_, ?_⟩
        · have := List.all_eq_true.1 h6 j hj
          rw [hp] at this
          simp only [ha] at this
          simpa using this
        intro j hj
        have h5 := List.all_eq_true.1 h5 j hj
        rw [Bool.or_eq_true] at h5
        rcases h5 with h5 | h5
        · exact .inl h5
        · refine .inr fun d hd p hp hmem => ?_
          rw [hd] at h5
          simp only [hp, List.contains_iff_mem.2 hmem] at h5
          cases h5

theorem ownB_spec {seen : List Nat} {o : Oper} (h : ownB ops seen o = true) : ∀ d, o.dst = some d → d ∉ tmpsOf ops o ∧ ∀ j ∈ seen, ∀ p, ops[j]? = some p → d ∉ namesOf ops p := by
  intro d hd
  unfold ownB at h
  rw [hd] at h
  simp only [Bool.and_eq_true, Bool.not_eq_true'] at h
  refine ⟨fun hm => ?_, fun j hj p hp hm => ?_⟩
  · have := h.1
    rw [List.contains_iff_mem.2 hm] at this; cases this
  · have := List.all_eq_true.1 h.2 j hj
    rw [hp] at this
    simp only [List.contains_iff_mem.2 hm] at this
    cases this

theorem freeB_spec {ms seen : List Nat} {o : Oper} (h : freeB ops ms seen o = true) : isL ops ms o = true ∧ ownB ops seen o = true := by
  unfold freeB at h
  simpa using h
theorem freeA_spec {seen : List Nat} {o : Oper} (h : freeA ops seen o = true) : (∃ t, o.op = .alloc t) ∧ o.guard = none ∧ ownB ops seen o = true := by
  unfold freeA at h
  simp only [Bool.and_eq_true] at h
  refine ⟨?_, by simpa using h.1.2, h.2⟩
  have := h.1.1
  cases ho : o.op <;> rw [ho] at this <;> first | exact ⟨_, rfl⟩ | (simp [isA] at this; done)

theorem names_tmps {o : Oper} {d : Tmp} (h : d ∉ namesOf ops o) : d ∉ tmpsOf ops o ∧ o.dst ≠ some d := by
  unfold namesOf at h
  simp only [List.mem_append, not_or] at h
  refine ⟨h.2, fun e => h.1 ?_⟩
  rw [e]; simp

theorem agree_put {F : Fr} {dst : Option Tmp} {r : AV} {o : Oper} (h : ∀ d, dst = some d → d ∉ tmpsOf ops o) : Agree F (F.put dst r) o.op := by
  intro t ht
  refine (put_get fun e => h t e (mem_tmps ht)).symm
theorem guardV_put {F : Fr} {dst : Option Tmp} {r : AV} {o : Oper} {j : Nat} {want : Bool} (hg : o.guard = some (j, want)) (h : ∀ d, dst = some d → d ∉ tmpsOf ops o) : guardV ops (F.put dst r) j = guardV ops F j := by
  unfold guardV
  cases hd : (ops[j]?).bind (·.dst) with
  | none => rfl
  | some d => simp only; rw [put_get fun e => h d e (mem_guard hg hd)]

/-- A late operation, behind a step elsewhere. -/
theorem late_put {pend : List Nat} {i : Nat} {o : Oper} {F : Fr} {H H' : Heap} {dst : Option Tmp} {r : AV} (hd : ∀ d, dst = some d → d ∉ tmpsOf ops o ∧ o.dst ≠ some d)
    (hH : LateX P pend i o F H → ∃ q, lateV P o.op (F.put dst r) H' = some q ∧ ∀ d, o.dst = some d → (F.put dst r).get d = q) (h : LateG P ops pend i o F H) : LateG P ops pend i o (F.put dst r) H' := by
  have hd1 : ∀ d, dst = some d → d ∉ tmpsOf ops o := fun d e => (hd d e).1
  unfold LateG at *
  split
  · rename_i hg; rw [hg] at h; exact ⟨hH h, h.2⟩
  · rename_i j want hg
    rw [hg] at h
    obtain ⟨b, h1, h2, h3⟩ := h
    refine ⟨b, by rw [guardV_put hg hd1]; exact h1, fun hb => ⟨hH (h2 hb), (h2 hb).2⟩, fun hb d hdd => ?_⟩
    rw [put_get fun e => (hd d e).2 hdd]
    exact h3 hb d hdd

theorem isA_hard {o : Oper} (h : isA o.op = true) (ms : List Nat) : isL ops ms o = false := by
  obtain ⟨dst, op, ty, pos, after, guard⟩ := o
  cases op <;> simp [isA] at h
  rfl

theorem preB_lt {i j : Nat} (h : preB (masks ops.toList []) i j = true) : j < ops.size := by
  rcases Nat.lt_or_ge j ops.size with hlt | hge
  · exact hlt
  · exfalso
    have hlen : ∀ (l : List Oper) (acc : List Nat), (masks l acc).length = acc.length + l.length := by
      intro l
      induction l with
      | nil => intro acc; simp [masks]
      | cons o l ih => intro acc; simp only [masks, ih, List.length_append, List.length_cons, List.length_nil]; omega
    unfold preB at h
    rw [List.getD_eq_getElem?_getD, List.getElem?_eq_none (by rw [hlen]; simpa using hge)] at h
    simp at h

/-- All variables that the walk has set up are there. -/
theorem Inv.noG {listed : Array Bool} {L seen rest pend : List Nat} {σ : St} {Hr : Heap} {G : List Kept} {base : Nat → Prop} {w0 : Start} {Z : ZMap} {φ : PMap} {a : Act} {w : World}
    (h : Inv P N ops Q listed L seen rest pend σ Hr G base w0 Z φ a w) (hA : ∀ j ∈ seen, ∀ p, ops[j]? = some p → isA p.op = true → j ∉ L) : G = [] := by
  cases hG : G with
  | nil => rfl
  | cons v G' =>
    exfalso
    obtain ⟨hi, o, ho, ha⟩ := h.gL v (by rw [hG]; simp)
    exact hA v.i (h.hL _ hi) o ho ha hi
theorem Inv.subH {listed : Array Bool} {L seen rest pend : List Nat} {σ : St} {Hr : Heap} {base : Nat → Prop} {w0 : Start} {Z : ZMap} {φ : PMap} {a : Act} {w : World}
    (h : Inv P N ops Q listed L seen rest pend σ Hr [] base w0 Z φ a w) : Sub σ.H Hr := by
  intro b x hb
  rcases h.gH b x hb with h1 | ⟨v, hv, _⟩
  · exact h1
  · cases hv

theorem Inv.closedA_ {listed : Array Bool} {L seen rest pend : List Nat} {σ : St} {Hr : Heap} {G : List Kept} {base : Nat → Prop} {w0 : Start} {Z : ZMap} {φ : PMap} {a : Act} {w : World}
    (h : Inv P N ops Q listed L seen rest pend σ Hr G base w0 Z φ a w) (hc : closedA ops (masks ops.toList []) seen = true) : G = [] := by
  refine h.noG fun j hj p hp ha hjL => ?_
  have := List.all_eq_true.1 hc j hj
  rw [hp] at this
  simp only [ha, Bool.not_true, Bool.false_or, List.any_eq_true, Bool.and_eq_true] at this
  obtain ⟨k, hk, hpre, hhard⟩ := this
  cases hq : ops[k]? with
  | none => rw [hq] at hhard; cases hhard
  | some q =>
    rw [hq] at hhard
    simp only [Bool.and_eq_true, Bool.not_eq_true'] at hhard
    have hkL : k ∉ L := by
      intro hkL
      obtain ⟨q', hq', _, _, hc⟩ := h.late k hkL
      rw [hq] at hq'; injection hq' with hq'; subst hq'
      rcases hc with ⟨h1, _⟩ | ⟨t, _, _, h1, _⟩
      · rw [hhard.1] at h1; cases h1
      · have := hhard.2; rw [h1] at this; cases this
    have hk1 := (h.hl k (h.bound k hk)).2 ⟨hk, hkL⟩
    have hj1 := h.closed k j hk1 (h.bound k hk) hpre
    have hjlt : j < listed.size := by rw [h.lsz]; exact h.bound j hj
    have hj2 : listed.getD j true = true := by rw [← hj1]; simp [Array.getD, hjlt]
    exact ((h.hl j (h.bound j hj)).1 hj2).2 hjL

/-- The walk takes an operation that may come late. -/
theorem Inv.push {listed : Array Bool} {L seen rest pend : List Nat} {i : Nat} {σ : St} {Hr : Heap} {G : List Kept} {base : Nat → Prop} {w0 : Start} {Z : ZMap} {φ : PMap} {a : Act} {w : World}
    (h : Inv P N ops Q listed L seen (i :: rest) pend σ Hr G base w0 Z φ a w) {o : Oper} (ho : ops[i]? = some o) (hown : ownB ops seen o = true)
    {pend' : List Nat} {r : AV} {H' : Heap} {nx' : Nat} {G' : List Kept} (hp : ∀ p ∈ pend, p ∈ pend') (hGs : ∀ v ∈ G, v ∈ G')
    (hlate : Late P N ops pend' G' i (σ.fr.put o.dst r) Hr) (hnx : σ.nx ≤ nx') (g1 : ∀ v ∈ G', (v ∈ G ∨ v.i = i) ∧ ∃ o, ops[v.i]? = some o ∧ isA o.op = true) (g2 : ∀ v ∈ G', v.b < nx' ∧ φ v.b = none ∧ Hr.get v.b = none)
    (g3 : ∀ u ∈ G', ∀ v ∈ G', (u.i = v.i → u = v) ∧ (u.b = v.b → u = v)) (g4 : ∀ c y, H'.get c = some y → Hr.get c = some y ∨ ∃ v ∈ G', v.b = c ∧ y = .row v.cs.length [v.cs])
    (hv' : VReg P N ops (masks ops.toList []) Q rest (i :: seen) pend' ⟨σ.fr.put o.dst r, H', nx', σ.df⟩) :
    Inv P N ops Q listed (i :: L) (i :: seen) rest pend' ⟨σ.fr.put o.dst r, H', nx', σ.df⟩ Hr G' base w0 Z φ a w := by
  obtain ⟨hst, hns, hok⟩ := regOk_head h.ok
  obtain ⟨o', ho', hed, hrd, _⟩ := regStep_spec hst
  rw [ho] at ho'; injection ho' with ho'; subst ho'
  have hfd := ownB_spec hown
  have hlt : i < ops.size := (Array.getElem?_eq_some_iff.1 ho).1
  refine ⟨fun j hj => ?_, h.lsz, fun j hj => ?_, fun j hj => ?_, h.closed, hok, ?_, ?_, ?_, ?_, h.size, h.df, h.heap.nxMono hnx, fun v hv => ⟨?_, (g1 v hv).2⟩, g2, g3, g4, hv'⟩
  · rw [h.hl j hj]
    simp only [List.mem_cons, not_or]
    constructor
    · rintro ⟨a1, a2⟩; exact ⟨.inr a1, fun e => hns (e ▸ a1), a2⟩
    · rintro ⟨a1, a2, a3⟩; exact ⟨a1.resolve_left a2, a3⟩
  · rcases List.mem_cons.1 hj with rfl | hj
    · exact List.mem_cons_self ..
    · exact List.mem_cons_of_mem _ (h.hL j hj)
  · rcases List.mem_cons.1 hj with rfl | hj
    · exact hlt
    · exact h.bound j hj
  · intro l1 x l2 hsp ox hox e he hb
    cases l1 with
    | nil =>
      simp only [List.nil_append, List.cons.injEq] at hsp
      obtain ⟨rfl, rfl⟩ := hsp
      rw [ho] at hox; injection hox with hox; subst hox
      exact hed e he hb
    | cons y l1 =>
      simp only [List.cons_append, List.cons.injEq] at hsp
      exact h.edges l1 x l2 hsp.2 ox hox e he hb
  · intro j hj
    rcases List.mem_cons.1 hj with rfl | hj
    · exact hlate
    · obtain ⟨oj, hoj, k2, k3, k4⟩ := h.late j hj
      have hd : ∀ d, o.dst = some d → d ∉ tmpsOf ops oj ∧ oj.dst ≠ some d := fun d e => names_tmps ((hfd d e).2 j (h.hL j hj) oj hoj)
      refine ⟨oj, hoj, k2, k3, ?_⟩
      rcases k4 with ⟨k4, k5⟩ | ⟨t, b, cs, k4, k5, k6, k7, k8⟩
      · refine .inl ⟨k4, late_mono hp (late_put hd (fun hx => ?_) k5)⟩
        obtain ⟨⟨q, hq1, hq2⟩, _⟩ := hx
        refine ⟨q, ?_, fun d hdd => ?_⟩
        · rw [← lateV_congr (agree_put (ops := ops) fun d e => (hd d e).1)]; exact hq1
        · rw [put_get fun e => (hd d e).2 hdd]; exact hq2 d hdd
      · refine .inr ⟨t, b, cs, k4, k5, k6, hGs _ k7, fun d hdd => ?_⟩
        rw [put_get fun e => (hd d e).2 hdd]; exact k8 d hdd
  · intro j hj k hk hkj oj ok d hoj hok' hd
    rcases List.mem_cons.1 hj with rfl | hj2
    · rw [ho] at hoj; injection hoj with hoj; subst hoj
      have hk' : k ∈ seen := (List.mem_cons.1 hk).resolve_left hkj
      have := names_tmps ((hfd d hd).2 k hk' ok hok')
      exact ⟨fun hm => absurd hm this.1, this.2⟩
    · rcases List.mem_cons.1 hk with rfl | hk2
      · rw [ho] at hok'; injection hok' with hok'; subst hok'
        refine ⟨fun hm => hrd j (h.hL j hj2) oj d hoj hd hm, fun e => ?_⟩
        exact (names_tmps ((hfd d e).2 j (h.hL j hj2) oj hoj)).2 hd
      · exact h.apart j hj2 k hk2 hkj oj ok d hoj hok' hd
  · intro t ht
    simp only
    rw [put_get (ht i (List.mem_cons_self ..) o ho)]
    exact h.frm t fun j hj => ht j (List.mem_cons_of_mem _ hj)
  · rcases (g1 v hv).1 with h1 | h1
    · exact List.mem_cons_of_mem _ (h.gL v h1).1
    · rw [h1]; exact List.mem_cons_self ..

theorem Inv.adv {listed : Array Bool} {L seen rest pend : List Nat} {i : Nat} {σ : St} {Hr : Heap} {G : List Kept} {base : Nat → Prop} {w0 : Start} {Z : ZMap} {φ : PMap} {a : Act} {w : World}
    (h : Inv P N ops Q listed L seen (i :: rest) pend σ Hr G base w0 Z φ a w) {o : Oper} (ho : ops[i]? = some o) (hfree : freeB ops (masks ops.toList []) seen o = true) :
    ∃ pend' σ', Inv P N ops Q listed (i :: L) (i :: seen) rest pend' σ' Hr G base w0 Z φ a w := by
  obtain ⟨hst, hns, hok⟩ := regOk_head h.ok
  obtain ⟨o', ho', hed, hrd, hcase⟩ := regStep_spec hst
  rw [ho] at ho'; injection ho' with ho'; subst ho'
  rw [if_pos hfree] at hcase
  obtain ⟨hq, hown⟩ := freeB_spec hfree
  have hfd := ownB_spec hown
  have hv := h.v
  unfold VReg at hv
  rw [ho] at hv
  simp only [hfree, if_true] at hv
  obtain ⟨hdst, hv⟩ := hv
  have mk : ∀ (pend' : List Nat) (r : AV), (∀ p ∈ pend, p ∈ pend') → LateG P ops pend' i o (σ.fr.put o.dst r) Hr → VReg P N ops (masks ops.toList []) Q rest (i :: seen) pend' { σ with fr := σ.fr.put o.dst r } →
      ∃ pend' σ', Inv P N ops Q listed (i :: L) (i :: seen) rest pend' σ' Hr G base w0 Z φ a w := fun pend' r hp hlg hv' =>
    ⟨pend', _, h.push ho hown hp (fun v hv => hv) ⟨o, ho, hdst, fun d hd => (hfd d hd).1, .inl ⟨hq, hlg⟩⟩ (Nat.le_refl _) (fun v hv => ⟨.inl hv, (h.gL v hv).2⟩) h.gb h.gd h.gH hv'⟩
  have toHr : ∀ r, lateV P o.op σ.fr σ.H = some r → lateV P o.op σ.fr Hr = some r := fun r hr => by
    cases hrd' : readsQ o.op with
    | false => rw [lateV_noread (H' := σ.H) hrd']; exact hr
    | true =>
      have := h.closedA_ (hcase hrd')
      subst this
      exact lateV_sub h.subH hr
  have runIt : (∃ r, lateV P o.op σ.fr σ.H = some r ∧ VReg P N ops (masks ops.toList []) Q rest (i :: seen) (if readsQ o.op then i :: pend else pend) { σ with fr := σ.fr.put o.dst r }) →
      (∀ r, LateX P (if readsQ o.op then i :: pend else pend) i o (σ.fr.put o.dst r) Hr → LateG P ops (if readsQ o.op then i :: pend else pend) i o (σ.fr.put o.dst r) Hr) →
      ∃ pend' σ', Inv P N ops Q listed (i :: L) (i :: seen) rest pend' σ' Hr G base w0 Z φ a w := by
    rintro ⟨r, hr, hv'⟩ hG
    refine mk _ r (fun p hp => by split <;> simp [hp]) (hG r ⟨⟨r, ?_, fun d hd => by simp only [hd]; exact put_get_self⟩, fun hrd => by rw [if_pos hrd]; simp⟩) hv'
    rw [← lateV_congr (agree_put (ops := ops) fun d e => (hfd d e).1)]; exact toHr r hr
  cases hg : o.guard with
  | none =>
    rw [hg] at hv
    exact runIt hv fun r hx => by unfold LateG; rw [hg]; exact hx
  | some p =>
    obtain ⟨j, want⟩ := p
    rw [hg] at hv
    obtain ⟨b, hb, h1, h2⟩ := hv
    have hgd : ∀ r, guardV ops (σ.fr.put o.dst r) j = some b := fun r => by rw [guardV_put hg fun d e => (hfd d e).1]; exact hb
    by_cases hbw : b = some want
    · exact runIt (h1 hbw) fun r hx => by unfold LateG; rw [hg]; exact ⟨b, hgd r, fun _ => hx, fun hne => absurd hbw hne⟩
    · refine mk pend skipV (fun p hp => hp) ?_ (h2 hbw)
      unfold LateG; rw [hg]
      exact ⟨b, hgd _, fun hw => absurd hw hbw, fun _ d hd => by simp only [hd]; exact put_get_self⟩

/-- The walk takes a variable that may be set up late. -/
theorem Inv.advA {listed : Array Bool} {L seen rest pend : List Nat} {i : Nat} {σ : St} {Hr : Heap} {G : List Kept} {base : Nat → Prop} {w0 : Start} {Z : ZMap} {φ : PMap} {a : Act} {w : World}
    (h : Inv P N ops Q listed L seen (i :: rest) pend σ Hr G base w0 Z φ a w) {o : Oper} (ho : ops[i]? = some o) (hnf : freeB ops (masks ops.toList []) seen o = false) (hfree : freeA ops seen o = true) :
    ∃ σ' G', Inv P N ops Q listed (i :: L) (i :: seen) rest pend σ' Hr G' base w0 Z φ a w := by
  obtain ⟨⟨t, hop⟩, hg, hown⟩ := freeA_spec hfree
  obtain ⟨_, hns, _⟩ := regOk_head h.ok
  have hfd := ownB_spec hown
  have hv := h.v
  unfold VReg at hv
  rw [ho] at hv
  simp only [hnf, Bool.false_eq_true, if_false, hg] at hv
  obtain ⟨hdst, hv⟩ := hv
  unfold SOpR at hv
  rw [hop] at hv
  simp only [aq, ae, isVar, Bool.true_eq_false, reduceCtorEq, false_and, exists_false, false_or, or_false] at hv
  obtain ⟨r, H', nx', hae, _, hv'⟩ := hv
  unfold aalloc at hae
  simp only [Option.bind_eq_bind, Option.bind_eq_some_iff, Option.some.injEq, Prod.mk.injEq] at hae
  obtain ⟨cs, hcs, rfl, rfl, rfl⟩ := hae
  have hiG : ∀ v ∈ G, v.i ≠ i := fun v hv e => hns (e ▸ h.hL _ (h.gL v hv).1)
  refine ⟨_, ⟨i, σ.nx, cs⟩ :: G, h.push ho hown (fun p hp => hp) (fun v hv => List.mem_cons_of_mem _ hv)
    ⟨o, ho, hdst, fun d hd => (hfd d hd).1, .inr ⟨t, σ.nx, cs, hop, hg, hcs, List.mem_cons_self .., fun d hd => by simp only [hd]; exact put_get_self⟩⟩ (Nat.le_succ _) (fun v hv => ?_) (fun v hv => ?_) (fun u hu v hv => ?_) (fun c y hc => ?_) hv'⟩
  · rcases List.mem_cons.1 hv with rfl | hv
    · exact ⟨.inr rfl, o, ho, by rw [hop]; rfl⟩
    · exact ⟨.inl hv, (h.gL v hv).2⟩
  · rcases List.mem_cons.1 hv with rfl | hv
    · exact ⟨Nat.lt_succ_self _, h.heap.fresh (Nat.le_refl _), h.heap.freshH (Nat.le_refl _)⟩
    · exact ⟨Nat.lt_succ_of_lt (h.gb v hv).1, (h.gb v hv).2⟩
  · rcases List.mem_cons.1 hu with rfl | hu <;> rcases List.mem_cons.1 hv with rfl | hv
    · exact ⟨fun _ => rfl, fun _ => rfl⟩
    · exact ⟨fun e => absurd e.symm (hiG v hv), fun e => by have := (h.gb v hv).1; simp only at e; omega⟩
    · exact ⟨fun e => absurd e (hiG u hu), fun e => by have := (h.gb u hu).1; simp only at e; omega⟩
    · exact h.gd u hu v hv
  · rw [Heap.get_set] at hc
    by_cases hcn : c = σ.nx
    · rw [if_pos hcn] at hc; injection hc with hc
      exact .inr ⟨_, List.mem_cons_self .., hcn.symm, hc.symm⟩
    · rw [if_neg hcn] at hc
      rcases h.gH c y hc with h1 | ⟨v, hv, h1⟩
      · exact .inl h1
      · exact .inr ⟨v, List.mem_cons_of_mem _ hv, h1⟩

/-- Nothing more can be taken late: the end, or an operation that must not come late. -/
def Stops (ops : Array Oper) (seen rest : List Nat) : Prop := rest = [] ∨ ∃ i rest' o, rest = i :: rest' ∧ ops[i]? = some o ∧ freeB ops (masks ops.toList []) seen o = false ∧ freeA ops seen o = false

theorem Inv.norm : ∀ {rest : List Nat} {listed : Array Bool} {L seen pend : List Nat} {σ : St} {Hr : Heap} {G : List Kept} {base : Nat → Prop} {w0 : Start} {Z : ZMap} {φ : PMap} {a : Act} {w : World},
    Inv P N ops Q listed L seen rest pend σ Hr G base w0 Z φ a w → ∃ L' seen' rest' pend' σ' G', Inv P N ops Q listed L' seen' rest' pend' σ' Hr G' base w0 Z φ a w ∧ Stops ops seen' rest'
  | [], listed, L, seen, pend, σ, Hr, G, base, w0, Z, φ, a, w, h => ⟨L, seen, [], pend, σ, G, h, .inl rfl⟩
  | i :: rest, listed, L, seen, pend, σ, Hr, G, base, w0, Z, φ, a, w, h => by
    obtain ⟨hst, _, _⟩ := regOk_head h.ok
    obtain ⟨o, ho, _⟩ := regStep_spec hst
    cases hf : freeB ops (masks ops.toList []) seen o with
    | true =>
      obtain ⟨pend', σ', h'⟩ := h.adv ho hf
      exact Inv.norm h'
    | false =>
      cases hfa : freeA ops seen o with
      | true =>
        obtain ⟨σ', G', h'⟩ := h.advA ho hf hfa
        exact Inv.norm h'
      | false => exact ⟨L, seen, i :: rest, pend, σ, G, h, .inr ⟨i, rest, o, rfl, ho, hf, hfa⟩⟩

end
end Go.Lom
