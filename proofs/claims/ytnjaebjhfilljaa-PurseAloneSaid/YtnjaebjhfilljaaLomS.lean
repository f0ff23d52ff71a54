/- Regions that draw their order: one order serves all: the end. -/
import Derived.Test.YtnjaebjhfilljaaLomR
set_option linter.unusedSimpArgs false
set_option linter.unusedVariables false
namespace Go.Lom
open Go.RowKit

section
variable {P : Program} {N : Nat} {ops : Array Oper} {Q : AX → St → Prop}

theorem filter_get (D : Tmp → Bool) : ∀ (F : Fr) (t : Tmp), Fr.get (F.filter fun p => !D p.1) t = if D t then .undef else F.get t
  | [], t => by simp [Fr.get]
  | (c, v) :: F, t => by
    simp only [List.filter_cons]
    by_cases hc : D c = true
    · simp only [hc, Bool.not_true, Bool.false_eq_true, if_false]
      rw [filter_get D F t]
      by_cases ht : D t = true
      · rw [if_pos ht, if_pos ht]
      · rw [if_neg ht, if_neg ht]
        simp only [Fr.get]
        rw [if_neg]; rintro rfl; exact ht hc
    · have hc' : D c = false := by simpa using hc
      simp only [hc', Bool.not_false, if_true, Fr.get]
      by_cases htc : t = c
      · subst htc; simp [hc']
      · rw [if_neg htc, if_neg htc, filter_get D F t]

def isD (ops : Array Oper) (L : List Nat) (t : Tmp) : Bool := L.any fun i => (ops[i]?).bind (·.dst) == some t
def maskF (ops : Array Oper) (L : List Nat) (F : Fr) : Fr := F.filter fun p => !isD ops L p.1

theorem isD_false {L : List Nat} {t : Tmp} (h : isD ops L t = false) : ∀ i ∈ L, ∀ o, ops[i]? = some o → o.dst ≠ some t := by
  intro i hi o ho hd
  unfold isD at h
  have := (List.any_eq_false.1 h) i hi
  rw [ho] at this; simp [hd] at this
theorem isD_true {L : List Nat} {t : Tmp} (h : isD ops L t = true) : ∃ i ∈ L, ∃ o, ops[i]? = some o ∧ o.dst = some t := by
  unfold isD at h
  obtain ⟨i, hi, h2⟩ := List.any_eq_true.1 h
  cases ho : ops[i]? with
  | none => rw [ho] at h2; simp at h2
  | some o => rw [ho] at h2; exact ⟨i, hi, o, ho, by simpa using h2⟩

variable {listed : Array Bool} {L seen rest pend : List Nat} {σ : St} {Hr : Heap} {G : List Kept} {base : Nat → Prop} {w0 : Start} {Z : ZMap} {φ : PMap} {a : Act} {w : World}

theorem Inv.maskRel (h : Inv P N ops Q listed L seen rest pend σ Hr G base w0 Z φ a w) : FrRel Z φ (maskF ops L σ.fr) a.tmps := by
  intro t
  unfold maskF
  rw [filter_get (isD ops L)]
  cases hd : isD ops L t with
  | true => exact .undef _
  | false => exact h.frm t (isD_false hd)

theorem getD_iff {x : Nat} (hx : x < listed.size) : listed.getD x false = listed.getD x true := by
  simp [Array.getD, hx]
theorem getD_lt {x : Nat} (h : listed.getD x false = true) : x < listed.size := by
  rcases Nat.lt_or_ge x listed.size with h1 | h1
  · exact h1
  · simp [Array.getD, Nat.not_lt.2 h1] at h

/-- All that stands before a ready operation has been carried out. -/
theorem Inv.preDone (h : Inv P N ops Q listed L seen rest pend σ Hr G base w0 Z φ a w) {i : Nat} {o : Oper} (ho : ops[i]? = some o) (he : ∀ e ∈ o.after, Region.binds .any e = true → listed.getD e.on false = true)
    {k : Nat} (hk : preB (masks ops.toList []) k i = true) : listed.getD k false = true := by
  obtain ⟨e, hem, hb, h2⟩ := preB_edge ho hk
  have h3 := he e (by simpa using hem) hb
  rcases h2 with rfl | h2
  · exact h3
  · have hlt := getD_lt h3
    exact h.closed e.on k (by rw [← getD_iff hlt]; exact h3) (by rw [← h.lsz]; exact hlt) h2

theorem Inv.notLate (h : Inv P N ops Q listed L seen rest pend σ Hr G base w0 Z φ a w) {k : Nat} (hk : listed.getD k false = true) : k ∉ L := by
  have hlt := getD_lt hk
  rw [getD_iff hlt] at hk
  exact ((h.hl k (by rw [← h.lsz]; exact hlt)).1 hk).2

/-- An operation that may come up now reads no slot that is still to be written. -/
theorem Inv.clear_ (h : Inv P N ops Q listed L seen rest pend σ Hr G base w0 Z φ a w) {i : Nat} {o : Oper} (ho : ops[i]? = some o) (he : ∀ e ∈ o.after, Region.binds .any e = true → listed.getD e.on false = true)
    (hself : i ∈ L → ∀ d, o.dst = some d → d ∉ tmpsOf ops o) (hpre : ∀ j ∈ L, j ≠ i → ∀ oj d, ops[j]? = some oj → oj.dst = some d → d ∈ tmpsOf ops o → preB (masks ops.toList []) j i = true) :
    ∀ t ∈ tmpsOf ops o, isD ops L t = false := by
  intro t ht
  cases hd : isD ops L t with
  | false => rfl
  | true =>
    exfalso
    obtain ⟨j, hj, oj, hoj, hdj⟩ := isD_true hd
    by_cases hji : j = i
    · subst hji
      rw [ho] at hoj; injection hoj with hoj; subst hoj
      exact hself hj t hdj ht
    · exact h.notLate (h.preDone ho he (hpre j hj hji oj t hoj hdj ht)) hj

theorem agree_mask {o : Oper} {F : Fr} (h : ∀ t ∈ tmpsOf ops o, isD ops L t = false) : Agree F (maskF ops L F) o.op := by
  intro t ht
  unfold maskF
  rw [filter_get (isD ops L), h t (mem_tmps ht)]; rfl
theorem guardV_mask {o : Oper} {F : Fr} {j : Nat} {want : Bool} (hg : o.guard = some (j, want)) (h : ∀ t ∈ tmpsOf ops o, isD ops L t = false) : guardV ops (maskF ops L F) j = guardV ops F j := by
  unfold guardV
  cases hd : (ops[j]?).bind (·.dst) with
  | none => rfl
  | some d =>
    simp only
    unfold maskF
    rw [filter_get (isD ops L), h d (mem_guard hg hd)]; rfl

theorem getD_set (i j : Nat) (d : Bool) (hi : i < listed.size) : (listed.setIfInBounds i true).getD j d = if j = i then true else listed.getD j d := by
  by_cases h : j = i
  · subst h; simp [Array.getD, hi]
  · rw [if_neg h, getD_set_ne d (Ne.symm h)]

theorem put_tmps {a : Act} {dst : Option Tmp} {v : Value} {t : Tmp} (h : dst ≠ some t) : (a.put dst v).tmps.getD t Go.undef = a.tmps.getD t Go.undef := by
  cases dst with
  | none => rfl
  | some d =>
    have : d ≠ t := fun e => h (by rw [e])
    simp [Act.put, Array.getD_eq_getD_getElem?, Array.getElem?_setIfInBounds, this]
theorem put_tmps_self {a : Act} {d : Tmp} {v : Value} (h : d < a.tmps.size) : (a.put (some d) v).tmps.getD d Go.undef = v := by
  simp [Act.put, Array.getD, h]
theorem put_size {a : Act} {dst : Option Tmp} {v : Value} : (a.put dst v).tmps.size = a.tmps.size := by cases dst <;> simp [Act.put]
theorem put_defs {a : Act} {dst : Option Tmp} {v : Value} : (a.put dst v).defers = a.defers := by cases dst <;> simp [Act.put]

theorem mem_split_last {p : Nat → Prop} [DecidablePred p] : ∀ (l : List Nat), (∃ x ∈ l, p x) → ∃ l1 x l2, l = l1 ++ x :: l2 ∧ p x ∧ ∀ y ∈ l2, ¬ p y
  | [], ⟨x, hx, _⟩ => by simp at hx
  | y :: l, h => by
    by_cases hl : ∃ x ∈ l, p x
    · obtain ⟨l1, x, l2, h1, h2, h3⟩ := mem_split_last l hl
      exact ⟨y :: l1, x, l2, by rw [h1]; rfl, h2, h3⟩
    · obtain ⟨x, hx, hp⟩ := h
      rcases List.mem_cons.1 hx with rfl | hx
      · exact ⟨[], x, l, rfl, hp, fun y hy hpy => hl ⟨y, hy, hpy⟩⟩
      · exact absurd ⟨x, hx, hp⟩ hl

/-- Where nothing is ready, all is done. -/
theorem Inv.done (h : Inv P N ops Q listed L seen rest pend σ Hr G base w0 Z φ a w) (hst : Stops ops seen rest) (hr : Region.ready .any ops listed = []) : L = [] ∧ rest = [] := by
  have key : ∀ i o, ops[i]? = some o → listed.getD i true = false → (∀ e ∈ o.after.toList, Region.binds .any e = true → listed.getD e.on false = true) → False := by
    intro i o ho hu he
    have : i ∈ Region.ready .any ops listed := mem_ready.2 ⟨hu, o, ho, fun e hm hb => he e (by simpa using hm) hb⟩
    rw [hr] at this; cases this
  have inSeen : ∀ i, i < ops.size → i ∈ seen → i ∉ L → listed.getD i false = true := fun i hi h1 h2 => by
    rw [getD_iff (by rw [h.lsz]; exact hi)]; exact (h.hl i hi).2 ⟨h1, h2⟩
  have ltOf : ∀ i ∈ seen, i < ops.size ∨ ¬ i < ops.size := fun i _ => Decidable.em _
  have hL : L = [] := by
    cases hLL : L with
    | nil => rfl
    | cons x0 L0 =>
      exfalso
      obtain ⟨l1, x, l2, h1, h2, h3⟩ := mem_split_last (p := fun i => i ∈ L) seen ⟨x0, h.hL x0 (by rw [hLL]; simp), by rw [hLL]; simp⟩
      obtain ⟨o, ho, _⟩ := h.late x h2
      have hlt : x < ops.size := (Array.getElem?_eq_some_iff.1 ho).1
      refine key x o ho ?_ fun e he hb => ?_
      · cases hx : listed.getD x true with
        | false => rfl
        | true => exact absurd h2 ((h.hl x hlt).1 hx).2
      · have h4 := h.edges l1 x l2 h1 o ho e he hb
        have h5 : e.on ∉ L := h3 _ h4
        have h6 : e.on ∈ seen := by rw [h1]; simp [h4]
        by_cases hes : e.on < ops.size
        · exact inSeen _ hes h6 h5
        · exfalso
          -- an index beyond the region cannot have been seen
          obtain ⟨s1, s2, hs12⟩ := List.append_of_mem h6
          exact hes (h.bound _ h6)
  refine ⟨hL, ?_⟩
  rcases hst with h1 | ⟨i, rest', o, h1, ho, hf, _⟩
  · exact h1
  · exfalso
    subst h1
    obtain ⟨hs1, hns, _⟩ := regOk_head h.ok
    obtain ⟨o', ho', hed, _, _⟩ := regStep_spec hs1
    rw [ho] at ho'; injection ho' with ho'; subst ho'
    have hlt : i < ops.size := (Array.getElem?_eq_some_iff.1 ho).1
    refine key i o ho ?_ fun e he hb => inSeen _ (h.bound _ (hed e he hb)) (hed e he hb) (by rw [hL]; simp)
    cases hx : listed.getD i true with
    | false => rfl
    | true => exact absurd ((h.hl i hlt).1 hx).1 hns

end
end Go.Lom
