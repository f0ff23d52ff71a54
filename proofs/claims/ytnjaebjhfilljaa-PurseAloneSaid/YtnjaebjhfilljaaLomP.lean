/- Regions that draw their order: one order serves all. -/
import Derived.Test.YtnjaebjhfilljaaLomX
set_option linter.unusedSimpArgs false
set_option linter.unusedVariables false
namespace Go.Lom
open Go.RowKit

/-! ### Which operation must stand before which -/

def maskOf (acc : List Nat) (o : Oper) : Nat := o.after.toList.foldl (fun s e => if Region.binds .any e then s ||| 2 ^ e.on ||| acc.getD e.on 0 else s) 0
def masks : List Oper → List Nat → List Nat
  | [], acc => acc
  | o :: l, acc => masks l (acc ++ [maskOf acc o])

theorem masks_get : ∀ (l : List Oper) (acc : List Nat) (j : Nat) (o : Oper), l[j]? = some o → ∃ acc', (masks l acc)[acc.length + j]? = some (maskOf acc' o) ∧ acc'.length = acc.length + j ∧ ∀ i, i < acc'.length → (masks l acc).getD i 0 = acc'.getD i 0
  | [], _, _, _, h => by simp at h
  | o :: l, acc, j, o', h => by
    have pre : ∀ (l : List Oper) (acc : List Nat) (i : Nat), i < acc.length → (masks l acc)[i]? = acc[i]? := by
      intro l
      induction l with
      | nil => intro acc i _; rfl
      | cons o l ih =>
        intro acc i hi
        simp only [masks]
        rw [ih _ i (by simp; omega), List.getElem?_append_left hi]
    cases j with
    | zero =>
      simp at h; subst h
      refine ⟨acc, ?_, rfl, fun i hi => ?_⟩
      · simp only [masks, Nat.add_zero]
        rw [pre _ _ _ (by simp), List.getElem?_append_right (Nat.le_refl _)]; simp
      · simp only [List.getD_eq_getElem?_getD]
        rw [pre _ _ i hi]
    | succ j =>
      simp at h
      obtain ⟨acc', h1, h2, h3⟩ := masks_get l (acc ++ [maskOf acc o]) j o' h
      refine ⟨acc', ?_, by simp at h2; omega, h3⟩
      simp only [masks]
      rw [← h1]; congr 1; simp; omega

theorem foldl_bit (acc : List Nat) (i : Nat) : ∀ (l : List Edge) (s : Nat), (l.foldl (fun s e => if Region.binds .any e then s ||| 2 ^ e.on ||| acc.getD e.on 0 else s) s).testBit i = true →
    s.testBit i = true ∨ ∃ e ∈ l, Region.binds .any e = true ∧ (i = e.on ∨ (acc.getD e.on 0).testBit i = true)
  | [], s, h => .inl h
  | e :: l, s, h => by
    simp only [List.foldl_cons] at h
    rcases foldl_bit acc i l _ h with h1 | ⟨e', he', h2⟩
    · by_cases hb : Region.binds .any e = true
      · rw [if_pos hb] at h1
        simp only [Nat.testBit_or, Bool.or_eq_true, Nat.testBit_two_pow, decide_eq_true_eq] at h1
        rcases h1 with (h1 | h1) | h1
        · exact .inl h1
        · exact .inr ⟨e, by simp, hb, .inl h1.symm⟩
        · exact .inr ⟨e, by simp, hb, .inr h1⟩
      · rw [if_neg hb] at h1; exact .inl h1
    · exact .inr ⟨e', by simp [he'], h2⟩

/-- 'i' stands before 'j'. -/
def preB (ms : List Nat) (i j : Nat) : Bool := (ms.getD j 0).testBit i

theorem preB_edge {ops : Array Oper} {i j : Nat} {o : Oper} (ho : ops[j]? = some o) (h : preB (masks ops.toList []) i j = true) :
    ∃ e ∈ o.after.toList, Region.binds .any e = true ∧ (i = e.on ∨ preB (masks ops.toList []) i e.on = true) := by
  obtain ⟨acc', h1, h2, h3⟩ := masks_get ops.toList [] j o (by simpa using ho)
  unfold preB at h ⊢
  simp only [List.length_nil, Nat.zero_add] at h1 h2
  rw [List.getD_eq_getElem?_getD, h1] at h
  simp only [Option.getD_some, maskOf] at h
  rcases foldl_bit acc' i _ _ h with h4 | ⟨e, he, hb, h4⟩
  · simp at h4
  · refine ⟨e, he, hb, ?_⟩
    rcases h4 with h4 | h4
    · exact .inl h4
    · right
      by_cases hlt : e.on < acc'.length
      · rw [h3 _ hlt]; exact h4
      · rw [List.getD_eq_getElem?_getD, List.getElem?_eq_none (by omega)] at h4; simp at h4

/-! ### The order to walk in, and what is asked of it -/

def isQ : Op → Bool
  | .move _ | .assign _ | .pick .. | .load .. | .nilCheck _ | .binOp .. | .unOp .. | .convert .. | .makeInterface .. | .typeAssert .. | .makeFunc .. | .slice .. | .fieldAddr .. | .field .. | .indexAddr .. | .index .. | .lookup .. | .extract .. | .build .. => true
  | .call { callee := .builtin .len, .. } | .call { callee := .builtin .min, .. } | .call { callee := .builtin .max, .. } => true
  | _ => false
/-- Does it look into memory? -/
def readsQ : Op → Bool
  | .load .. | .convert .. | .lookup .. => true
  | .call { callee := .builtin .len, .. } => true
  | _ => false
/-- The slots that an operation reads. -/
def tmpsOf (ops : Array Oper) (o : Oper) : List Tmp :=
  (o.op.operands.toList.filterMap fun | .tmp t => some t | _ => none) ++ (match o.guard with | some (j, _) => ((ops[j]?).bind (·.dst)).toList | none => [])
/-- All slots that it names. -/
def namesOf (ops : Array Oper) (o : Oper) : List Tmp := o.dst.toList ++ tmpsOf ops o

/-- Does it leave memory as it is known, or does it set up a variable? -/
def isA : Op → Bool
  | .alloc _ => true
  | _ => false
/-- A literal: nobody writes it, where it may come before or behind an operation that does more. -/
def frozenB (ops : Array Oper) (ms : List Nat) (o : Oper) : Bool :=
  match o.op with
  | .buildSlice .. => (List.range ops.size).any fun i => match ops[i]? with
    | some p => p.dst == o.dst && (List.range ops.size).any fun j => j != i && (match ops[j]? with | some q => !isQ q.op && !isA q.op | none => false) && !preB ms i j && !preB ms j i
    | none => false
  | _ => false
def isL (ops : Array Oper) (ms : List Nat) (o : Oper) : Bool := isQ o.op || frozenB ops ms o

/-- Its slot is its own. -/
def ownB (ops : Array Oper) (seen : List Nat) (o : Oper) : Bool :=
  match o.dst with
  | some d => !(tmpsOf ops o).contains d && seen.all fun j => match ops[j]? with | some p => !(namesOf ops p).contains d | none => true
  | none => true
/-- May the operation be carried out late? -/
def freeB (ops : Array Oper) (ms : List Nat) (seen : List Nat) (o : Oper) : Bool := isL ops ms o && ownB ops seen o
/-- May the variable be set up late? -/
def freeA (ops : Array Oper) (seen : List Nat) (o : Oper) : Bool := isA o.op && o.guard.isNone && ownB ops seen o
/-- Every variable that was set up ahead of this is there. -/
def closedA (ops : Array Oper) (ms : List Nat) (seen : List Nat) : Bool :=
  seen.all fun j => match ops[j]? with
    | some p => !isA p.op || seen.any fun h => preB ms j h && (match ops[h]? with | some q => !isL ops ms q && !isA q.op | none => false)
    | none => true

def regStep (ops : Array Oper) (ms : List Nat) (seen rest : List Nat) (i : Nat) : Bool :=
  match ops[i]? with
  | none => false
  | some o =>
    -- what it waits for stands ahead; what it reads of the region stands before it
    (o.after.toList.all fun e => !Region.binds .any e || seen.contains e.on) &&
    (seen.all fun j => match ops[j]? with | some p => (match p.dst with | some d => !(tmpsOf ops o).contains d || preB ms j i | none => true) | none => true) &&
    (match o.guard with | some (j, _) => preB ms j i && seen.contains j | none => true) &&
    (if freeB ops ms seen o then !readsQ o.op || closedA ops ms seen
     else freeA ops seen o ||
      ((rest.all fun k => preB ms i k) && (seen.all fun j => match ops[j]? with | some p => !isA p.op || preB ms j i | none => true) &&
        (seen.all fun j => preB ms j i || match o.dst with
        | some d => (match ops[j]? with | some p => !(namesOf ops p).contains d | none => true)
        | none => true)))
def regOk (ops : Array Oper) (ms : List Nat) : List Nat → List Nat → Bool
  | [], seen => (List.range ops.size).all fun i => seen.contains i
  | i :: rest, seen => regStep ops ms seen rest i && !seen.contains i && regOk ops ms rest (i :: seen)

/-- The order: quiet operations ahead, as early as they may. -/
def takeQ (ops : Array Oper) (ms : List Nat) (effs : List Nat) : List Nat → List Nat × List Nat
  | [] => ([], [])
  | i :: l =>
    let (a, b) := takeQ ops ms effs l
    match ops[i]? with
    | some o => if isL ops ms o && effs.all (fun e => !preB ms e i) then (i :: a, b) else (a, i :: b)
    | none => (a, i :: b)
def asap (ops : Array Oper) (ms : List Nat) : Nat → List Nat → List Nat
  | 0, l => l
  | n + 1, l =>
    let effs := l.filter fun i => match ops[i]? with | some o => !isL ops ms o | none => true
    let (a, b) := takeQ ops ms effs l
    let hards := effs.filter fun i => match ops[i]? with | some o => !isA o.op | none => true
    match b.partition fun i => (match ops[i]? with | some o => isA o.op | none => false) && hards.all fun e => !preB ms e i with
    | ([], b) =>
      match b.partition fun i => effs.head? == some i with
      | ([e], b') => a ++ e :: asap ops ms n b'
      | _ => a ++ b
    | (x, b) => a ++ x ++ asap ops ms n b
def orderOf (ops : Array Oper) : List Nat := asap ops (masks ops.toList []) ops.size (List.range ops.size)

/-! ### What is asked of the abstract state -/

/-- An operation that was carried out yields the same now. -/
def stable (P : Program) (ops : Array Oper) (F : Fr) (H : Heap) (p : Nat) : Prop :=
  match ops[p]? with
  | some o => ∃ r, aq P o.op F H = some r ∧ ∀ d, o.dst = some d → F.get d = r
  | none => True
/-- All slots of the region, forgotten. -/
def forget (ops : Array Oper) (F : Fr) : Fr := F.filter fun p => !(ops.toList.any fun o => o.dst == some p.1)

def VReg (P : Program) (N : Nat) (ops : Array Oper) (ms : List Nat) (Q : AX → St → Prop) : List Nat → List Nat → List Nat → St → Prop
  | [], seen, pend, σ => Q .normal σ
  | i :: rest, seen, pend, σ => match ops[i]? with
    | none => False
    | some o => dstOk N o = true ∧
      (let run : Prop := if freeB ops ms seen o then ∃ r, lateV P o.op σ.fr σ.H = some r ∧ VReg P N ops ms Q rest (i :: seen) (if readsQ o.op then i :: pend else pend) { σ with fr := σ.fr.put o.dst r }
        else SOpR P o σ.fr σ.H σ.nx σ.df (fun r H nx df => (∀ p ∈ pend, preB ms p i = false → stable P ops (σ.fr.put o.dst r) H p) ∧ VReg P N ops ms Q rest (i :: seen) pend ⟨σ.fr.put o.dst r, H, nx, df⟩)
          (fun v H nx => Q (.panic v) ⟨forget ops σ.fr, H, nx, σ.df⟩)
      match o.guard with
      | none => run
      | some (j, want) => ∃ b, guardV ops σ.fr j = some b ∧ (b = some want → run) ∧ (b ≠ some want → VReg P N ops ms Q rest (i :: seen) pend { σ with fr := σ.fr.put o.dst skipV }))

end Go.Lom
