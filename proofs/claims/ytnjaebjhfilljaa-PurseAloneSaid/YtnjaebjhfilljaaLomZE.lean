/- Code on unknown contents: what it asks, and what follows: sound. No conditions of its own. -/
import Derived.Test.YtnjaebjhfilljaaLomZD
set_option linter.unusedSimpArgs false
set_option linter.unusedVariables false
set_option linter.constructorNameAsVariable false
namespace Go.Lom
open Go.RowKit

def gate (want b : Bool) (p q : Prop) : Prop :=
  match want, b with
  | true, true => p
  | false, false => p
  | _, _ => q

/-- The operations of a region, in the order of the text. -/
def xops (P : Program) (N : Nat) (call : CallX) (ops : Array Oper) : List Oper → (AX → St → Prop) → St → Prop
  | [], K, σ => K .normal σ
  | o :: rest, K, σ => req (dstOk N o)
    (let run : St → Prop := fun σ => xop P call o σ.fr σ.H σ.nx σ.df (fun r H nx df => xops P N call ops rest K ⟨σ.fr.put o.dst r, H, nx, df⟩) (fun v H nx => K (.panic v) ⟨σ.fr, H, nx, σ.df⟩)
     let pass : St → Prop := fun σ => xops P N call ops rest K { σ with fr := σ.fr.put o.dst skipV }
     match o.guard with
     | none => run σ
     | some (j, want) => match (ops[j]?).bind (·.dst) with
       | some d => match σ.fr.get d with
         | .bool b => fork b (gate want true (run { σ with fr := (d, .bool true) :: σ.fr }) (pass { σ with fr := (d, .bool true) :: σ.fr })) (gate want false (run { σ with fr := (d, .bool false) :: σ.fr }) (pass { σ with fr := (d, .bool false) :: σ.fr }))
         | .tup [] => pass σ
         | _ => False
       | none => False)

section
variable {P : Program} {N n0 : Nat} {call : CallX} {ops : Array Oper} {Q : AX → St → Prop}

theorem fr_lit {base : Nat → Prop} {w0 : Start} {Z : ZMap} {φ : PMap} {σ : St} {a : Act} {w : World} {d : Nat} {b : Bool} (hs : SRel P base w0 Z φ N σ a w) (hd : σ.fr.get d = .bool b) : SRel P base w0 Z φ N { σ with fr := (d, .bool b) :: σ.fr } a w := by
  refine ⟨fun t => ?_, hs.size, hs.df, hs.heap⟩
  simp only [Fr.get]
  by_cases ht : t = d
  · subst ht; rw [if_pos rfl, ← hd]; exact hs.fr t
  · rw [if_neg ht]; exact hs.fr t

theorem xops_ok (hc : CallXOk P call) : ∀ (l : List Oper) (k : Nat), (∀ j, l[j]? = ops[k + j]?) → ∀ (σ : St), xops P N call ops l Q σ →
    ∀ base w0 Z φ a w, SRel P base w0 Z φ N σ a w → wpOps P ops (Lift P base w0 N n0 Z φ Q) (List.range' k l.length) a w
  | [], k, _, σ, h, base, w0, Z, φ, a, w, hs => ⟨Z, φ, .normal, σ, ZLe.refl _, PLe0.refl _ _, trivial, hs, h⟩
  | o :: l, k, hl, σ, h, base, w0, Z, φ, a, w, hs => by
    have h0 : ops[k]? = some o := by simpa using (hl 0).symm
    have ih := xops_ok hc l (k + 1) (fun j => by have := hl (j + 1); simpa [Nat.add_assoc, Nat.add_comm 1 j] using this)
    simp only [List.length_cons, List.range'_succ, wpOps, h0]
    simp only [xops] at h
    rw [req_iff] at h
    obtain ⟨hd, h⟩ := h
    have step : ∀ σ : St, SRel P base w0 Z φ N σ a w → xop P call o σ.fr σ.H σ.nx σ.df (fun r H nx df => xops P N call ops l Q ⟨σ.fr.put o.dst r, H, nx, df⟩) (fun v H nx => Q (.panic v) ⟨σ.fr, H, nx, σ.df⟩) →
        o.wp P a w (wpOps P ops (Lift P base w0 N n0 Z φ Q) (List.range' (k + 1) l.length)) (Lift P base w0 N n0 Z φ Q) := fun σ hs hop =>
      wp_op (K := xops P N call ops l Q) hd (xop_ok hc hop) hs fun Z' φ' σ' a' w' hZ hφ hs' hk => wpOps_mono (fun e a w hl => hl.mono hZ hφ.to0 fun _ _ h => h) (ih σ' hk base w0 Z' φ' a' w' hs')
    have pass : ∀ σ : St, SRel P base w0 Z φ N σ a w → xops P N call ops l Q { σ with fr := σ.fr.put o.dst skipV } → wpOps P ops (Lift P base w0 N n0 Z φ Q) (List.range' (k + 1) l.length) (a.put o.dst Go.undef) w := fun σ hs hx => by
      have hlt := dstOk_lt hd hs.size
      refine ih _ hx base w0 Z φ _ w ⟨hs.fr.put hlt (rep_skip _ _), ?_, ?_, hs.heap⟩
      · cases hdst : o.dst <;> simp [Act.put, hs.size]
      · have : (a.put o.dst Go.undef).defers = a.defers := by cases hdst : o.dst <;> simp [Act.put]
        rw [this]; exact hs.df
    cases hg : o.guard with
    | none =>
      rw [hg] at h
      have hw : Region.wanted o (yielded ops a.tmps) = true := by simp [Region.wanted, hg]
      rw [if_pos hw]
      exact .inl (step σ hs h)
    | some p =>
      obtain ⟨j, want⟩ := p
      rw [hg] at h
      simp only at h
      split at h
      rotate_left
      · exact h.elim
      rename_i d hdj
      have gv : ∀ b, σ.fr.get d = .bool b → guardV ops σ.fr j = some (some b) := fun b hb => by simp [guardV, hdj, hb, yieldOf]
      split at h
      · rename_i b hb
        have hy := guard_yielded hs.fr hs.size (gv b hb)
        rw [fork_iff] at h
        have wt : ∀ c, b = c → (Region.wanted o (yielded ops a.tmps) = true ↔ c = want) := fun c hbc => by
          subst hbc
          simp only [Region.wanted, hg, hy]
          cases b <;> cases want <;> simp
        cases hbv : b with
        | true =>
          have hlit := fr_lit hs (by rw [hb, hbv])
          have h := h.1 hbv
          cases want with
          | true => rw [if_pos ((wt true hbv).2 rfl)]; exact .inl (step _ hlit h)
          | false => rw [if_neg (fun e => by cases (wt true hbv).1 e)]; exact pass _ hlit h
        | false =>
          have hlit := fr_lit hs (by rw [hb, hbv])
          have h := h.2 hbv
          cases want with
          | true => rw [if_neg (fun e => by cases (wt false hbv).1 e)]; exact pass _ hlit h
          | false => rw [if_pos ((wt false hbv).2 rfl)]; exact .inl (step _ hlit h)
      · rename_i hb
        have hgv : guardV ops σ.fr j = some none := by simp [guardV, hdj, hb, yieldOf]
        have hy := guard_yielded hs.fr hs.size hgv
        have hw : ¬ Region.wanted o (yielded ops a.tmps) = true := by simp [Region.wanted, hg, hy]
        rw [if_neg hw]
        exact pass σ hs h
      · exact h.elim

theorem swp_xops (hc : CallXOk P call) {id : Nat} {σ : St} (h : xops P N call ops ops.toList Q σ) : SWp P N n0 (.region id ops false) Q σ := by
  intro base w0 Z φ a w hs
  refine wp_region ?_
  have := xops_ok (n0 := n0) (Q := Q) hc ops.toList 0 (fun j => by simp) σ h base w0 Z φ a w hs
  rw [List.range_eq_range']
  simpa using this
end

/-! ### Regions that draw their order -/
def xlate (P : Program) (op : Op) (F : Fr) (H : Heap) (K : AV → Prop) : Prop :=
  match op with
  | .buildSlice t len ps => optK (lateV P (.buildSlice t len ps) F H) K
  | op => xq P op F H K
theorem xlate_ok {P : Program} {op : Op} {F : Fr} {H : Heap} {K : AV → Prop} (h : xlate P op F H K) : ∃ r, lateV P op F H = some r ∧ K r := by
  unfold xlate at h
  split at h
  · exact optK_iff.1 h
  · rename_i hb
    obtain ⟨r, h1, h2⟩ := xq_ok h
    rcases lateV_cases P F F H H op with ⟨t, len, ps, rfl⟩ | ⟨h3, _⟩
    · exact (hb t len ps rfl).elim
    · exact ⟨r, by rw [h3]; exact h1, h2⟩

def holdsV (o : Option Nat) (F : Fr) (r : AV) : Prop := match o with
  | some d => F.get d = r
  | none => True
def xstab (P : Program) (ops : Array Oper) (ms : List Nat) (i : Nat) (F : Fr) (H : Heap) : List Nat → Prop → Prop
  | [], K => K
  | p :: l, K => match preB ms p i with
    | true => xstab P ops ms i F H l K
    | false => (match ops[p]? with
      | some o => xq P o.op F H (holdsV o.dst F)
      | none => True) ∧ xstab P ops ms i F H l K
theorem xstab_ok {P : Program} {ops : Array Oper} {ms : List Nat} {i : Nat} {F : Fr} {H : Heap} {K : Prop} : ∀ (l : List Nat), xstab P ops ms i F H l K → (∀ p ∈ l, preB ms p i = false → stable P ops F H p) ∧ K
  | [], h => ⟨fun p hp => by simp at hp, h⟩
  | p :: l, h => by
    unfold xstab at h
    split at h
    · rename_i hpre
      obtain ⟨h1, h2⟩ := xstab_ok l h
      refine ⟨fun q hq hqp => ?_, h2⟩
      rcases List.mem_cons.1 hq with rfl | hq
      · rw [hpre] at hqp; cases hqp
      · exact h1 q hq hqp
    · obtain ⟨h0, h⟩ := h
      obtain ⟨h1, h2⟩ := xstab_ok l h
      refine ⟨fun q hq hqp => ?_, h2⟩
      rcases List.mem_cons.1 hq with rfl | hq
      · unfold stable
        split at h0
        · rename_i o ho
          rw [ho]
          obtain ⟨r, hr, hs⟩ := xq_ok h0
          exact ⟨r, hr, fun d hd => by rw [hd] at hs; exact hs⟩
        · rename_i ho; rw [ho]; trivial
      · exact h1 q hq hqp

def consIf (b : Bool) (i : Nat) (l : List Nat) : List Nat := match b with
  | true => i :: l
  | false => l
theorem consIf_eq (b : Bool) (i : Nat) (l : List Nat) : consIf b i l = if b then i :: l else l := by cases b <;> rfl
def setLit (d : Nat) (b : Bool) : Fr → Fr
  | [] => []
  | (t, v) :: l => match Nat.beq t d with
    | true => (t, match v with | .bool _ => .bool b | v => v) :: l
    | false => (t, v) :: setLit d b l
theorem setLit_eq {d : Nat} {b : Bool} : ∀ {F : Fr}, F.get d = .bool b → setLit d b F = F
  | [], _ => rfl
  | (t, v) :: l, h => by
    unfold setLit
    simp only [Fr.get] at h
    split
    · rename_i e
      have e := Nat.eq_of_beq_eq_true e
      rw [if_pos e.symm] at h
      subst h
      rfl
    · rename_i e
      have e : ¬ d = t := fun e' => by subst e'; simp at e
      rw [if_neg e] at h
      rw [setLit_eq h]
def slotOf (ops : Array Oper) (j : Nat) : Nat := match (ops[j]?).bind (·.dst) with
  | some d => d
  | none => 0
theorem setLit_guard {ops : Array Oper} {F : Fr} {j : Nat} {b : Bool} (h : guardV ops F j = some (some b)) : setLit (slotOf ops j) b F = F := by
  unfold guardV at h
  unfold slotOf
  split at h
  · rename_i d hd
    rw [hd]
    refine setLit_eq ?_
    unfold yieldOf at h
    split at h <;> simp_all
  · simp at h
def xreg (P : Program) (N : Nat) (call : CallX) (ops : Array Oper) (ms : List Nat) (K : AX → St → Prop) : List Nat → List Nat → List Nat → St → Prop
  | [], seen, pend, σ => K .normal σ
  | i :: rest, seen, pend, σ => match ops[i]? with
    | none => False
    | some o => req (dstOk N o)
      (let run : St → Prop := fun σ => match freeB ops ms seen o with
        | true => xlate P o.op σ.fr σ.H (fun r => xreg P N call ops ms K rest (i :: seen) (consIf (readsQ o.op) i pend) { σ with fr := σ.fr.put o.dst r })
        | false => xop P call o σ.fr σ.H σ.nx σ.df (fun r H nx df => xstab P ops ms i (σ.fr.put o.dst r) H pend (xreg P N call ops ms K rest (i :: seen) pend ⟨σ.fr.put o.dst r, H, nx, df⟩)) (fun v H nx => K (.panic v) ⟨forget ops σ.fr, H, nx, σ.df⟩)
       let pass : St → Prop := fun σ => xreg P N call ops ms K rest (i :: seen) pend { σ with fr := σ.fr.put o.dst skipV }
       match o.guard with
       | none => run σ
       | some (j, want) => match guardV ops σ.fr j with
         | some none => pass σ
         | some (some b) => fork b (gate want true (run { σ with fr := setLit (slotOf ops j) true σ.fr }) (pass { σ with fr := setLit (slotOf ops j) true σ.fr })) (gate want false (run { σ with fr := setLit (slotOf ops j) false σ.fr }) (pass { σ with fr := setLit (slotOf ops j) false σ.fr }))
         | none => False)

theorem SOpR.mono {P : Program} {o : Oper} {F : Fr} {H : Heap} {nx : Nat} {df : List ADef} {K K' : AV → Heap → Nat → List ADef → Prop} {QP : AV → Heap → Nat → Prop} (hk : ∀ r H nx df, K r H nx df → K' r H nx df) (h : SOpR P o F H nx df K QP) : SOpR P o F H nx df K' QP := by
  obtain ⟨dst, op, ty, pos, after, guard⟩ := o
  have plain : ∀ op : Op, ((∃ r, aq P op F H = some r ∧ K r H nx df) ∨ (∃ r H' nx', ae P op F H nx = some (r, H', nx') ∧ K r H' nx' df) ∨ (isVar op = false ∧ ∃ r H' nx', AeOk P ⟨dst, op, ty, pos, after, guard⟩ F H nx r H' nx' ∧ K r H' nx' df)) →
      ((∃ r, aq P op F H = some r ∧ K' r H nx df) ∨ (∃ r H' nx', ae P op F H nx = some (r, H', nx') ∧ K' r H' nx' df) ∨ (isVar op = false ∧ ∃ r H' nx', AeOk P ⟨dst, op, ty, pos, after, guard⟩ F H nx r H' nx' ∧ K' r H' nx' df)) := by
    rintro op (⟨r, h1, h2⟩ | ⟨r, H', nx', h1, h2⟩ | ⟨h0, r, H', nx', h1, h2⟩)
    · exact .inl ⟨r, h1, hk _ _ _ _ h2⟩
    · exact .inr (.inl ⟨r, H', nx', h1, hk _ _ _ _ h2⟩)
    · exact .inr (.inr ⟨h0, r, H', nx', h1, hk _ _ _ _ h2⟩)
  cases op with
  | panic x => exact h
  | defer c =>
    obtain ⟨callee, args, ats⟩ := c
    cases callee with
    | value f =>
      obtain ⟨k, first, cap, h1, h2, h3⟩ := h
      exact ⟨k, first, cap, h1, h2, hk _ _ _ _ h3⟩
    | invoke _ _ => exact h
    | builtin _ => exact h
  | call c =>
    obtain ⟨callee, args, ats⟩ := c
    cases callee with
    | value f =>
      obtain ⟨k, first, cap, h1, h2, h3⟩ := h
      exact ⟨k, first, cap, h1, h2, h3.mono fun x H' nx' hx => by cases x with
        | ret v => exact hk _ _ _ _ hx
        | panic v => exact hx⟩
    | invoke _ _ => exact plain _ h
    | builtin _ => exact plain _ h
  | _ => exact plain _ h

theorem xreg_ok {P : Program} {N : Nat} {call : CallX} (hc : CallXOk P call) {ops : Array Oper} {ms : List Nat} {K : AX → St → Prop} : ∀ (l seen pend : List Nat) (σ : St), xreg P N call ops ms K l seen pend σ → VReg P N ops ms K l seen pend σ
  | [], seen, pend, σ, h => h
  | i :: l, seen, pend, σ, h => by
    unfold xreg at h
    unfold VReg
    split at h
    · exact h.elim
    rename_i o ho
    rw [ho]
    simp only
    rw [req_iff] at h
    refine ⟨h.1, ?_⟩
    have h := h.2
    simp only at h
    have run : (match freeB ops ms seen o with
        | true => xlate P o.op σ.fr σ.H (fun r => xreg P N call ops ms K l (i :: seen) (consIf (readsQ o.op) i pend) { σ with fr := σ.fr.put o.dst r })
        | false => xop P call o σ.fr σ.H σ.nx σ.df (fun r H nx df => xstab P ops ms i (σ.fr.put o.dst r) H pend (xreg P N call ops ms K l (i :: seen) pend ⟨σ.fr.put o.dst r, H, nx, df⟩)) (fun v H nx => K (.panic v) ⟨forget ops σ.fr, H, nx, σ.df⟩)) →
        (if freeB ops ms seen o then ∃ r, lateV P o.op σ.fr σ.H = some r ∧ VReg P N ops ms K l (i :: seen) (if readsQ o.op then i :: pend else pend) { σ with fr := σ.fr.put o.dst r }
        else SOpR P o σ.fr σ.H σ.nx σ.df (fun r H nx df => (∀ p ∈ pend, preB ms p i = false → stable P ops (σ.fr.put o.dst r) H p) ∧ VReg P N ops ms K l (i :: seen) pend ⟨σ.fr.put o.dst r, H, nx, df⟩)
          (fun v H nx => K (.panic v) ⟨forget ops σ.fr, H, nx, σ.df⟩)) := by
      intro hr
      split at hr
      · rename_i hf
        rw [if_pos hf]
        obtain ⟨r, h1, h2⟩ := xlate_ok hr
        refine ⟨r, h1, ?_⟩
        rw [← consIf_eq]
        exact xreg_ok hc l _ _ _ h2
      · rename_i hf
        rw [if_neg (by rw [hf]; simp)]
        exact (xop_ok hc hr).mono fun r H nx df hx => let ⟨h1, h2⟩ := xstab_ok _ hx; ⟨h1, xreg_ok hc l _ _ _ h2⟩
    have pass : xreg P N call ops ms K l (i :: seen) pend { σ with fr := σ.fr.put o.dst skipV } → VReg P N ops ms K l (i :: seen) pend { σ with fr := σ.fr.put o.dst skipV } := fun h => xreg_ok hc l _ _ _ h
    cases hg : o.guard with
    | none => rw [hg] at h; exact run h
    | some p =>
      obtain ⟨j, want⟩ := p
      rw [hg] at h
      simp only at h ⊢
      split at h
      · rename_i hgv
        exact ⟨none, hgv, (fun e => nomatch e), fun _ => pass h⟩
      · rename_i b hgv
        have hlit := setLit_guard hgv
        refine ⟨some b, hgv, fun e => ?_, fun e => ?_⟩
        · injection e with e; subst e
          cases b <;> (simp only [hlit] at h; exact run h)
        · have e : b ≠ want := fun e' => e (by rw [e'])
          cases b <;> cases want <;> first | exact absurd rfl e | (simp only [hlit] at h; exact pass h)
      · exact h.elim

/-! ### Code -/
def nLoops : Code → Nat
  | .seq a b => nLoops a + nLoops b
  | .cond _ a b => nLoops a + nLoops b
  | .block _ c => nLoops c
  | .scope c => nLoops c
  | .loop c => nLoops c + 1
  | _ => 0
/-- The bodies of the loops, in the order of the text. -/
def loopsOf : Code → List Code
  | .seq a b => loopsOf a ++ loopsOf b
  | .cond _ a b => loopsOf a ++ loopsOf b
  | .block _ c => loopsOf c
  | .scope c => loopsOf c
  | .loop c => c :: loopsOf c
  | _ => []
theorem loopsOf_length : ∀ c : Code, (loopsOf c).length = nLoops c := by
  intro c
  induction c <;> simp_all [loopsOf, nLoops]

def litSlot (c : Operand) (b : Bool) (σ : St) : St :=
  match c with
  | .tmp d => { σ with fr := (d, .bool b) :: σ.fr }
  | _ => σ

abbrev LoopX := Nat → St → (AX → St → Prop) → Prop
def xc (P : Program) (N : Nat) (call : CallX) (lf : LoopX) : Code → Nat → (AX → St → Prop) → St → Prop
  | .skip, _, K, σ => K .normal σ
  | .region _ ops draw, _, K, σ => match draw with
    | true => req (P.follows .mixedOrders && regOk ops (masks ops.toList []) (orderOf ops) []) (xreg P N call ops (masks ops.toList []) K (orderOf ops) [] [] σ)
    | false => xops P N call ops ops.toList K σ
  | .seq a b, j, K, σ => xc P N call lf a j (AX.then (xc P N call lf b (j + nLoops a) K) K) σ
  | .cond c a b, j, K, σ => match ev σ.fr c with
    | .bool t => fork t (xc P N call lf a j K (litSlot c true σ)) (xc P N call lf b (j + nLoops a) K (litSlot c false σ))
    | _ => False
  | .block id c, j, K, σ => xc P N call lf c j (AX.inBlock id K) σ
  | .loop _, j, K, σ => lf j σ K
  | .scope c, j, K, σ => xc P N call lf c j K σ
  | .label _, _, K, σ => K .normal σ
  | .exit id, _, K, σ => K (.exit id) σ
  | .ret, _, K, σ => K .ret σ
  | _, _, _, _ => False

def LoopsOk (P : Program) (N n0 : Nat) (lf : LoopX) (j : Nat) (l : List Code) : Prop := ∀ i c, l[i]? = some c → ∀ σ Q, lf (j + i) σ Q → SWp P N n0 (.loop c) Q σ

theorem LoopsOk.left {P : Program} {N n0 : Nat} {lf : LoopX} {j : Nat} {a b : List Code} (h : LoopsOk P N n0 lf j (a ++ b)) : LoopsOk P N n0 lf j a := fun i c hi => h i c (by rw [List.getElem?_append_left (List.getElem?_eq_some_iff.1 hi).1]; exact hi)
theorem LoopsOk.right {P : Program} {N n0 : Nat} {lf : LoopX} {j : Nat} {a b : List Code} (h : LoopsOk P N n0 lf j (a ++ b)) : LoopsOk P N n0 lf (j + a.length) b := fun i c hi σ Q hq => h (a.length + i) c (by rw [List.getElem?_append_right (by omega)]; simpa using hi) σ Q (by rw [← Nat.add_assoc]; exact hq)

theorem swp_lit {P : Program} {N n0 : Nat} {c : Operand} {b : Bool} {x : Code} {Q : AX → St → Prop} {σ : St} (hc : ev σ.fr c = .bool b) (h : SWp P N n0 x Q (litSlot c b σ)) : SWp P N n0 x Q σ := by
  cases c with
  | tmp d => exact fun base w0 Z φ a w hs => h base w0 Z φ a w (fr_lit hs hc)
  | _ => exact h

theorem xc_ok {P : Program} {N n0 : Nat} {call : CallX} {lf : LoopX} (hc : CallXOk P call) : ∀ (c : Code) (j : Nat) (K : AX → St → Prop) (σ : St), LoopsOk P N n0 lf j (loopsOf c) → xc P N call lf c j K σ → SWp P N n0 c K σ
  | .skip, j, K, σ, hl, h => swp_skip h
  | .region id ops draw, j, K, σ, hl, h => by
    simp only [xc] at h
    cases draw with
    | true =>
      simp only [req_iff, Bool.and_eq_true] at h
      exact swp_draw h.1.1 (orderOf ops) h.1.2 (xreg_ok hc _ _ _ _ h.2)
    | false => exact swp_xops hc h
  | .seq a b, j, K, σ, hl, h => by
    simp only [xc] at h
    refine swp_seq ((xc_ok hc a j _ σ hl.left h).mono fun x τ hx => ?_)
    cases x with
    | normal => exact xc_ok hc b _ K τ (by have := hl.right; rwa [loopsOf_length] at this) hx
    | exit i => exact hx
    | ret => exact hx
    | panic v => exact hx
  | .cond c a b, j, K, σ, hl, h => by
    simp only [xc] at h
    split at h
    · rename_i t ht
      rw [fork_iff] at h
      exact swp_cond ht (fun e => swp_lit (by rw [ht, e]) (xc_ok hc a j K _ hl.left (h.1 e))) fun e => swp_lit (by rw [ht, e]) (xc_ok hc b _ K _ (by have := hl.right; rwa [loopsOf_length] at this) (h.2 e))
    · exact h.elim
  | .block id c, j, K, σ, hl, h => swp_block (xc_ok hc c j _ σ hl h)
  | .loop c, j, K, σ, hl, h => hl 0 c rfl σ K h
  | .scope c, j, K, σ, hl, h => swp_scope (xc_ok hc c j K σ hl h)
  | .label l, j, K, σ, hl, h => swp_label h
  | .exit id, j, K, σ, hl, h => swp_exit h
  | .ret, j, K, σ, hl, h => swp_ret h
  | .goto _, _, _, _, _, h => h.elim
  | .rangeFunc _ _ _ _, _, _, _, _, h => h.elim
  | .refuse _, _, _, _, _, h => h.elim

/-! ### Calls -/
def xbody (P : Program) (fn : Func) (R : AE → Heap → Nat → Prop) : AX → St → Prop := fun x σ =>
  match σ.df with
  | [] => match x with
    | .normal => optK (ares P fn σ.fr σ.H) fun v => R (.ret v) σ.H σ.nx
    | .ret => optK (ares P fn σ.fr σ.H) fun v => R (.ret v) σ.H σ.nx
    | .panic v => R (.panic v) σ.H σ.nx
    | .exit _ => False
  | _ => False
theorem xbody_ok {P : Program} {fn : Func} {R : AE → Heap → Nat → Prop} {x : AX} {σ : St} (h : xbody P fn R x σ) : BodyQ P fn R x σ := by
  obtain ⟨fr, H, nx, df⟩ := σ
  cases df with
  | nil =>
    cases x with
    | normal => exact optK_iff.1 h
    | ret => exact optK_iff.1 h
    | panic v => exact h
    | exit i => exact h.elim
  | cons d ds => cases x <;> exact h.elim

structure Tab where
  fn : FuncId → Option (List AV → Heap → Nat → (AE → Heap → Nat → Prop) → Prop)
  lp : FuncId → Nat → LoopX
structure TabOk (P : Program) (T : Tab) : Prop where
  fn : ∀ k c, T.fn k = some c → ∀ avs H nx R, c avs H nx R → SCall P k avs H nx R
  lp : ∀ k fn c, P.funcs[k]? = some fn → fn.body = some c → ∀ n0, LoopsOk P fn.ntmps n0 (T.lp k n0) 0 (loopsOf c)

/-- A call whose code is walked through. -/
def xinl (P : Program) (call : CallX) (lp : FuncId → Nat → LoopX) : CallX := fun k avs H nx R =>
  match P.funcs[k]? with
  | none => False
  | some fn => match fn.body with
    | none => False
    | some c => req (Nat.ble avs.length fn.ntmps) (xc P fn.ntmps call (lp k nx) c 0 (xbody P fn R) ⟨fr0 avs, H, nx, []⟩)
theorem xinl_ok {P : Program} {call : CallX} {lp : FuncId → Nat → LoopX} (hc : CallXOk P call) {k : FuncId} (hl : ∀ fn c, P.funcs[k]? = some fn → fn.body = some c → ∀ n0, LoopsOk P fn.ntmps n0 (lp k n0) 0 (loopsOf c)) {avs : List AV} {H : Heap} {nx : Nat} {R : AE → Heap → Nat → Prop} (h : xinl P call lp k avs H nx R) : SCall P k avs H nx R := by
  unfold xinl at h
  split at h
  · exact h.elim
  rename_i fn hf
  split at h
  · exact h.elim
  rename_i c hb
  rw [req_iff] at h
  have hle : avs.length ≤ fn.ntmps := Nat.le_of_ble_eq_true h.1
  refine scall_of hf hb ?_
  have e : avs.length + (fn.ntmps - avs.length) = fn.ntmps := by omega
  rw [e]
  exact (xc_ok hc c 0 _ _ (hl fn c hf hb nx) h.2).mono fun x σ hx => xbody_ok hx
def xcall (P : Program) (T : Tab) : Nat → CallX
  | 0 => fun _ _ _ _ _ => False
  | n + 1 => fun k avs H nx R => match T.fn k with
    | some c => c avs H nx R
    | none => xinl P (xcall P T n) T.lp k avs H nx R
theorem xcall_ok {P : Program} {T : Tab} (hT : TabOk P T) : ∀ n, CallXOk P (xcall P T n)
  | 0 => fun k avs H nx R h => h.elim
  | n + 1 => fun k avs H nx R h => by
    unfold xcall at h
    split at h
    · rename_i c hk
      exact hT.fn k c hk avs H nx R h
    · exact xinl_ok (xcall_ok hT n) (fun fn c hf hb => hT.lp k fn c hf hb) h
end Go.Lom
