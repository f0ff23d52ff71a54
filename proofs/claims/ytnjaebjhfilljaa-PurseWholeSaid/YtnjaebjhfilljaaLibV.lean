import Derived.Test.YtnjaebjhfilljaaLibB
import Derived.Below
import Derived.ChangeSame
/- The evaluator over abstract states: it is sound. -/
set_option linter.unusedSimpArgs false
set_option linter.unusedVariables false
namespace Go.Lom
open Go.RowKit

/-- Equality of abstract values, as far as it is decided. -/
def avEq : Nat → AV → AV → Bool
  | 0, _, _ => false
  | n + 1, x, y =>
    let all : List AV → List AV → Bool := fun a b => a.length == b.length && (a.zip b).all fun p => avEq n p.1 p.2
    match x, y with
    | .undef, .undef | .nilp, .nilp | .nils, .nils | .emp, .emp | .nilm, .nilm | .nilf, .nilf | .nili, .nili => true
    | .bool a, .bool b => a == b
    | .int j a, .int k b => j == k && a == b
    | .str a, .str b => a == b
    | .ptr b i o, .ptr c j p => b == c && i == j && o == p
    | .rp e o, .rp f p => all e f && o == p
    | .sl b s o l c, .sl b' s' o' l' c' => b == b' && s == s' && o == o' && l == l' && c == c'
    | .rs xs, .rs ys => xs.length == ys.length && (xs.zip ys).all fun p => all p.1 p.2
    | .mp b, .mp c => b == c
    | .fn f a c, .fn g b d => f == g && all a b && all c d
    | .iface t v, .iface u w => t == u && avEq n v w
    | .agg a, .agg b => all a b
    | .tup a, .tup b => all a b
    | _, _ => false

theorem all_eq {n : Nat} (ih : ∀ x y, avEq n x y = true → x = y) {a b : List AV} (h : (a.length == b.length && (a.zip b).all fun p => avEq n p.1 p.2) = true) : a = b := by
  simp only [Bool.and_eq_true, beq_iff_eq, List.all_eq_true] at h
  obtain ⟨h1, h2⟩ := h
  apply List.ext_getElem h1
  intro i hi hj
  exact ih _ _ (h2 (a[i], b[i]) (List.mem_iff_getElem.2 ⟨i, by simp; omega, by simp⟩))

theorem avEq_sound : ∀ (n : Nat) (x y : AV), avEq n x y = true → x = y
  | 0, _, _, h => by simp [avEq] at h
  | n + 1, x, y, h => by
    have ih := avEq_sound n
    unfold avEq at h
    simp only at h
    split at h <;> try (first | rfl | (cases h; done))
    · simp only [beq_iff_eq] at h; rw [h]
    · simp only [Bool.and_eq_true, beq_iff_eq] at h; rw [h.1, h.2]
    · simp only [beq_iff_eq] at h; rw [h]
    · simp only [Bool.and_eq_true, beq_iff_eq] at h; rw [h.1.1, h.1.2, h.2]
    · rw [Bool.and_eq_true] at h
      rw [all_eq ih h.1, beq_iff_eq.1 h.2]
    · simp only [Bool.and_eq_true, beq_iff_eq] at h; rw [h.1.1.1.1, h.1.1.1.2, h.1.1.2, h.1.2, h.2]
    · rename_i xs ys
      rw [Bool.and_eq_true] at h
      have h1 := beq_iff_eq.1 h.1
      have : xs = ys := by
        apply List.ext_getElem h1
        intro i hi hj
        exact all_eq ih (List.all_eq_true.1 h.2 (xs[i], ys[i]) (List.mem_iff_getElem.2 ⟨i, by simp; omega, by simp⟩))
      rw [this]
    · simp only [beq_iff_eq] at h; rw [h]
    · rw [Bool.and_eq_true, Bool.and_eq_true] at h
      rw [beq_iff_eq.1 h.1.1, all_eq ih h.1.2, all_eq ih h.2]
    · rw [Bool.and_eq_true] at h
      rw [beq_iff_eq.1 h.1, ih _ _ h.2]
    · rw [all_eq ih h]
    · rw [all_eq ih h]

/-- What calls answer. -/
abbrev CallF := FuncId → List AV → Heap → Nat → Option (AE × Heap × Nat)

def runOp (P : Program) (call : CallF) (o : Oper) (F : Fr) (H : Heap) (nx : Nat) (df : List ADef) : Option (AE × Heap × Nat × List ADef) :=
  match o.op with
  | .panic x => match ev F x with
    | .iface t v => some (.panic (.iface t v), H, nx, df)
    | _ => none
  | .defer c => match c.callee with
    | .value f => do
      let (k, first, cap) ← calleeOf (ev F f)
      if funcOk P k then some (.ret .undef, H, nx, ⟨k, first ++ c.args.toList.map (ev F) ++ cap⟩ :: df) else none
    | _ => none
  | .call { callee := .value f, args, .. } => do
      let (k, first, cap) ← calleeOf (ev F f)
      if funcOk P k then (call k (first ++ args.toList.map (ev F) ++ cap) H nx).map fun (e, H', nx') => (e, H', nx', df) else none
  | _ => match aq P o.op F H with
    | some r => some (.ret r, H, nx, df)
    | none => (ae P o.op F H nx).map fun (r, H', nx') => (.ret r, H', nx', df)

/-- May the operation be run? (none: it can't be told) -/
def wantedA (ops : Array Oper) (F : Fr) (o : Oper) : Option Bool :=
  match o.guard with
  | none => some true
  | some (j, want) => (guardV ops F j).map fun b => b == some want

def runOps (P : Program) (N : Nat) (call : CallF) (ops : Array Oper) : List Oper → St → Option (AX × St)
  | [], σ => some (.normal, σ)
  | o :: rest, σ => if dstOk N o then
    match wantedA ops σ.fr o with
    | some true => match runOp P call o σ.fr σ.H σ.nx σ.df with
      | some (.ret r, H, nx, df) => runOps P N call ops rest ⟨σ.fr.put o.dst r, H, nx, df⟩
      | some (.panic v, H, nx, _) => some (.panic v, ⟨σ.fr, H, nx, σ.df⟩)
      | none => none
    | some false => runOps P N call ops rest { σ with fr := σ.fr.put o.dst skipV }
    | none => none
    else none

def stableB (P : Program) (ops : Array Oper) (F : Fr) (H : Heap) (p : Nat) : Bool :=
  match ops[p]? with
  | some o => match aq P o.op F H with
    | some r => match o.dst with
      | some d => avEq 20 (F.get d) r
      | none => true
    | none => false
  | none => true

def runReg (P : Program) (N : Nat) (call : CallF) (ops : Array Oper) (ms : List Nat) : List Nat → List Nat → List Nat → St → Option (AX × St)
  | [], seen, pend, σ => some (.normal, σ)
  | i :: rest, seen, pend, σ => match ops[i]? with
    | none => none
    | some o => if dstOk N o then
      match wantedA ops σ.fr o with
      | some true => if freeB ops ms seen o then
          match lateV P o.op σ.fr σ.H with
          | some r => runReg P N call ops ms rest (i :: seen) (if readsQ o.op then i :: pend else pend) { σ with fr := σ.fr.put o.dst r }
          | none => none
        else match runOp P call o σ.fr σ.H σ.nx σ.df with
          | some (.ret r, H, nx, df) => if pend.all fun p => preB ms p i || stableB P ops (σ.fr.put o.dst r) H p then runReg P N call ops ms rest (i :: seen) pend ⟨σ.fr.put o.dst r, H, nx, df⟩ else none
          | some (.panic v, H, nx, _) => some (.panic v, ⟨forget ops σ.fr, H, nx, σ.df⟩)
          | none => none
      | some false => runReg P N call ops ms rest (i :: seen) pend { σ with fr := σ.fr.put o.dst skipV }
      | none => none
      else none

def loopN : Nat → (St → Option (AX × St)) → St → Option (AX × St)
  | 0, _, _ => none
  | n + 1, f, σ => match f σ with
    | some (.normal, σ') => loopN n f σ'
    | r => r

def runC (P : Program) (N : Nat) (call : CallF) (lf : Nat) : Code → St → Option (AX × St)
  | .skip, σ => some (.normal, σ)
  | .region _ ops draw, σ => if draw then
      if P.follows .mixedOrders && regOk ops (masks ops.toList []) (orderOf ops) [] then runReg P N call ops (masks ops.toList []) (orderOf ops) [] [] σ else none
    else runOps P N call ops ops.toList σ
  | .seq a b, σ => match runC P N call lf a σ with
    | some (.normal, σ') => runC P N call lf b σ'
    | r => r
  | .cond c a b, σ => match ev σ.fr c with
    | .bool t => if t then runC P N call lf a σ else runC P N call lf b σ
    | _ => none
  | .block id c, σ => match runC P N call lf c σ with
    | some (.exit i, σ') => some (if i = id then .normal else .exit i, σ')
    | r => r
  | .loop c, σ => loopN lf (runC P N call lf c) σ
  | .scope c, σ => runC P N call lf c σ
  | .label _, σ => some (.normal, σ)
  | .exit id, σ => some (.exit id, σ)
  | .ret, σ => some (.ret, σ)
  | _, _ => none

/-- The call is right. -/
def CallOk (P : Program) (call : CallF) : Prop := ∀ k avs H nx e H' nx', call k avs H nx = some (e, H', nx') → SCall P k avs H nx fun x G m => x = e ∧ G = H' ∧ m = nx'

section
variable {P : Program} {N n0 : Nat} {call : CallF} {ops : Array Oper}

theorem runOp_sound (hc : CallOk P call) {o : Oper} {F : Fr} {H : Heap} {nx : Nat} {df : List ADef} {e : AE} {H' : Heap} {nx' : Nat} {df' : List ADef} (h : runOp P call o F H nx df = some (e, H', nx', df'))
    {K : AV → Heap → Nat → List ADef → Prop} {QP : AV → Heap → Nat → Prop} (hK : ∀ r, e = .ret r → K r H' nx' df') (hQ : ∀ v, e = .panic v → QP v H' nx') : SOpR P o F H nx df K QP := by
  have plain : (match aq P o.op F H with
    | some r => some (AE.ret r, H, nx, df)
    | none => (ae P o.op F H nx).map fun (r, H', nx') => (.ret r, H', nx', df)) = some (e, H', nx', df') → (∃ r, aq P o.op F H = some r ∧ K r H nx df) ∨ (∃ r H' nx', ae P o.op F H nx = some (r, H', nx') ∧ K r H' nx' df) ∨ (isVar o.op = false ∧ ∃ r H' nx', AeOk P o F H nx r H' nx' ∧ K r H' nx' df) := by
    intro h
    cases hq : aq P o.op F H with
    | some r =>
      rw [hq] at h
      simp only [Option.some.injEq, Prod.mk.injEq] at h
      obtain ⟨h1, h2, h3, h4⟩ := h
      subst h2 h3 h4
      exact .inl ⟨r, rfl, hK r h1.symm⟩
    | none =>
      rw [hq] at h
      simp only [Option.map_eq_some_iff] at h
      obtain ⟨⟨r, G, m⟩, hae, h⟩ := h
      simp only [Prod.mk.injEq] at h
      obtain ⟨h1, h2, h3, h4⟩ := h
      subst h2 h3 h4
      exact .inr (.inl ⟨r, G, m, hae, hK r h1.symm⟩)
  obtain ⟨dst, op, ty, pos, after, guard⟩ := o
  unfold runOp at h
  unfold SOpR
  simp only at h plain ⊢
  split at h
  · rename_i x
    split at h
    · rename_i t v hx
      simp only [Option.some.injEq, Prod.mk.injEq] at h
      obtain ⟨h1, h2, h3, h4⟩ := h
      subst h2 h3
      simp only [hx]
      exact hQ _ h1.symm
    · cases h
  · rename_i c
    split at h
    · rename_i f hcal
      simp only [Option.bind_eq_bind, Option.bind_eq_some_iff] at h
      obtain ⟨⟨k, first, cap⟩, hco, h⟩ := h
      simp only at h
      split at h
      · rename_i hok
        simp only [Option.some.injEq, Prod.mk.injEq] at h
        obtain ⟨h1, h2, h3, h4⟩ := h
        subst h2 h3 h4
        simp only [hcal]
        exact ⟨k, first, cap, hco, hok, hK _ h1.symm⟩
      · cases h
    · cases h
  · rename_i f args ats
    simp only [Option.bind_eq_bind, Option.bind_eq_some_iff] at h
    obtain ⟨⟨k, first, cap⟩, hco, h⟩ := h
    simp only at h
    split at h
    · rename_i hok
      simp only [Option.map_eq_some_iff] at h
      obtain ⟨⟨e', G, m⟩, hcall, h⟩ := h
      simp only [Prod.mk.injEq] at h
      obtain ⟨h1, h2, h3, h4⟩ := h
      subst h1 h2 h3 h4
      refine ⟨k, first, cap, hco, hok, (hc _ _ _ _ _ _ _ hcall).mono fun x G' m' hx => ?_⟩
      obtain ⟨rfl, rfl, rfl⟩ := hx
      cases x with
      | ret v => exact hK v rfl
      | panic v => exact hQ v rfl
    · cases h
  · rename_i h1 h2 h3
    cases op with
    | panic x => exact (h1 x rfl).elim
    | defer c => exact (h2 c rfl).elim
    | call c =>
      obtain ⟨callee, args, ats⟩ := c
      cases callee with
      | value f => exact (h3 f args ats rfl).elim
      | invoke _ _ => exact plain h
      | builtin _ => exact plain h
    | _ => exact plain h

theorem wanted_some {F : Fr} {o : Oper} {b : Bool} (h : wantedA ops F o = some b) {A B : Prop} (h1 : b = true → A) (h2 : b = false → B) :
    (match o.guard with
    | none => A
    | some (j, want) => ∃ c, guardV ops F j = some c ∧ (c = some want → A) ∧ (c ≠ some want → B)) := by
  unfold wantedA at h
  cases hg : o.guard with
  | none => rw [hg] at h; simp at h; exact h1 h
  | some p =>
    obtain ⟨j, want⟩ := p
    rw [hg] at h
    simp only [Option.map_eq_some_iff] at h
    obtain ⟨c, hc, h⟩ := h
    refine ⟨c, hc, fun e => h1 ?_, fun e => h2 ?_⟩
    · rw [← h, e]; simp
    · rw [← h]; simpa using e

theorem runOps_sound (hc : CallOk P call) {x : AX} {τ : St} : ∀ (l : List Oper) (σ : St), runOps P N call ops l σ = some (x, τ) → SOps P N ops (fun y ρ => y = x ∧ ρ = τ) l σ
  | [], σ, h => by
    simp only [runOps, Option.some.injEq, Prod.mk.injEq] at h
    exact ⟨h.1, h.2⟩
  | o :: l, σ, h => by
    simp only [runOps] at h
    split at h
    · rename_i hd
      refine ⟨hd, ?_⟩
      split at h
      · rename_i hw
        refine wanted_some hw (fun _ => ?_) (fun hb => by cases hb)
        split at h
        · rename_i r H nx df hr
          exact runOp_sound hc hr (fun r' e => by injection e with e; subst e; exact runOps_sound hc l _ h) (fun v e => by cases e)
        · rename_i v H nx df hr
          simp only [Option.some.injEq, Prod.mk.injEq] at h
          exact runOp_sound hc hr (fun r' e => by cases e) (fun v' e => by injection e with e; subst e; exact ⟨h.1, h.2⟩)
        · cases h
      · rename_i hw
        exact wanted_some hw (fun hb => by cases hb) (fun _ => runOps_sound hc l _ h)
      · cases h
    · cases h

theorem stableB_sound {F : Fr} {H : Heap} {p : Nat} (h : stableB P ops F H p = true) : stable P ops F H p := by
  unfold stableB at h
  unfold stable
  split at h
  · rename_i o ho
    rw [ho]
    split at h
    · rename_i r hr
      refine ⟨r, hr, fun d hd => ?_⟩
      rw [hd] at h
      exact avEq_sound _ _ _ h
    · cases h
  · rename_i ho; rw [ho]; trivial

theorem runReg_sound (hc : CallOk P call) {ms : List Nat} {x : AX} {τ : St} : ∀ (l seen pend : List Nat) (σ : St), runReg P N call ops ms l seen pend σ = some (x, τ) → VReg P N ops ms (fun y ρ => y = x ∧ ρ = τ) l seen pend σ
  | [], seen, pend, σ, h => by
    simp only [runReg, Option.some.injEq, Prod.mk.injEq] at h
    exact ⟨h.1, h.2⟩
  | i :: l, seen, pend, σ, h => by
    unfold runReg at h
    unfold VReg
    split at h
    · cases h
    rename_i o ho
    rw [ho]
    simp only
    split at h
    · rename_i hd
      refine ⟨hd, ?_⟩
      split at h
      · rename_i hw
        refine wanted_some hw (fun _ => ?_) (fun hb => by cases hb)
        split at h
        · rename_i hf
          rw [if_pos hf]
          split at h
          · rename_i r hr
            exact ⟨r, hr, runReg_sound hc l _ _ _ h⟩
          · cases h
        · rename_i hf
          rw [if_neg hf]
          split at h
          · rename_i r H nx df hr
            split at h
            · rename_i hp
              refine runOp_sound hc hr (fun r' e => ?_) (fun v e => by cases e)
              injection e with e; subst e
              refine ⟨fun p hpm hpp => stableB_sound ?_, runReg_sound hc l _ _ _ h⟩
              have := List.all_eq_true.1 hp p hpm
              rw [hpp] at this; simpa using this
            · cases h
          · rename_i v H nx df hr
            simp only [Option.some.injEq, Prod.mk.injEq] at h
            exact runOp_sound hc hr (fun r' e => by cases e) (fun v' e => by injection e with e; subst e; exact ⟨h.1, h.2⟩)
          · cases h
      · rename_i hw
        exact wanted_some hw (fun hb => by cases hb) (fun _ => runReg_sound hc l _ _ _ h)
      · cases h
    · cases h

theorem runC_sound (hc : CallOk P call) {lf : Nat} : ∀ (c : Code) {x : AX} {τ : St} (σ : St), runC P N call lf c σ = some (x, τ) → SWp P N n0 c (fun y ρ => y = x ∧ ρ = τ) σ
  | .skip, x, τ, σ, h => by
    simp only [runC, Option.some.injEq, Prod.mk.injEq] at h; exact swp_skip h
  | .region id ops draw, x, τ, σ, h => by
    simp only [runC] at h
    cases draw with
    | true =>
      simp only [if_true] at h
      split at h
      · rename_i hh
        rw [Bool.and_eq_true] at hh
        exact swp_draw hh.1 (orderOf ops) hh.2 (runReg_sound hc _ _ _ _ h)
      · cases h
    | false =>
      simp only [Bool.false_eq_true, if_false] at h
      exact swp_region (runOps_sound hc _ _ h)
  | .seq a b, x, τ, σ, h => by
    simp only [runC] at h
    refine swp_seq ?_
    cases ha : runC P N call lf a σ with
    | none => rw [ha] at h; cases h
    | some p =>
      obtain ⟨y, ρ⟩ := p
      refine (runC_sound hc a σ ha).mono fun z ρ' hz => ?_
      obtain ⟨rfl, rfl⟩ := hz
      rw [ha] at h
      cases z with
      | normal => exact runC_sound hc b _ h
      | exit i => simp only [Option.some.injEq, Prod.mk.injEq] at h; exact h
      | ret => simp only [Option.some.injEq, Prod.mk.injEq] at h; exact h
      | panic v => simp only [Option.some.injEq, Prod.mk.injEq] at h; exact h
  | .cond c a b, x, τ, σ, h => by
    simp only [runC] at h
    split at h
    · rename_i t ht
      refine swp_cond ht (fun e => ?_) (fun e => ?_)
      · rw [e, if_pos rfl] at h; exact runC_sound hc a σ h
      · rw [e] at h; simp only [Bool.false_eq_true, if_false] at h; exact runC_sound hc b σ h
    · cases h
  | .block id c, x, τ, σ, h => by
    simp only [runC] at h
    refine swp_block ?_
    cases ha : runC P N call lf c σ with
    | none => rw [ha] at h; cases h
    | some p =>
      obtain ⟨y, ρ⟩ := p
      refine (runC_sound hc c σ ha).mono fun z ρ' hz => ?_
      obtain ⟨rfl, rfl⟩ := hz
      rw [ha] at h
      cases z with
      | normal => simp only [Option.some.injEq, Prod.mk.injEq] at h; exact h
      | exit i =>
        simp only [Option.some.injEq, Prod.mk.injEq] at h
        simp only [AX.inBlock]
        split
        · rename_i hi; rw [if_pos hi] at h; exact h
        · rename_i hi; rw [if_neg hi] at h; exact h
      | ret => simp only [Option.some.injEq, Prod.mk.injEq] at h; exact h
      | panic v => simp only [Option.some.injEq, Prod.mk.injEq] at h; exact h
  | .scope c, x, τ, σ, h => by
    simp only [runC] at h
    exact swp_scope (runC_sound hc c σ h)
  | .label l, x, τ, σ, h => by
    simp only [runC, Option.some.injEq, Prod.mk.injEq] at h
    exact swp_label h
  | .loop c, x, τ, σ, h => by
    simp only [runC] at h
    refine swp_loop (fun n σ => loopN n (runC P N call lf c) σ = some (x, τ)) h fun n σ hn => ?_
    cases n with
    | zero => cases hn
    | succ n =>
      simp only [loopN] at hn
      cases ha : runC P N call lf c σ with
      | none => rw [ha] at hn; cases hn
      | some p =>
        obtain ⟨y, ρ⟩ := p
        refine (runC_sound hc c σ ha).mono fun z ρ' hz => ?_
        obtain ⟨rfl, rfl⟩ := hz
        rw [ha] at hn
        cases z with
        | normal => exact ⟨n, Nat.lt_succ_self n, hn⟩
        | exit i => simp only [Option.some.injEq, Prod.mk.injEq] at hn; exact hn
        | ret => simp only [Option.some.injEq, Prod.mk.injEq] at hn; exact hn
        | panic v => simp only [Option.some.injEq, Prod.mk.injEq] at hn; exact hn
  | .exit id, x, τ, σ, h => by simp only [runC, Option.some.injEq, Prod.mk.injEq] at h; exact swp_exit h
  | .ret, x, τ, σ, h => by simp only [runC, Option.some.injEq, Prod.mk.injEq] at h; exact swp_ret h
  | .rangeFunc _ _ _ _, x, τ, σ, h => by simp [runC] at h
  | .goto _, x, τ, σ, h => by simp [runC] at h
  | .refuse _, x, τ, σ, h => by simp [runC] at h

end
end Go.Lom

/- Calls, evaluated, with deferred calls and recover: sound. -/
set_option linter.unusedSimpArgs false
set_option linter.unusedVariables false
namespace Go.Lom
open Go.RowKit

/-! ### A deferred call that may recover -/

def isRecover : Op → Bool
  | .call { callee := .builtin .recover, .. } => true
  | _ => false

def runOpsS (P : Program) (N : Nat) (call : CallF) (ops : Array Oper) : List Oper → AMode → St → Option (AX × AMode × St)
  | [], m, σ => some (.normal, m, σ)
  | o :: rest, m, σ => if dstOk N o then
    match wantedA ops σ.fr o with
    | some true => if isRecover o.op then
        match m with
        | .panic v => runOpsS P N call ops rest (.recd v) { σ with fr := σ.fr.put o.dst v }
        | m => runOpsS P N call ops rest m { σ with fr := σ.fr.put o.dst .nili }
      else match runOp P call o σ.fr σ.H σ.nx σ.df with
        | some (.ret r, H, nx, df) => runOpsS P N call ops rest m ⟨σ.fr.put o.dst r, H, nx, df⟩
        | some (.panic v, H, nx, _) => some (.panic v, m, ⟨σ.fr, H, nx, σ.df⟩)
        | none => none
    | some false => runOpsS P N call ops rest m { σ with fr := σ.fr.put o.dst skipV }
    | none => none
    else none

def runCS (P : Program) (N : Nat) (call : CallF) (lf : Nat) : Code → AMode → St → Option (AX × AMode × St)
  | .region _ ops false, m, σ => runOpsS P N call ops ops.toList m σ
  | .seq a b, m, σ => match runCS P N call lf a m σ with
    | some (.normal, m', σ') => runCS P N call lf b m' σ'
    | r => r
  | .cond c a b, m, σ => match ev σ.fr c with
    | .bool t => if t then runCS P N call lf a m σ else runCS P N call lf b m σ
    | _ => none
  | c, m, σ => (runC P N call lf c σ).map fun (x, τ) => (x, m, τ)

def LiftS (P : Program) (base : Nat → Prop) (w0 : Start) (N : Nat) (Z : ZMap) (φ : PMap) (c0 : Frame) (cs : List Frame) (Q : AX → AMode → St → Prop) : Exit → Act → List Frame → World → Prop := fun e a cs' w =>
  ∃ Z' φ' x m σ u, ZLe Z Z' ∧ PLe φ φ' ∧ XRel Z' φ' x e ∧ SRel P base w0 Z' φ' N σ a w ∧ cs' = { c0 with mode := u } :: cs ∧ MRel Z' φ' m u ∧ Q x m σ

theorem LiftS.mono {P : Program} {base : Nat → Prop} {w0 : Start} {N : Nat} {Z Z' : ZMap} {φ φ' : PMap} {c0 : Frame} {cs : List Frame} {u0 : FrameMode} {Q : AX → AMode → St → Prop} (hZ : ZLe Z Z') (hφ : PLe φ φ') {e : Exit} {a : Act} {cs' : List Frame} {w : World}
    (h : LiftS P base w0 N Z' φ' { c0 with mode := u0 } cs Q e a cs' w) : LiftS P base w0 N Z φ c0 cs Q e a cs' w :=
  let ⟨Z2, φ2, x, m, σ, u, h1, h2, h3, h4, h5, h6, h7⟩ := h
  ⟨Z2, φ2, x, m, σ, u, hZ.trans h1, hφ.trans h2, h3, h4, h5, h6, h7⟩

def SWpS (P : Program) (N : Nat) (c : Code) (Q : AX → AMode → St → Prop) (m : AMode) (σ : St) : Prop :=
  ∀ base w0 Z φ a w c0 cs, SRel P base w0 Z φ N σ a w → MRel Z φ m c0.mode → c.wpS P (LiftS P base w0 N Z φ c0 cs Q) a (c0 :: cs) w

section
variable {P : Program} {N n0 : Nat} {call : CallF}

theorem wpS_mono {c : Code} {Q Q' : Exit → Act → List Frame → World → Prop} {a : Act} {cs : List Frame} {w : World} (h : c.wpS P Q a cs w) (hq : ∀ e a cs w, Q e a cs w → Q' e a cs w) : c.wpS P Q' a cs w :=
  fun b k hb hr => let ⟨e, a', cs', w', q, r⟩ := h b k hb hr; ⟨e, a', cs', w', hq _ _ _ _ q, r⟩

theorem mrel_mono {Z Z' : ZMap} {φ φ' : PMap} (hZ : ZLe Z Z') (hφ : PLe φ φ') {m : AMode} {u : FrameMode} (h : MRel Z φ m u) : MRel Z' φ' m u := by
  cases m <;> cases u <;> first | exact h.elim | exact trivial | (obtain ⟨q, h1, h2⟩ := h; exact ⟨q, h1, h2.mono hZ hφ⟩)

theorem recoverD_some {c0 : Frame} {cs : List Frame} {Z : ZMap} {φ : PMap} {v : AV} (h : MRel Z φ (.panic v) c0.mode) : ∃ q, Rep Z φ v q ∧ recoverD (c0 :: cs) = some (q, { c0 with mode := .panicking [{ v := q, recovered := true }] } :: cs) := by
  generalize hu : c0.mode = u at h
  cases u <;> try exact h.elim
  obtain ⟨q, rfl, hq⟩ := h
  refine ⟨q, hq, ?_⟩
  simp [recoverD, hu]
theorem recoverD_none {c0 : Frame} {cs : List Frame} {Z : ZMap} {φ : PMap} {m : AMode} (h : MRel Z φ m c0.mode) (hn : ∀ v, m ≠ .panic v) : recoverD (c0 :: cs) = none := by
  generalize hu : c0.mode = u at h
  cases m with
  | ret => cases u <;> first | exact h.elim | simp [recoverD, hu]
  | panic v => exact absurd rfl (hn v)
  | recd v =>
    cases u <;> try exact h.elim
    obtain ⟨q, rfl, hq⟩ := h
    simp [recoverD, hu]

theorem wpOpsS_mono {ops : Array Oper} {R R' : Exit → Act → List Frame → World → Prop} (hQ : ∀ e a cs w, R e a cs w → R' e a cs w) : ∀ {l : List Nat} {a : Act} {cs : List Frame} {w : World}, wpOpsS P ops R l a cs w → wpOpsS P ops R' l a cs w
  | [], a, cs, w, h => hQ _ _ _ _ h
  | i :: l, a, cs, w, h => by
    simp only [wpOpsS] at h ⊢
    split
    · rename_i ho; rw [ho] at h; exact wpOpsS_mono hQ h
    · rename_i o ho
      rw [ho] at h
      simp only at h
      split
      · rename_i hw
        rw [if_pos hw] at h
        generalize (execOp a.eval o).run P w = r at h ⊢
        have gen : o.upon P a (fun a' w' => wpOpsS P ops R l a' cs w') (fun e a' w' => R e a' cs w') r → o.upon P a (fun a' w' => wpOpsS P ops R' l a' cs w') (fun e a' w' => R' e a' cs w') r := by
          intro hh
          cases r with
          | ok n w' =>
            cases n <;> simp only [Oper.upon] at hh ⊢ <;>
              first
                | exact wpOpsS_mono hQ hh
                | exact Calls.mono hh (fun e w'' he => by cases e <;> first | exact wpOpsS_mono hQ he | exact hQ _ _ _ _ he | exact (let ⟨a, w, h⟩ := he; ⟨a, w, hQ _ _ _ _ h⟩))
                | exact Rows.mono hh (fun _ _ he => wpOpsS_mono hQ he)
          | halt x w' => cases x <;> simp only [Oper.upon] at hh ⊢ <;> first | exact hh | exact hQ _ _ _ _ hh
        cases r with
        | ok n w' =>
          cases n <;> try exact gen h
          simp only at h ⊢
          split
          · rename_i hr; rw [hr] at h; exact wpOpsS_mono hQ h
          · rename_i hr; rw [hr] at h; exact wpOpsS_mono hQ h
        | halt x w' => exact gen h
      · rename_i hw
        rw [if_neg hw] at h
        exact wpOpsS_mono hQ h

theorem frame_eta (c : Frame) : { c with mode := c.mode } = c := rfl

theorem runOpsS_sound (hc : CallOk P call) {ops : Array Oper} {x : AX} {m' : AMode} {τ : St} : ∀ (l : List Oper) (k : Nat), (∀ j, l[j]? = ops[k + j]?) → ∀ (m : AMode) (σ : St), runOpsS P N call ops l m σ = some (x, m', τ) →
    ∀ base w0 Z φ a w c0 cs, SRel P base w0 Z φ N σ a w → MRel Z φ m c0.mode →
      wpOpsS P ops (LiftS P base w0 N Z φ c0 cs fun y n ρ => y = x ∧ n = m' ∧ ρ = τ) (List.range' k l.length) a (c0 :: cs) w
  | [], k, _, m, σ, h, base, w0, Z, φ, a, w, c0, cs, hs, hM => by
    simp only [runOpsS, Option.some.injEq, Prod.mk.injEq] at h
    exact ⟨Z, φ, .normal, m, σ, c0.mode, ZLe.refl _, PLe.refl _, trivial, hs, rfl, hM, h⟩
  | o :: l, k, hl, m, σ, h, base, w0, Z, φ, a, w, c0, cs, hs, hM => by
    have h0 : ops[k]? = some o := by simpa using (hl 0).symm
    have ih := runOpsS_sound hc (x := x) (m' := m') (τ := τ) l (k + 1) (fun j => by have := hl (j + 1); simpa [Nat.add_assoc, Nat.add_comm 1 j] using this)
    simp only [List.length_cons, List.range'_succ, wpOpsS, h0]
    simp only [runOpsS] at h
    split at h
    case isFalse => cases h
    rename_i hd
    have hlt := dstOk_lt hd hs.size
    have hsk : ∀ r v, Rep Z φ r v → SRel P base w0 Z φ N { σ with fr := σ.fr.put o.dst r } (a.put o.dst v) w := fun r v hr => ⟨hs.fr.put hlt hr, by rw [put_size]; exact hs.size, by rw [put_defs]; exact hs.df, hs.heap⟩
    split at h
    · rename_i hw
      have hwant : Region.wanted o (yielded ops a.tmps) = true := by
        unfold wantedA at hw
        cases hg : o.guard with
        | none => simp [Region.wanted, hg]
        | some p =>
          obtain ⟨j, want⟩ := p
          rw [hg] at hw
          simp only [Option.map_eq_some_iff] at hw
          obtain ⟨b, hb, hbw⟩ := hw
          have hy := guard_yielded hs.fr hs.size hb
          simp at hbw
          simp [Region.wanted, hg, hy, hbw]
      rw [if_pos hwant]
      split at h
      · rename_i hrec
        have hrun : (execOp a.eval o).run P w = .ok .recover w := by
          obtain ⟨dst, op, ty, pos, after, guard⟩ := o
          cases op <;> simp [isRecover] at hrec
          rename_i cl
          obtain ⟨callee, args, ats⟩ := cl
          cases callee with
          | value f => simp [isRecover] at hrec
          | invoke _ _ => simp [isRecover] at hrec
          | builtin b =>
            cases b <;> simp [isRecover] at hrec
            exact run_builtin fun _ => rfl
        rw [hrun]
        split at h
        · rename_i v
          obtain ⟨q, hq, hrd⟩ := recoverD_some (cs := cs) hM
          simp only [hrd]
          have := ih (.recd v) _ h base w0 Z φ _ w { c0 with mode := .panicking [{ v := q, recovered := true }] } cs (hsk v q hq) ⟨q, rfl, hq⟩
          exact wpOpsS_mono (fun e a cs' w hl => LiftS.mono (ZLe.refl _) (PLe.refl _) hl) this
        · rename_i hnp
          simp only [recoverD_none (cs := cs) hM (fun v e => hnp v e)]
          exact ih m _ h base w0 Z φ _ w c0 cs (hsk .nili .nilIface .nili) hM
      · rename_i hnrec
        have conv : ∀ {K : Act → World → Prop} {R : Exit → Act → World → Prop}, o.wp P a w K R → (match (execOp a.eval o).run P w with
            | .ok .recover w' => match recoverD (c0 :: cs) with
              | some (v, cs') => wpOpsS P ops (LiftS P base w0 N Z φ c0 cs fun y n ρ => y = x ∧ n = m' ∧ ρ = τ) (List.range' (k + 1) l.length) (a.put o.dst v) cs' w'
              | none => wpOpsS P ops (LiftS P base w0 N Z φ c0 cs fun y n ρ => y = x ∧ n = m' ∧ ρ = τ) (List.range' (k + 1) l.length) (a.put o.dst .nilIface) (c0 :: cs) w'
            | r => o.upon P a K R r) := by
          intro K R hwp
          unfold Oper.wp at hwp
          generalize (execOp a.eval o).run P w = r at hwp ⊢
          cases r with
          | ok n w' => cases n <;> first | exact hwp | exact hwp.elim
          | halt _ _ => exact hwp
        split at h
        · rename_i r H nx df hr
          refine conv (wp_opR (runOp_sound hc hr (K := fun r' H' nx' df' => r' = r ∧ H' = H ∧ nx' = nx ∧ df' = df) (QP := fun _ _ _ => False) (fun r' e => by injection e with e; exact ⟨e.symm, rfl, rfl, rfl⟩) (fun v e => by cases e)) hs.fr hs.df hs.heap
            (fun Z' φ' r' v H' nx' df' ds' w' hZ hφ hrep hD hH hk => ?_) fun _ _ _ _ _ _ _ _ _ _ _ hq => hq.elim)
          obtain ⟨rfl, rfl, rfl, rfl⟩ := hk
          have := ih m _ h base w0 Z' φ' ({ a with defers := ds' }.put o.dst v) w' c0 cs ⟨FrRel.put (a := { a with defers := ds' }) (hs.fr.mono hZ hφ) hlt hrep, by rw [put_size]; exact hs.size, by rw [put_defs]; exact hD, hH⟩ (mrel_mono hZ hφ hM)
          exact wpOpsS_mono (fun e a cs' w hl => LiftS.mono (u0 := c0.mode) hZ hφ hl) this
        · rename_i v H nx df hr
          simp only [Option.some.injEq, Prod.mk.injEq] at h
          refine conv (wp_opR (runOp_sound hc hr (K := fun _ _ _ _ => False) (QP := fun v' H' nx' => v' = v ∧ H' = H ∧ nx' = nx) (fun r' e => by cases e) (fun v' e => by injection e with e; exact ⟨e.symm, rfl, rfl⟩)) hs.fr hs.df hs.heap
            (fun _ _ _ _ _ _ _ _ _ _ _ _ _ _ hk => hk.elim) fun Z' φ' v' q H' nx' w' hZ hφ hrep hH hk => ?_)
          obtain ⟨rfl, rfl, rfl⟩ := hk
          exact ⟨Z', φ', .panic v', m, ⟨σ.fr, H', nx', σ.df⟩, c0.mode, hZ, hφ, ⟨q, rfl, hrep⟩, ⟨hs.fr.mono hZ hφ, hs.size, hs.df.mono hZ hφ, hH⟩, rfl, mrel_mono hZ hφ hM, h⟩
        · cases h
    · rename_i hw
      have hwant : ¬ Region.wanted o (yielded ops a.tmps) = true := by
        unfold wantedA at hw
        cases hg : o.guard with
        | none => rw [hg] at hw; cases hw
        | some p =>
          obtain ⟨j, want⟩ := p
          rw [hg] at hw
          simp only [Option.map_eq_some_iff] at hw
          obtain ⟨b, hb, hbw⟩ := hw
          have hy := guard_yielded hs.fr hs.size hb
          simp at hbw
          simp [Region.wanted, hg, hy, hbw]
      rw [if_neg hwant]
      exact ih m _ h base w0 Z φ _ w c0 cs (hsk skipV _ (rep_skip _ _)) hM
    · cases h

theorem swpS_of {c : Code} {Q : AX → St → Prop} {m : AMode} {σ : St} (h : SWp P N σ.nx c Q σ) : SWpS P N c (fun x n τ => Q x τ ∧ n = m) m σ := by
  intro base w0 Z φ a w c0 cs hs hM
  refine wpS_of_wp (wp_mono (h base w0 Z φ a w hs) fun e a w hl => ?_)
  obtain ⟨Z', φ', x, σ', h1, h20, h3, h4, h5⟩ := hl
  have h2 : PLe φ φ' := fun b x hb => h20 b x (hs.heap.fnx b x hb) hb
  exact ⟨Z', φ', x, m, σ', c0.mode, h1, h2, h3, h4, rfl, mrel_mono h1 h2 hM, h5, rfl⟩

theorem runCS_sound (hc : CallOk P call) {lf : Nat} : ∀ (c : Code) {x : AX} {m' : AMode} {τ : St} (m : AMode) (σ : St), runCS P N call lf c m σ = some (x, m', τ) → SWpS P N c (fun y n ρ => y = x ∧ n = m' ∧ ρ = τ) m σ := by
  have dflt : ∀ (c : Code) {x : AX} {m' : AMode} {τ : St} (m : AMode) (σ : St), (runC P N call lf c σ).map (fun (x, τ) => (x, m, τ)) = some (x, m', τ) → SWpS P N c (fun y n ρ => y = x ∧ n = m' ∧ ρ = τ) m σ := by
    intro c x m' τ m σ h
    simp only [Option.map_eq_some_iff] at h
    obtain ⟨⟨y, ρ⟩, hr, he⟩ := h
    simp only [Prod.mk.injEq] at he
    obtain ⟨rfl, rfl, rfl⟩ := he
    intro base w0 Z φ a w c0 cs hs hM
    refine wpS_mono (swpS_of (m := m) (runC_sound hc c σ hr) base w0 Z φ a w c0 cs hs hM) fun e a cs' w hl => ?_
    obtain ⟨Z', φ', x, m', σ', u, h1, h2, h3, h4, h5, h6, ⟨h7, h8⟩, h9⟩ := hl
    exact ⟨Z', φ', x, m', σ', u, h1, h2, h3, h4, h5, h6, h7, h9, h8⟩
  intro c
  induction c with
  | region id ops draw =>
    intro x m' τ m σ h
    cases draw with
    | true => exact dflt _ m σ h
    | false =>
      simp only [runCS] at h
      intro base w0 Z φ a w c0 cs hs hM
      refine wpS_region ?_
      have := runOpsS_sound hc ops.toList 0 (fun j => by simp) m σ h base w0 Z φ a w c0 cs hs hM
      rw [List.range_eq_range']
      simpa using this
  | seq ca cb iha ihb =>
    intro x m' τ m σ h
    simp only [runCS] at h
    intro base w0 Z φ a w c0 cs hs hM
    refine wpS_seq ?_
    cases ha : runCS P N call lf ca m σ with
    | none => rw [ha] at h; cases h
    | some p =>
      obtain ⟨y, n, ρ⟩ := p
      refine wpS_mono (iha m σ ha base w0 Z φ a w c0 cs hs hM) fun e a' cs' w' hl => ?_
      obtain ⟨Z', φ', z, m2, σ2, u, h1, h2, h3, h4, h5, h6, rfl, rfl, rfl⟩ := hl
      rw [ha] at h
      cases z with
      | normal =>
        cases e <;> try exact h3.elim
        subst h5
        refine wpS_mono (ihb m2 σ2 h base w0 Z' φ' a' w' { c0 with mode := u } cs h4 h6) fun e a cs' w hl => LiftS.mono h1 h2 hl
      | exit i => cases e <;> try exact h3.elim
                  simp only [Option.some.injEq, Prod.mk.injEq] at h
                  exact ⟨Z', φ', .exit i, m2, σ2, u, h1, h2, h3, h4, h5, h6, h⟩
      | ret => cases e <;> try exact h3.elim
               simp only [Option.some.injEq, Prod.mk.injEq] at h
               exact ⟨Z', φ', .ret, m2, σ2, u, h1, h2, h3, h4, h5, h6, h⟩
      | panic v => cases e <;> try exact h3.elim
                   simp only [Option.some.injEq, Prod.mk.injEq] at h
                   exact ⟨Z', φ', .panic v, m2, σ2, u, h1, h2, h3, h4, h5, h6, h⟩
  | cond cd ca cb iha ihb =>
    intro x m' τ m σ h
    simp only [runCS] at h
    split at h
    · rename_i t ht
      intro base w0 Z φ a w c0 cs hs hM
      refine wpS_cond (ev_bool hs.fr ht) ?_
      cases t with
      | true => simp only [if_true] at h ⊢; exact iha m σ h base w0 Z φ a w c0 cs hs hM
      | false => simp only [Bool.false_eq_true, if_false] at h ⊢; exact ihb m σ h base w0 Z φ a w c0 cs hs hM
    · cases h
  | skip => intro x m' τ m σ h; exact dflt _ m σ h
  | block _ _ _ => intro x m' τ m σ h; exact dflt _ m σ h
  | loop _ _ => intro x m' τ m σ h; exact dflt _ m σ h
  | rangeFunc _ _ _ _ _ _ => intro x m' τ m σ h; exact dflt _ m σ h
  | exit _ => intro x m' τ m σ h; exact dflt _ m σ h
  | scope _ _ => intro x m' τ m σ h; exact dflt _ m σ h
  | label _ => intro x m' τ m σ h; exact dflt _ m σ h
  | goto _ => intro x m' τ m σ h; exact dflt _ m σ h
  | ret => intro x m' τ m σ h; exact dflt _ m σ h
  | refuse _ => intro x m' τ m σ h; exact dflt _ m σ h

end

/-! ### Calls -/

/-- A deferred call, evaluated. -/
abbrev CallDF := FuncId → List AV → AMode → Heap → Nat → Option (AE × AMode × Heap × Nat)

def finishD (P : Program) (fn : Func) : AX × AMode × St → Option (AE × AMode × Heap × Nat)
  | (.normal, m, σ) | (.ret, m, σ) => match σ.df with
    | [] => (ares P fn σ.fr σ.H).map fun v => (.ret v, m, σ.H, σ.nx)
    | _ => none
  | (.panic v, m, σ) => match σ.df with
    | [] => some (.panic v, m, σ.H, σ.nx)
    | _ => none
  | _ => none

def acallD (P : Program) (lf : Nat) (call : CallF) : CallDF := fun k avs m H nx =>
  match P.funcs[k]? with
  | none => none
  | some fn => match fn.body with
    | none => none
    | some c => (runCS P (avs.length + (fn.ntmps - avs.length)) call lf c m ⟨fr0 avs, H, nx, []⟩).bind (finishD P fn)

theorem acallD_ok {P : Program} {lf : Nat} {call : CallF} (hc : CallOk P call) {k : FuncId} {avs : List AV} {m : AMode} {H : Heap} {nx : Nat} {e : AE} {m' : AMode} {H' : Heap} {nx' : Nat}
    (h : acallD P lf call k avs m H nx = some (e, m', H', nx')) : SCallD P k avs m H nx fun x n G q => x = e ∧ n = m' ∧ G = H' ∧ q = nx' := by
  unfold acallD at h
  split at h
  · cases h
  rename_i fn hf
  split at h
  · cases h
  rename_i c hb
  simp only [Option.bind_eq_some_iff] at h
  obtain ⟨⟨x, n, σ⟩, hrun, hfin⟩ := h
  intro base w0 Z φ w us u hH hr hM
  refine callsD_of_wpS hf hb fun c0 cs hu => ?_
  refine wpS_mono (runCS_sound hc c m _ hrun base w0 Z φ _ w c0 cs ⟨frZeroRel hr _, by simp [hr.1], ⟨rfl, fun i x d a => by simp at a⟩, hH⟩ (by rw [hu]; exact hM)) fun e' a cs' w' hl => ?_
  obtain ⟨Z', φ', y, m2, σ2, u2, h1, h2, h3, h4, h5, h6, rfl, rfl, rfl⟩ := hl
  have nodf : σ2.df = [] → a.defers = [] := fun hd => by
    have := h4.df.1
    rw [hd] at this
    exact List.eq_nil_of_length_eq_zero (by simpa using this)
  unfold finishD at hfin
  split at hfin
  · rename_i m3 σ3 heq
    simp only [Prod.mk.injEq] at heq
    obtain ⟨rfl, rfl, rfl⟩ := heq
    split at hfin
    · rename_i hdf
      simp only [Option.map_eq_some_iff, Prod.mk.injEq] at hfin
      obtain ⟨v, hv, rfl, rfl, rfl, rfl⟩ := hfin
      cases e' <;> try exact h3.elim
      obtain ⟨q, hq, hrq⟩ := run_results h4.heap h4.fr hv
      exact ⟨nodf hdf, u2, h5, q, hq, Z', φ', .ret v, m2, σ2.H, σ2.nx, h1, h2, hrq, h6, h4.heap, rfl, rfl, rfl, rfl⟩
    · cases hfin
  · rename_i m3 σ3 heq
    simp only [Prod.mk.injEq] at heq
    obtain ⟨rfl, rfl, rfl⟩ := heq
    split at hfin
    · rename_i hdf
      simp only [Option.map_eq_some_iff, Prod.mk.injEq] at hfin
      obtain ⟨v, hv, rfl, rfl, rfl, rfl⟩ := hfin
      cases e' <;> try exact h3.elim
      obtain ⟨q, hq, hrq⟩ := run_results h4.heap h4.fr hv
      exact ⟨nodf hdf, u2, h5, q, hq, Z', φ', .ret v, m2, σ2.H, σ2.nx, h1, h2, hrq, h6, h4.heap, rfl, rfl, rfl, rfl⟩
    · cases hfin
  · rename_i v m3 σ3 heq
    simp only [Prod.mk.injEq] at heq
    obtain ⟨rfl, rfl, rfl⟩ := heq
    split at hfin
    · rename_i hdf
      simp only [Option.some.injEq, Prod.mk.injEq] at hfin
      obtain ⟨rfl, rfl, rfl, rfl⟩ := hfin
      cases e' <;> try exact h3.elim
      exact ⟨nodf hdf, u2, h5, Z', φ', .panic v, m2, σ2.H, σ2.nx, h1, h2, h3, h6, h4.heap, rfl, rfl, rfl, rfl⟩
    · cases hfin
  · cases hfin

/-- The deferred calls, evaluated as the function is left. -/
def leavesR (P : Program) (fn : Func) (F : Fr) (callD : CallDF) : List ADef → AMode → Heap → Nat → Option (AE × Heap × Nat)
  | [], .ret, H, nx => (ares P fn F H).map fun v => (.ret v, H, nx)
  | [], .panic v, H, nx => some (.panic v, H, nx)
  | [], .recd _, _, _ => none
  | d :: ds, m, H, nx => match callD d.f d.args m H nx with
    | some (.ret _, m', H', nx') => leavesR P fn F callD ds (settleA m') H' nx'
    | some (.panic v, .ret, H', nx') => leavesR P fn F callD ds (.panic v) H' nx'
    | _ => none

theorem leavesR_sound {P : Program} {fn : Func} {F : Fr} {lf : Nat} {call : CallF} (hc : CallOk P call) {e : AE} {H' : Heap} {nx' : Nat} : ∀ (ds : List ADef) (m : AMode) (H : Heap) (nx : Nat), leavesR P fn F (acallD P lf call) ds m H nx = some (e, H', nx') →
    LeavesA P fn F (fun x G q => x = e ∧ G = H' ∧ q = nx') ds m H nx
  | [], .ret, H, nx, h => by
    simp only [leavesR, Option.map_eq_some_iff, Prod.mk.injEq] at h
    obtain ⟨v, hv, rfl, rfl, rfl⟩ := h
    exact ⟨v, hv, rfl, rfl, rfl⟩
  | [], .panic v, H, nx, h => by
    simp only [leavesR, Option.some.injEq, Prod.mk.injEq] at h
    exact h
  | [], .recd v, H, nx, h => by simp [leavesR] at h
  | d :: ds, m, H, nx, h => by
    simp only [leavesR] at h
    unfold LeavesA
    split at h
    · rename_i r m' G q hcall
      intro base w0 Z φ w us u hH hr hM
      refine (acallD_ok hc hcall base w0 Z φ w us u hH hr hM).mono fun e' u' w' ⟨Z', φ', x, m2, H2, nx2, g1, g2, g3, g4, g5, e1, e2, e3, e4⟩ => ?_
      subst e1 e2 e3 e4
      exact ⟨Z', φ', .ret r, m2, H2, nx2, g1, g2, g3, g4, g5, leavesR_sound hc ds _ _ _ h⟩
    · rename_i v G q hcall
      intro base w0 Z φ w us u hH hr hM
      refine (acallD_ok hc hcall base w0 Z φ w us u hH hr hM).mono fun e' u' w' ⟨Z', φ', x, m2, H2, nx2, g1, g2, g3, g4, g5, e1, e2, e3, e4⟩ => ?_
      subst e1 e2 e3 e4
      exact ⟨Z', φ', .panic v, .ret, H2, nx2, g1, g2, g3, g4, g5, leavesR_sound hc ds _ _ _ h⟩
    · cases h

def finish (P : Program) (fn : Func) (callD : CallDF) : AX × St → Option (AE × Heap × Nat)
  | (.normal, σ) | (.ret, σ) => leavesR P fn σ.fr callD σ.df .ret σ.H σ.nx
  | (.panic v, σ) => leavesR P fn σ.fr callD σ.df (.panic v) σ.H σ.nx
  | _ => none

def acall (P : Program) (lf : Nat) : Nat → CallF
  | 0, _, _, _, _ => none
  | n + 1, k, avs, H, nx => match P.funcs[k]? with
    | none => none
    | some fn => match fn.body with
      | none => none
      | some c => (runC P (avs.length + (fn.ntmps - avs.length)) (acall P lf n) lf c ⟨fr0 avs, H, nx, []⟩).bind (finish P fn (acallD P lf (acall P lf n)))

theorem acall_ok (P : Program) (lf : Nat) : ∀ n, CallOk P (acall P lf n)
  | 0 => fun k avs H nx e H' nx' h => by simp [acall] at h
  | n + 1 => fun k avs H nx e H' nx' h => by
    simp only [acall] at h
    split at h
    · cases h
    rename_i fn hf
    split at h
    · cases h
    rename_i c hb
    simp only [Option.bind_eq_some_iff] at h
    obtain ⟨⟨x, σ⟩, hrun, hfin⟩ := h
    refine scall_of hf hb ((runC_sound (acall_ok P lf n) c _ hrun).mono fun y ρ hy => ?_)
    obtain ⟨rfl, rfl⟩ := hy
    unfold finish at hfin
    split at hfin
    · rename_i σ' heq
      simp only [Prod.mk.injEq] at heq
      obtain ⟨rfl, rfl⟩ := heq
      exact leavesR_sound (acall_ok P lf n) _ _ _ _ hfin
    · rename_i σ' heq
      simp only [Prod.mk.injEq] at heq
      obtain ⟨rfl, rfl⟩ := heq
      exact leavesR_sound (acall_ok P lf n) _ _ _ _ hfin
    · rename_i v σ' heq
      simp only [Prod.mk.injEq] at heq
      obtain ⟨rfl, rfl⟩ := heq
      exact leavesR_sound (acall_ok P lf n) _ _ _ _ hfin
    · cases hfin

end Go.Lom

/- From the library to a row: what a call that takes read-only arguments answers. -/
set_option linter.unusedSimpArgs false
set_option linter.unusedVariables false
namespace Go.Lom
open Go.RowKit Go.WideShapes Go.ChangeShapes

/-- All that there is, frozen. -/
def zAll (w : World) : ZMap := fun B => w.heap[B]?
def noMap : PMap := fun _ => none

theorem hrel_start (w : World) : HRel (· < w.heap.size) ⟨w, zAll w⟩ (zAll w) noMap [] 0 w :=
  ⟨KeptW.refl _ _, fun _ _ h => h, fun _ _ _ => rfl, fun b x h => by simp [noMap] at h, fun b x h => by simp [Heap.get] at h, fun b x h => by simp [noMap] at h, fun b x h => by simp [Heap.get] at h, fun b b' x x' l l' _ h => by simp [Heap.get] at h, fun b x l h => by simp [Heap.get] at h⟩

/-- The law says true. -/
def saysTrue : AE → Heap → Nat → Prop := fun x _ _ => x = .ret (.bool true)

theorem calls_true {P : Program} {k : FuncId} {avs : List AV} {us : Array Value} {w : World} (h : SCall P k avs [] 0 saysTrue) (hr : Reps (zAll w) noMap avs us) :
    Calls P k us w fun e w' => e = .returned (.bool true) ∧ Below w.heap.size w w' := by
  refine (h _ _ _ _ _ _ (hrel_start w) hr).mono fun e w' ⟨Z', φ', x, H', nx', _, _, hE, hH, hx⟩ => ?_
  unfold saysTrue at hx
  subst hx
  cases e <;> try exact hE.elim
  cases hE
  exact ⟨rfl, hH.below.below (Nat.le_refl _)⟩

def isTrue : Option (AE × Heap × Nat) → Bool
  | some (.ret (.bool true), _, _) => true
  | _ => false

theorem scall_eval {P : Program} {lf n : Nat} {k : FuncId} {avs : List AV} {H : Heap} {nx : Nat} (h : isTrue (acall P lf n k avs H nx) = true) : SCall P k avs H nx saysTrue := by
  unfold isTrue at h
  split at h
  · rename_i H' nx' he
    exact (acall_ok P lf n _ _ _ _ _ _ _ he).mono fun x G m hx => hx.1
  · cases h

section
variable {H : Type} {enc : TypeId × Value → H} {P : Program}
theorem post_of_below {f : Func} {s : ChangeSpec} {apart fresh handsOn again : Bool} {W W' : World} {args : Array Value} {v : Value} {ds gs : List (DataW H)} {before pa pv : List MemPlace}
    (hW : DataW.Whole enc P f.params.toList s.vars apart W args.toList ds gs before)
    (hres : ∀ (b : Nat) (sp : Nat → Bool) (hd : Bool), DataW.TrodAll enc P W' b sp hd f.resultTypes.toList (v.resultList f.resultTypes.size) (s.fn H (ds ++ gs)).results [])
    (hargs : ∀ sp : Nat → Bool, (∀ p ∈ before, sp p.block = true) → DataW.TrodAll enc P W' 0 sp true f.params.toList args.toList (s.fn H (ds ++ gs)).args pa)
    (hvars : ∀ sp : Nat → Bool, (∀ p ∈ before, sp p.block = true) → DataW.TrodVars enc P W' sp s.vars (s.fn H (ds ++ gs)).vars pv)
    (hps : before = pa ++ pv) (hb : Below W.heap.size W W')
    (hok : ∀ (j : Nat) (t : TypeId) (r : Value), f.resultTypes[j]? = some t → (v.resultList f.resultTypes.size)[j]? = some r → Value.okWide P W' .any 0 t r) :
    s.post enc P f apart fresh handsOn again W args v W' := by
  have hlt : ∀ p ∈ before, p.block < W.heap.size := fun p hp => hW.lt p hp
  have hold : ∀ p ∈ before, (fun b => decide (b < W.heap.size)) p.block = true := fun p hp => by simpa using hlt p hp
  refine ⟨ds, gs, before, [], pa, pv, hW, hres _ _ _, hargs _ hold, hvars _ hold, World.keptBut_mono (fun p hp => ⟨hp, ?_⟩) (hb.frame (· ∈ before)), fun _ => ?_⟩
  · rw [hps, List.mem_append] at hp
    exact Or.inr hp
  · obtain ⟨_, _, _, _, _, hz, hn⟩ := hW
    refine ⟨hok, _, _, ([] ++ pa) ++ pv, ⟨[] ++ pa, pv, trodAll_append (hargs _ (fun _ _ => rfl)) (hres _ _ _), hvars _ (fun _ _ => rfl), rfl, ?_, ?_⟩, ?_⟩
    · intro b off hp
      have hin : MemPlace.cell b off ∈ before := by rw [hps]; simpa using hp
      rw [hb.frozen (hlt _ hin)]
      exact hz b off hin
    · intro ha
      have := hn ha
      rw [hps] at this
      simpa using this
    · intro p hp _
      rw [hps]
      simpa using hp
end
end Go.Lom
