/- The evaluator over abstract states: it is sound. -/
import Derived.Test.YtnjaebjhfilljaaLomU
set_option linter.unusedSimpArgs false
set_option linter.unusedVariables false
namespace Go.Lom
open Go.RowKit

/-- Equality of abstract values, as far as it is decided. -/
def avEq : Nat → AV → AV → Bool
  | 0, _, _ => false
  | n + 1, x, y =>
    let all : List AV → List AV → Bool := fun a b => a.length == b.length && (a.zip b).all fun p => avEq n p.1 p.2
    match x, y with
    | .undef, .undef | .nilp, .nilp | .nils, .nils | .emp, .emp | .nilm, .nilm | .nilf, .nilf | .nili, .nili => true
    | .bool a, .bool b => a == b
    | .int j a, .int k b => j == k && a == b
    | .str a, .str b => a == b
    | .ptr b i o, .ptr c j p => b == c && i == j && o == p
    | .rp e o, .rp f p => all e f && o == p
    | .sl b s o l c, .sl b' s' o' l' c' => b == b' && s == s' && o == o' && l == l' && c == c'
    | .rs xs, .rs ys => xs.length == ys.length && (xs.zip ys).all fun p => all p.1 p.2
    | .mp b, .mp c => b == c
    | .fn f a c, .fn g b d => f == g && all a b && all c d
    | .iface t v, .iface u w => t == u && avEq n v w
    | .agg a, .agg b => all a b
    | .tup a, .tup b => all a b
    | _, _ => false

theorem all_eq {n : Nat} (ih : ∀ x y, avEq n x y = true → x = y) {a b : List AV} (h : (a.length == b.length && (a.zip b).all fun p => avEq n p.1 p.2) = true) : a = b := by
  simp only [Bool.and_eq_true, beq_iff_eq, List.all_eq_true] at h
  obtain ⟨h1, h2⟩ := h
  apply List.ext_getElem h1
  intro i hi hj
  exact ih _ _ (h2 (a[i], b[i]) (List.mem_iff_getElem.2 ⟨i, by simp; omega, by simp⟩))

theorem avEq_sound : ∀ (n : Nat) (x y : AV), avEq n x y = true → x = y
  | 0, _, _, h => by simp [avEq] at h
  | n + 1, x, y, h => by
    have ih := avEq_sound n
    unfold avEq at h
    simp only at h
    split at h <;> try (first | rfl | (cases h; done))
    · simp only [beq_iff_eq] at h; rw [h]
    · simp only [Bool.and_eq_true, beq_iff_eq] at h; rw [h.1, h.2]
    · simp only [beq_iff_eq] at h; rw [h]
    · simp only [Bool.and_eq_true, beq_iff_eq] at h; rw [h.1.1, h.1.2, h.2]
    · rw [Bool.and_eq_true] at h
      rw [all_eq ih h.1, beq_iff_eq.1 h.2]
    · simp only [Bool.and_eq_true, beq_iff_eq] at h; rw [h.1.1.1.1, h.1.1.1.2, h.1.1.2, h.1.2, h.2]
    · rename_i xs ys
      rw [Bool.and_eq_true] at h
      have h1 := beq_iff_eq.1 h.1
      have : xs = ys := by
        apply List.ext_getElem h1
        intro i hi hj
        exact all_eq ih (List.all_eq_true.1 h.2 (xs[i], ys[i]) (List.mem_iff_getElem.2 ⟨i, by simp; omega, by simp⟩))
      rw [this]
    · simp only [beq_iff_eq] at h; rw [h]
    · rw [Bool.and_eq_true, Bool.and_eq_true] at h
      rw [beq_iff_eq.1 h.1.1, all_eq ih h.1.2, all_eq ih h.2]
    · rw [Bool.and_eq_true] at h
      rw [beq_iff_eq.1 h.1, ih _ _ h.2]
    · rw [all_eq ih h]
    · rw [all_eq ih h]

/-- What calls answer. -/
abbrev CallF := FuncId → List AV → Heap → Nat → Option (AE × Heap × Nat)

def runOp (P : Program) (call : CallF) (o : Oper) (F : Fr) (H : Heap) (nx : Nat) (df : List ADef) : Option (AE × Heap × Nat × List ADef) :=
  match o.op with
  | .panic x => match ev F x with
    | .iface t v => some (.panic (.iface t v), H, nx, df)
    | _ => none
  | .defer c => match c.callee with
    | .value f => do
      let (k, first, cap) ← calleeOf (ev F f)
      if funcOk P k then some (.ret .undef, H, nx, ⟨k, first ++ c.args.toList.map (ev F) ++ cap⟩ :: df) else none
    | _ => none
  | .call { callee := .value f, args, .. } => do
      let (k, first, cap) ← calleeOf (ev F f)
      if funcOk P k then (call k (first ++ args.toList.map (ev F) ++ cap) H nx).map fun (e, H', nx') => (e, H', nx', df) else none
  | _ => match aq P o.op F H with
    | some r => some (.ret r, H, nx, df)
    | none => (ae P o.op F H nx).map fun (r, H', nx') => (.ret r, H', nx', df)

/-- May the operation be run? (none: it can't be told) -/
def wantedA (ops : Array Oper) (F : Fr) (o : Oper) : Option Bool :=
  match o.guard with
  | none => some true
  | some (j, want) => (guardV ops F j).map fun b => b == some want

def runOps (P : Program) (N : Nat) (call : CallF) (ops : Array Oper) : List Oper → St → Option (AX × St)
  | [], σ => some (.normal, σ)
  | o :: rest, σ => if dstOk N o then
    match wantedA ops σ.fr o with
    | some true => match runOp P call o σ.fr σ.H σ.nx σ.df with
      | some (.ret r, H, nx, df) => runOps P N call ops rest ⟨σ.fr.put o.dst r, H, nx, df⟩
      | some (.panic v, H, nx, _) => some (.panic v, ⟨σ.fr, H, nx, σ.df⟩)
      | none => none
    | some false => runOps P N call ops rest { σ with fr := σ.fr.put o.dst skipV }
    | none => none
    else none

def stableB (P : Program) (ops : Array Oper) (F : Fr) (H : Heap) (p : Nat) : Bool :=
  match ops[p]? with
  | some o => match aq P o.op F H with
    | some r => match o.dst with
      | some d => avEq 20 (F.get d) r
      | none => true
    | none => false
  | none => true

def runReg (P : Program) (N : Nat) (call : CallF) (ops : Array Oper) (ms : List Nat) : List Nat → List Nat → List Nat → St → Option (AX × St)
  | [], seen, pend, σ => some (.normal, σ)
  | i :: rest, seen, pend, σ => match ops[i]? with
    | none => none
    | some o => if dstOk N o then
      match wantedA ops σ.fr o with
      | some true => if freeB ops ms seen o then
          match lateV P o.op σ.fr σ.H with
          | some r => runReg P N call ops ms rest (i :: seen) (if readsQ o.op then i :: pend else pend) { σ with fr := σ.fr.put o.dst r }
          | none => none
        else match runOp P call o σ.fr σ.H σ.nx σ.df with
          | some (.ret r, H, nx, df) => if pend.all fun p => preB ms p i || stableB P ops (σ.fr.put o.dst r) H p then runReg P N call ops ms rest (i :: seen) pend ⟨σ.fr.put o.dst r, H, nx, df⟩ else none
          | some (.panic v, H, nx, _) => some (.panic v, ⟨forget ops σ.fr, H, nx, σ.df⟩)
          | none => none
      | some false => runReg P N call ops ms rest (i :: seen) pend { σ with fr := σ.fr.put o.dst skipV }
      | none => none
      else none

def loopN : Nat → (St → Option (AX × St)) → St → Option (AX × St)
  | 0, _, _ => none
  | n + 1, f, σ => match f σ with
    | some (.normal, σ') => loopN n f σ'
    | r => r

def runC (P : Program) (N : Nat) (call : CallF) (lf : Nat) : Code → St → Option (AX × St)
  | .skip, σ => some (.normal, σ)
  | .region _ ops draw, σ => if draw then
      if P.follows .mixedOrders && regOk ops (masks ops.toList []) (orderOf ops) [] then runReg P N call ops (masks ops.toList []) (orderOf ops) [] [] σ else none
    else runOps P N call ops ops.toList σ
  | .seq a b, σ => match runC P N call lf a σ with
    | some (.normal, σ') => runC P N call lf b σ'
    | r => r
  | .cond c a b, σ => match ev σ.fr c with
    | .bool t => if t then runC P N call lf a σ else runC P N call lf b σ
    | _ => none
  | .block id c, σ => match runC P N call lf c σ with
    | some (.exit i, σ') => some (if i = id then .normal else .exit i, σ')
    | r => r
  | .loop c, σ => loopN lf (runC P N call lf c) σ
  | .scope c, σ => runC P N call lf c σ
  | .label _, σ => some (.normal, σ)
  | .exit id, σ => some (.exit id, σ)
  | .ret, σ => some (.ret, σ)
  | _, _ => none

/-- The call is right. -/
def CallOk (P : Program) (call : CallF) : Prop := ∀ k avs H nx e H' nx', call k avs H nx = some (e, H', nx') → SCall P k avs H nx fun x G m => x = e ∧ G = H' ∧ m = nx'

section
variable {P : Program} {N n0 : Nat} {call : CallF} {ops : Array Oper}

theorem runOp_sound (hc : CallOk P call) {o : Oper} {F : Fr} {H : Heap} {nx : Nat} {df : List ADef} {e : AE} {H' : Heap} {nx' : Nat} {df' : List ADef} (h : runOp P call o F H nx df = some (e, H', nx', df'))
    {K : AV → Heap → Nat → List ADef → Prop} {QP : AV → Heap → Nat → Prop} (hK : ∀ r, e = .ret r → K r H' nx' df') (hQ : ∀ v, e = .panic v → QP v H' nx') : SOpR P o F H nx df K QP := by
  have plain : (match aq P o.op F H with
    | some r => some (AE.ret r, H, nx, df)
    | none => (ae P o.op F H nx).map fun (r, H', nx') => (.ret r, H', nx', df)) = some (e, H', nx', df') → (∃ r, aq P o.op F H = some r ∧ K r H nx df) ∨ (∃ r H' nx', ae P o.op F H nx = some (r, H', nx') ∧ K r H' nx' df) ∨ (isVar o.op = false ∧ ∃ r H' nx', AeOk P o F H nx r H' nx' ∧ K r H' nx' df) := by
    intro h
    cases hq : aq P o.op F H with
    | some r =>
      rw [hq] at h
      simp only [Option.some.injEq, Prod.mk.injEq] at h
      obtain ⟨h1, h2, h3, h4⟩ := h
      subst h2 h3 h4
      exact .inl ⟨r, rfl, hK r h1.symm⟩
    | none =>
      rw [hq] at h
      simp only [Option.map_eq_some_iff] at h
      obtain ⟨⟨r, G, m⟩, hae, h⟩ := h
      simp only [Prod.mk.injEq] at h
      obtain ⟨h1, h2, h3, h4⟩ := h
      subst h2 h3 h4
      exact .inr (.inl ⟨r, G, m, hae, hK r h1.symm⟩)
  obtain ⟨dst, op, ty, pos, after, guard⟩ := o
  unfold runOp at h
  unfold SOpR
  simp only at h plain ⊢
  split at h
  · rename_i x
    split at h
    · rename_i t v hx
      simp only [Option.some.injEq, Prod.mk.injEq] at h
      obtain ⟨h1, h2, h3, h4⟩ := h
      subst h2 h3
      simp only [hx]
      exact hQ _ h1.symm
    · cases h
  · rename_i c
    split at h
    · rename_i f hcal
      simp only [Option.bind_eq_bind, Option.bind_eq_some_iff] at h
      obtain ⟨⟨k, first, cap⟩, hco, h⟩ := h
      simp only at h
      split at h
      · rename_i hok
        simp only [Option.some.injEq, Prod.mk.injEq] at h
        obtain ⟨h1, h2, h3, h4⟩ := h
        subst h2 h3 h4
        simp only [hcal]
        exact ⟨k, first, cap, hco, hok, hK _ h1.symm⟩
      · cases h
    · cases h
  · rename_i f args ats
    simp only [Option.bind_eq_bind, Option.bind_eq_some_iff] at h
    obtain ⟨⟨k, first, cap⟩, hco, h⟩ := h
    simp only at h
    split at h
    · rename_i hok
      simp only [Option.map_eq_some_iff] at h
      obtain ⟨⟨e', G, m⟩, hcall, h⟩ := h
      simp only [Prod.mk.injEq] at h
      obtain ⟨h1, h2, h3, h4⟩ := h
      subst h1 h2 h3 h4
      refine ⟨k, first, cap, hco, hok, (hc _ _ _ _ _ _ _ hcall).mono fun x G' m' hx => ?_⟩
      obtain ⟨rfl, rfl, rfl⟩ := hx
      cases x with
      | ret v => exact hK v rfl
      | panic v => exact hQ v rfl
    · cases h
  · rename_i h1 h2 h3
    cases op with
    | panic x => exact (h1 x rfl).elim
    | defer c => exact (h2 c rfl).elim
    | call c =>
      obtain ⟨callee, args, ats⟩ := c
      cases callee with
      | value f => exact (h3 f args ats rfl).elim
      | invoke _ _ => exact plain h
      | builtin _ => exact plain h
    | _ => exact plain h

theorem wanted_some {F : Fr} {o : Oper} {b : Bool} (h : wantedA ops F o = some b) {A B : Prop} (h1 : b = true → A) (h2 : b = false → B) :
    (match o.guard with
    | none => A
    | some (j, want) => ∃ c, guardV ops F j = some c ∧ (c = some want → A) ∧ (c ≠ some want → B)) := by
  unfold wantedA at h
  cases hg : o.guard with
  | none => rw [hg] at h; simp at h; exact h1 h
  | some p =>
    obtain ⟨j, want⟩ := p
    rw [hg] at h
    simp only [Option.map_eq_some_iff] at h
    obtain ⟨c, hc, h⟩ := h
    refine ⟨c, hc, fun e => h1 ?_, fun e => h2 ?_⟩
    · rw [← h, e]; simp
    · rw [← h]; simpa using e

theorem runOps_sound (hc : CallOk P call) {x : AX} {τ : St} : ∀ (l : List Oper) (σ : St), runOps P N call ops l σ = some (x, τ) → SOps P N ops (fun y ρ => y = x ∧ ρ = τ) l σ
  | [], σ, h => by
    simp only [runOps, Option.some.injEq, Prod.mk.injEq] at h
    exact ⟨h.1, h.2⟩
  | o :: l, σ, h => by
    simp only [runOps] at h
    split at h
    · rename_i hd
      refine ⟨hd, ?_⟩
      split at h
      · rename_i hw
        refine wanted_some hw (fun _ => ?_) (fun hb => by cases hb)
        split at h
        · rename_i r H nx df hr
          exact runOp_sound hc hr (fun r' e => by injection e with e; subst e; exact runOps_sound hc l _ h) (fun v e => by cases e)
        · rename_i v H nx df hr
          simp only [Option.some.injEq, Prod.mk.injEq] at h
          exact runOp_sound hc hr (fun r' e => by cases e) (fun v' e => by injection e with e; subst e; exact ⟨h.1, h.2⟩)
        · cases h
      · rename_i hw
        exact wanted_some hw (fun hb => by cases hb) (fun _ => runOps_sound hc l _ h)
      · cases h
    · cases h

theorem stableB_sound {F : Fr} {H : Heap} {p : Nat} (h : stableB P ops F H p = true) : stable P ops F H p := by
  unfold stableB at h
  unfold stable
  split at h
  · rename_i o ho
    rw [ho]
    split at h
    · rename_i r hr
      refine ⟨r, hr, fun d hd => ?_⟩
      rw [hd] at h
      exact avEq_sound _ _ _ h
    · cases h
  · rename_i ho; rw [ho]; trivial

theorem runReg_sound (hc : CallOk P call) {ms : List Nat} {x : AX} {τ : St} : ∀ (l seen pend : List Nat) (σ : St), runReg P N call ops ms l seen pend σ = some (x, τ) → VReg P N ops ms (fun y ρ => y = x ∧ ρ = τ) l seen pend σ
  | [], seen, pend, σ, h => by
    simp only [runReg, Option.some.injEq, Prod.mk.injEq] at h
    exact ⟨h.1, h.2⟩
  | i :: l, seen, pend, σ, h => by
    unfold runReg at h
    unfold VReg
    split at h
    · cases h
    rename_i o ho
    rw [ho]
    simp only
    split at h
    · rename_i hd
      refine ⟨hd, ?_⟩
      split at h
      · rename_i hw
        refine wanted_some hw (fun _ => ?_) (fun hb => by cases hb)
        split at h
        · rename_i hf
          rw [if_pos hf]
          split at h
          · rename_i r hr
            exact ⟨r, hr, runReg_sound hc l _ _ _ h⟩
          · cases h
        · rename_i hf
          rw [if_neg hf]
          split at h
          · rename_i r H nx df hr
            split at h
            · rename_i hp
              refine runOp_sound hc hr (fun r' e => ?_) (fun v e => by cases e)
              injection e with e; subst e
              refine ⟨fun p hpm hpp => stableB_sound ?_, runReg_sound hc l _ _ _ h⟩
              have := List.all_eq_true.1 hp p hpm
              rw [hpp] at this; simpa using this
            · cases h
          · rename_i v H nx df hr
            simp only [Option.some.injEq, Prod.mk.injEq] at h
            exact runOp_sound hc hr (fun r' e => by cases e) (fun v' e => by injection e with e; subst e; exact ⟨h.1, h.2⟩)
          · cases h
      · rename_i hw
        exact wanted_some hw (fun hb => by cases hb) (fun _ => runReg_sound hc l _ _ _ h)
      · cases h
    · cases h

theorem runC_sound (hc : CallOk P call) {lf : Nat} : ∀ (c : Code) {x : AX} {τ : St} (σ : St), runC P N call lf c σ = some (x, τ) → SWp P N n0 c (fun y ρ => y = x ∧ ρ = τ) σ
  | .skip, x, τ, σ, h => by
    simp only [runC, Option.some.injEq, Prod.mk.injEq] at h; exact swp_skip h
  | .region id ops draw, x, τ, σ, h => by
    simp only [runC] at h
    cases draw with
    | true =>
      simp only [if_true] at h
      split at h
      · rename_i hh
        rw [Bool.and_eq_true] at hh
        exact swp_draw hh.1 (orderOf ops) hh.2 (runReg_sound hc _ _ _ _ h)
      · cases h
    | false =>
      simp only [Bool.false_eq_true, if_false] at h
      exact swp_region (runOps_sound hc _ _ h)
  | .seq a b, x, τ, σ, h => by
    simp only [runC] at h
    refine swp_seq ?_
    cases ha : runC P N call lf a σ with
    | none => rw [ha] at h; cases h
    | some p =>
      obtain ⟨y, ρ⟩ := p
      refine (runC_sound hc a σ ha).mono fun z ρ' hz => ?_
      obtain ⟨rfl, rfl⟩ := hz
      rw [ha] at h
      cases z with
      | normal => exact runC_sound hc b _ h
      | exit i => simp only [Option.some.injEq, Prod.mk.injEq] at h; exact h
      | ret => simp only [Option.some.injEq, Prod.mk.injEq] at h; exact h
      | panic v => simp only [Option.some.injEq, Prod.mk.injEq] at h; exact h
  | .cond c a b, x, τ, σ, h => by
    simp only [runC] at h
    split at h
    · rename_i t ht
      refine swp_cond ht (fun e => ?_) (fun e => ?_)
      · rw [e, if_pos rfl] at h; exact runC_sound hc a σ h
      · rw [e] at h; simp only [Bool.false_eq_true, if_false] at h; exact runC_sound hc b σ h
    · cases h
  | .block id c, x, τ, σ, h => by
    simp only [runC] at h
    refine swp_block ?_
    cases ha : runC P N call lf c σ with
    | none => rw [ha] at h; cases h
    | some p =>
      obtain ⟨y, ρ⟩ := p
      refine (runC_sound hc c σ ha).mono fun z ρ' hz => ?_
      obtain ⟨rfl, rfl⟩ := hz
      rw [ha] at h
      cases z with
      | normal => simp only [Option.some.injEq, Prod.mk.injEq] at h; exact h
      | exit i =>
        simp only [Option.some.injEq, Prod.mk.injEq] at h
        simp only [AX.inBlock]
        split
        · rename_i hi; rw [if_pos hi] at h; exact h
        · rename_i hi; rw [if_neg hi] at h; exact h
      | ret => simp only [Option.some.injEq, Prod.mk.injEq] at h; exact h
      | panic v => simp only [Option.some.injEq, Prod.mk.injEq] at h; exact h
  | .scope c, x, τ, σ, h => by
    simp only [runC] at h
    exact swp_scope (runC_sound hc c σ h)
  | .label l, x, τ, σ, h => by
    simp only [runC, Option.some.injEq, Prod.mk.injEq] at h
    exact swp_label h
  | .loop c, x, τ, σ, h => by
    simp only [runC] at h
    refine swp_loop (fun n σ => loopN n (runC P N call lf c) σ = some (x, τ)) h fun n σ hn => ?_
    cases n with
    | zero => cases hn
    | succ n =>
      simp only [loopN] at hn
      cases ha : runC P N call lf c σ with
      | none => rw [ha] at hn; cases hn
      | some p =>
        obtain ⟨y, ρ⟩ := p
        refine (runC_sound hc c σ ha).mono fun z ρ' hz => ?_
        obtain ⟨rfl, rfl⟩ := hz
        rw [ha] at hn
        cases z with
        | normal => exact ⟨n, Nat.lt_succ_self n, hn⟩
        | exit i => simp only [Option.some.injEq, Prod.mk.injEq] at hn; exact hn
        | ret => simp only [Option.some.injEq, Prod.mk.injEq] at hn; exact hn
        | panic v => simp only [Option.some.injEq, Prod.mk.injEq] at hn; exact hn
  | .exit id, x, τ, σ, h => by simp only [runC, Option.some.injEq, Prod.mk.injEq] at h; exact swp_exit h
  | .ret, x, τ, σ, h => by simp only [runC, Option.some.injEq, Prod.mk.injEq] at h; exact swp_ret h
  | .rangeFunc _ _ _ _, x, τ, σ, h => by simp [runC] at h
  | .goto _, x, τ, σ, h => by simp [runC] at h
  | .refuse _, x, τ, σ, h => by simp [runC] at h

end
end Go.Lom
