/- Code over abstract states: what is asked of it, and the rules. -/
import Derived.Test.YtnjaebjhfilljaaLomN
import Derived.Scope
set_option linter.unusedSimpArgs false
set_option linter.unusedVariables false
namespace Go.Lom
open Go.RowKit

/-- A deferred call. -/
structure ADef where
  f : FuncId
  args : List AV

structure St where
  fr : Fr
  H : Heap
  nx : Nat
  df : List ADef

/-- How code ends. -/
inductive AX where
  | normal
  | exit (id : Nat)
  | ret
  | panic (v : AV)

/-- How a call ends. -/
inductive AE where
  | ret (v : AV)
  | panic (v : AV)

def XRel (Z : ZMap) (φ : PMap) : AX → Exit → Prop
  | .normal, .normal => True
  | .exit i, .exit j => i = j
  | .ret, .ret => True
  | .panic v, .panic chain => ∃ u, chain = [{ v := u, recovered := false }] ∧ Rep Z φ v u
  | _, _ => False

def ERel (Z : ZMap) (φ : PMap) : AE → Ending → Prop
  | .ret v, .returned u => Rep Z φ v u
  | .panic v, .panicked chain => ∃ u, chain = [{ v := u, recovered := false }] ∧ Rep Z φ v u
  | _, _ => False

/-- A function with a body, that is none of the model's own. -/
def funcOk (P : Program) (k : FuncId) : Bool :=
  match P.funcs[k]? with
  | some fn => fn.body.isSome && !(fn.name == "runtime.NumGoroutine")
  | none => false

def DfRel1 (P : Program) (Z : ZMap) (φ : PMap) (x : ADef) (d : Deferred) : Prop :=
  ∃ caps, d.target = .fn (.func x.f) caps ∧ Reps Z φ x.args (d.args ++ caps) ∧ funcOk P x.f = true
def DfRel (P : Program) (Z : ZMap) (φ : PMap) (xs : List ADef) (ds : List Deferred) : Prop :=
  ds.length = xs.length ∧ ∀ (i : Nat) (x : ADef) (d : Deferred), xs[i]? = some x → ds[i]? = some d → DfRel1 P Z φ x d

theorem DfRel.mono {P : Program} {Z Z' : ZMap} {φ φ' : PMap} (hZ : ZLe Z Z') (hφ : PLe φ φ') {xs : List ADef} {ds : List Deferred} (h : DfRel P Z φ xs ds) : DfRel P Z' φ' xs ds :=
  ⟨h.1, fun i x d a b => let ⟨caps, h1, h2, h3⟩ := h.2 i x d a b; ⟨caps, h1, h2.mono hZ hφ, h3⟩⟩

structure SRel (P : Program) (base : Nat → Prop) (w0 : Start) (Z : ZMap) (φ : PMap) (N : Nat) (σ : St) (a : Act) (w : World) : Prop where
  fr : FrRel Z φ σ.fr a.tmps
  size : a.tmps.size = N
  df : DfRel P Z φ σ.df a.defers
  heap : HRel base w0 Z φ σ.H σ.nx w

/-- The numbers below are kept. -/
def PLe0 (n0 : Nat) (φ φ' : PMap) : Prop := ∀ b x, b < n0 → φ b = some x → φ' b = some x
theorem PLe.to0 {n0 : Nat} {φ φ' : PMap} (h : PLe φ φ') : PLe0 n0 φ φ' := fun b x _ hx => h b x hx
theorem PLe0.refl (n0 : Nat) (φ : PMap) : PLe0 n0 φ φ := fun _ _ _ h => h
theorem PLe0.trans {n0 : Nat} {a b c : PMap} (h : PLe0 n0 a b) (k : PLe0 n0 b c) : PLe0 n0 a c := fun B o hb x => k B o hb (h B o hb x)

def Lift (P : Program) (base : Nat → Prop) (w0 : Start) (N n0 : Nat) (Z : ZMap) (φ : PMap) (Q : AX → St → Prop) : Exit → Act → World → Prop := fun e a w =>
  ∃ Z' φ' x σ, ZLe Z Z' ∧ PLe0 n0 φ φ' ∧ XRel Z' φ' x e ∧ SRel P base w0 Z' φ' N σ a w ∧ Q x σ

theorem Lift.mono {P : Program} {base : Nat → Prop} {w0 : Start} {N n0 : Nat} {Z Z' : ZMap} {φ φ' : PMap} {Q Q' : AX → St → Prop} (hZ : ZLe Z Z') (hφ : PLe0 n0 φ φ') (hQ : ∀ x σ, Q x σ → Q' x σ) {e : Exit} {a : Act} {w : World}
    (h : Lift P base w0 N n0 Z' φ' Q e a w) : Lift P base w0 N n0 Z φ Q' e a w :=
  let ⟨Z2, φ2, x, σ, h1, h2, h3, h4, h5⟩ := h
  ⟨Z2, φ2, x, σ, hZ.trans h1, hφ.trans h2, h3, h4, hQ _ _ h5⟩

/-- What is asked of code from an abstract state on. -/
def SWp (P : Program) (N n0 : Nat) (c : Code) (Q : AX → St → Prop) (σ : St) : Prop :=
  ∀ base w0 Z φ a w, SRel P base w0 Z φ N σ a w → c.wp P (Lift P base w0 N n0 Z φ Q) a w

/-- What is asked of a call. -/
def SCall (P : Program) (k : FuncId) (avs : List AV) (H : Heap) (nx : Nat) (R : AE → Heap → Nat → Prop) : Prop :=
  ∀ base w0 Z φ w us, HRel base w0 Z φ H nx w → Reps Z φ avs us →
    Calls P k us w fun e w' => ∃ Z' φ' x H' nx', ZLe Z Z' ∧ PLe φ φ' ∧ ERel Z' φ' x e ∧ HRel base w0 Z' φ' H' nx' w' ∧ R x H' nx'

theorem SCall.mono {P : Program} {k : FuncId} {avs : List AV} {H : Heap} {nx : Nat} {R R' : AE → Heap → Nat → Prop} (h : SCall P k avs H nx R) (hr : ∀ x H' nx', R x H' nx' → R' x H' nx') : SCall P k avs H nx R' :=
  fun base w0 Z φ w us hh hr1 => (h base w0 Z φ w us hh hr1).mono fun e w' ⟨Z', φ', x, H', nx', a, b, c, d, e'⟩ => ⟨Z', φ', x, H', nx', a, b, c, d, hr _ _ _ e'⟩

section
variable {P : Program} {N n0 : Nat} {Q : AX → St → Prop} {σ : St}

theorem SWp.mono {c : Code} {Q' : AX → St → Prop} (h : SWp P N n0 c Q σ) (hq : ∀ x σ, Q x σ → Q' x σ) : SWp P N n0 c Q' σ :=
  fun base w0 Z φ a w hs => wp_mono (h base w0 Z φ a w hs) fun e a w hl => hl.mono (ZLe.refl _) (PLe0.refl _ _) hq

theorem swp_skip (h : Q .normal σ) : SWp P N n0 .skip Q σ := fun base w0 Z φ a w hs => wp_skip ⟨Z, φ, .normal, σ, ZLe.refl _, PLe0.refl _ _, trivial, hs, h⟩
theorem swp_exit {id : Nat} (h : Q (.exit id) σ) : SWp P N n0 (.exit id) Q σ := fun base w0 Z φ a w hs => wp_exit ⟨Z, φ, .exit id, σ, ZLe.refl _, PLe0.refl _ _, rfl, hs, h⟩
theorem swp_ret (h : Q .ret σ) : SWp P N n0 .ret Q σ := fun base w0 Z φ a w hs => wp_ret ⟨Z, φ, .ret, σ, ZLe.refl _, PLe0.refl _ _, trivial, hs, h⟩

/-- What follows. -/
def AX.then (next : St → Prop) (Q : AX → St → Prop) : AX → St → Prop
  | .normal, σ => next σ
  | x, σ => Q x σ

theorem swp_seq {x y : Code} (h : SWp P N n0 x (AX.then (SWp P N n0 y Q) Q) σ) : SWp P N n0 (.seq x y) Q σ := by
  intro base w0 Z φ a w hs
  refine wp_seq (wp_mono (h base w0 Z φ a w hs) fun e a w hl => ?_)
  obtain ⟨Z', φ', x, σ', h1, h2, h3, h4, h5⟩ := hl
  cases x with
  | normal =>
    cases e <;> try exact h3.elim
    exact wp_mono (h5 base w0 Z' φ' a w h4) fun e a w hl => hl.mono h1 h2 fun _ _ h => h
  | exit i =>
    cases e <;> try exact h3.elim
    exact ⟨Z', φ', .exit i, σ', h1, h2, h3, h4, h5⟩
  | ret =>
    cases e <;> try exact h3.elim
    exact ⟨Z', φ', .ret, σ', h1, h2, h3, h4, h5⟩
  | panic v =>
    cases e <;> try exact h3.elim
    exact ⟨Z', φ', .panic v, σ', h1, h2, h3, h4, h5⟩

theorem ev_bool {Z : ZMap} {φ : PMap} {F : Fr} {a : Act} (hF : FrRel Z φ F a.tmps) {c : Operand} {b : Bool} (h : ev F c = .bool b) : a.eval c = .bool b := by
  have := rep_ev hF c
  rw [h] at this
  generalize a.eval c = u at this
  cases this; rfl

theorem swp_cond {c : Operand} {x y : Code} {b : Bool} (hc : ev σ.fr c = .bool b) (h1 : b = true → SWp P N n0 x Q σ) (h2 : b = false → SWp P N n0 y Q σ) : SWp P N n0 (.cond c x y) Q σ :=
  fun base w0 Z φ a w hs => wp_cond_split (ev_bool hs.fr hc) (fun hb => h1 hb base w0 Z φ a w hs) (fun hb => h2 hb base w0 Z φ a w hs)

def AX.inBlock (id : Nat) (Q : AX → St → Prop) : AX → St → Prop
  | .exit i, σ => if i = id then Q .normal σ else Q (.exit i) σ
  | x, σ => Q x σ

theorem swp_block {id : Nat} {c : Code} (h : SWp P N n0 c (AX.inBlock id Q) σ) : SWp P N n0 (.block id c) Q σ := by
  intro base w0 Z φ a w hs
  refine wp_block (wp_mono (h base w0 Z φ a w hs) fun e a w hl => ?_)
  obtain ⟨Z', φ', x, σ', h1, h2, h3, h4, h5⟩ := hl
  cases x with
  | normal => cases e <;> try exact h3.elim
              exact ⟨Z', φ', .normal, σ', h1, h2, trivial, h4, h5⟩
  | exit i =>
    cases e <;> try exact h3.elim
    rename_i j
    have hij : i = j := h3
    subst hij
    simp only [AX.inBlock] at h5
    simp only [Exit.inBlock]
    by_cases hi : i = id
    · rw [if_pos hi] at h5 ⊢; exact ⟨Z', φ', .normal, σ', h1, h2, trivial, h4, h5⟩
    · rw [if_neg hi] at h5 ⊢; exact ⟨Z', φ', .exit i, σ', h1, h2, rfl, h4, h5⟩
  | ret => cases e <;> try exact h3.elim
           exact ⟨Z', φ', .ret, σ', h1, h2, trivial, h4, h5⟩
  | panic v => cases e <;> try exact h3.elim
               exact ⟨Z', φ', .panic v, σ', h1, h2, h3, h4, h5⟩

theorem swp_label {l : Nat} (h : Q .normal σ) : SWp P N n0 (.label l) Q σ := fun base w0 Z φ a w hs => wp_label ⟨Z, φ, .normal, σ, ZLe.refl _, PLe0.refl _ _, trivial, hs, h⟩
/-- Code with labels that is left by no jump. -/
theorem swp_scope {c : Code} (h : SWp P N n0 c Q σ) : SWp P N n0 (.scope c) Q σ := by
  intro base w0 Z φ a w hs
  refine wp_scope_straight (wp_mono (h base w0 Z φ a w hs) fun e a w hl => ?_)
  cases e with
  | goto l =>
    obtain ⟨Z', φ', x, σ', h1, h2, h3, h4, h5⟩ := hl
    cases x <;> exact h3.elim
  | _ => exact hl

/-- A loop: an invariant and a measure. -/
theorem swp_loop {c : Code} (I : Nat → St → Prop) {n : Nat} (h0 : I n σ) (hI : ∀ n σ, I n σ → SWp P N n0 c (AX.then (fun σ' => ∃ m, m < n ∧ I m σ') Q) σ) : SWp P N n0 (.loop c) Q σ := by
  have key : ∀ n σ, I n σ → ∀ base w0 Z φ a w, SRel P base w0 Z φ N σ a w → ∀ (b : Frame) (k : List Item) (cs : List Frame),
      ∃ e a' w', Lift P base w0 N n0 Z φ Q e a' w' ∧ Arrives P (lone (b.at a (.code c :: .inLoop c :: k)) cs w) b k cs e a' w' := by
    intro n
    induction n using Nat.strongRecOn with
    | _ n ih =>
      intro σ hσ base w0 Z φ a w hs b k cs
      obtain ⟨e, a₁, w₁, hq, harr⟩ := hI n σ hσ base w0 Z φ a w hs b (.inLoop c :: k) cs
      obtain ⟨Z', φ', x, σ', h1, h2, h3, h4, h5⟩ := hq
      cases x with
      | normal =>
        cases e <;> try exact h3.elim
        obtain ⟨m, hm, hIm⟩ := h5
        obtain ⟨e₂, a₂, w₂, hq₂, harr₂⟩ := ih m hm σ' hIm base w0 Z' φ' a₁ w₁ h4 b k cs
        exact ⟨e₂, a₂, w₂, hq₂.mono h1 h2 fun _ _ h => h, .of_steps (Steps.trans harr (.one step_inLoop)) harr₂⟩
      | exit i =>
        cases e <;> try exact h3.elim
        exact ⟨_, a₁, w₁, ⟨Z', φ', .exit i, σ', h1, h2, h3, h4, h5⟩, .pass (x := .inLoop c) rfl (fun _ _ => .inl (by simp)) harr⟩
      | ret =>
        cases e <;> try exact h3.elim
        exact ⟨_, a₁, w₁, ⟨Z', φ', .ret, σ', h1, h2, h3, h4, h5⟩, .pass (x := .inLoop c) rfl (fun _ _ => .inl (by simp)) harr⟩
      | panic v =>
        cases e <;> try exact h3.elim
        exact ⟨_, a₁, w₁, ⟨Z', φ', .panic v, σ', h1, h2, h3, h4, h5⟩, .pass (x := .inLoop c) rfl (fun _ _ => .inl (by simp)) harr⟩
  intro base w0 Z φ a w hs b k cs
  obtain ⟨e, a', w', hq, harr⟩ := key n σ h0 base w0 Z φ a w hs b k cs
  exact ⟨e, a', w', hq, .of_steps (.one step_loop) harr⟩

/-- Less known: fewer slots, less of the heap. -/
def SubFr (F F' : Fr) : Prop := ∀ t, F.get t = .undef ∨ F.get t = F'.get t
theorem swp_less {c : Code} {σ' : St} (hf : SubFr σ'.fr σ.fr) (hh : Sub σ'.H σ.H) (hn : σ.nx ≤ σ'.nx) (hd : σ'.df = σ.df) (h : SWp P N n0 c Q σ') : SWp P N n0 c Q σ :=
  fun base w0 Z φ a w hs => h base w0 Z φ a w ⟨fun t => by
    rcases hf t with e | e
    · rw [e]; exact .undef _
    · rw [e]; exact hs.fr t, hs.size, by rw [hd]; exact hs.df, (hs.heap.sub hh).nxMono hn⟩
end

/-! ### Operations -/

/-- What a slot holds whose operation was passed over. -/
def skipV : AV := .tup []
theorem rep_skip (Z : ZMap) (φ : PMap) : Rep Z φ skipV Go.undef := .tup rfl fun i v u a => by simp at a

def yieldOf : AV → Option (Option Bool)
  | .bool b => some (some b)
  | .tup [] => some none
  | _ => none
/-- What the guard's operation yielded; inside: nothing, it was passed over. -/
def guardV (ops : Array Oper) (F : Fr) (j : Nat) : Option (Option Bool) :=
  match (ops[j]?).bind (·.dst) with
  | some d => yieldOf (F.get d)
  | none => none

theorem guard_yielded {Z : ZMap} {φ : PMap} {F : Fr} {a : Act} (hF : FrRel Z φ F a.tmps) {N : Nat} (hN : a.tmps.size = N) {ops : Array Oper} {j : Nat} {b : Option Bool} (h : guardV ops F j = some b) : yielded ops a.tmps j = b := by
  unfold guardV at h
  unfold yielded
  cases hd : (ops[j]?).bind (·.dst) with
  | none => rw [hd] at h; cases h
  | some d =>
    rw [hd] at h
    simp only at h
    have hr := hF d
    simp only [Option.bind_some]
    generalize hu : a.tmps.getD d Go.undef = u at hr
    unfold yieldOf at h
    split at h
    · rename_i c hc
      rw [hc] at hr
      cases hr
      injection h with h; subst h
      have : a.tmps[d]? = some (.bool c) := by
        rw [Array.getD_eq_getD_getElem?] at hu
        cases hx : a.tmps[d]? with
        | none => rw [hx] at hu; simp [Go.undef] at hu
        | some v => rw [hx] at hu; simp at hu; rw [hu]
      rw [this]
    · rename_i hc
      rw [hc] at hr
      injection h with h; subst h
      rw [Array.getD_eq_getD_getElem?] at hu
      cases hx : a.tmps[d]? with
      | none => rfl
      | some v =>
        rw [hx] at hu
        simp only [Option.getD_some] at hu
        subst hu
        cases hr; rfl
    · cases h

/-- All slots that the operations write are slots of the frame. -/
def dstOk (N : Nat) (o : Oper) : Bool :=
  match o.dst with
  | some d => decide (d < N)
  | none => true
theorem dstOk_lt {N : Nat} {o : Oper} (h : dstOk N o = true) {a : Act} (ha : a.tmps.size = N) : ∀ d, o.dst = some d → d < a.tmps.size := by
  intro d hd
  have : d < N := by simpa [dstOk, hd] using h
  rw [ha]; exact this

/-- What a function value calls: the function, what goes ahead of the arguments, what goes behind them. -/
def calleeOf : AV → Option (FuncId × List AV × List AV)
  | .fn (.func k) first cap => some (k, first, cap)
  | _ => none

/-- An operation that does so and so, whatever the road by which it is known. -/
def AeOk (P : Program) (o : Oper) (F : Fr) (H : Heap) (nx : Nat) (r : AV) (H' : Heap) (nx' : Nat) : Prop :=
  ∀ base w0 Z φ w (ρ : Operand → Value), HRel base w0 Z φ H nx w → (∀ x ∈ o.op.operands.toList, Rep Z φ (ev F x) (ρ x)) → OutOk base w0 Z φ r H' nx' ((execOp ρ o).run P w)
def isVar : Op → Bool
  | .alloc _ => true
  | _ => false

/-- What an operation needs, and what follows it: the value that it yields, the heap, the deferred calls; or a panic. -/
def SOpR (P : Program) (o : Oper) (F : Fr) (H : Heap) (nx : Nat) (df : List ADef) (K : AV → Heap → Nat → List ADef → Prop) (QP : AV → Heap → Nat → Prop) : Prop :=
  match o.op with
  | .panic x => match ev F x with
    | .iface t v => QP (.iface t v) H nx
    | _ => False
  | .defer c => match c.callee with
    | .value f => ∃ k first cap, calleeOf (ev F f) = some (k, first, cap) ∧ funcOk P k = true ∧ K .undef H nx (⟨k, first ++ c.args.toList.map (ev F) ++ cap⟩ :: df)
    | _ => False
  | .call { callee := .value f, args, .. } => ∃ k first cap, calleeOf (ev F f) = some (k, first, cap) ∧ funcOk P k = true ∧
      SCall P k (first ++ args.toList.map (ev F) ++ cap) H nx fun x H' nx' =>
        match x with
        | .ret v => K v H' nx' df
        | .panic v => QP v H' nx'
  | _ => (∃ r, aq P o.op F H = some r ∧ K r H nx df) ∨ (∃ r H' nx', ae P o.op F H nx = some (r, H', nx') ∧ K r H' nx' df) ∨ (isVar o.op = false ∧ ∃ r H' nx', AeOk P o F H nx r H' nx' ∧ K r H' nx' df)

def SOp (P : Program) (o : Oper) (K : St → Prop) (Q : AX → St → Prop) (σ : St) : Prop :=
  SOpR P o σ.fr σ.H σ.nx σ.df (fun r H nx df => K ⟨σ.fr.put o.dst r, H, nx, df⟩) (fun v H nx => Q (.panic v) ⟨σ.fr, H, nx, σ.df⟩)

/-- The operations of a region, in the order of the text. -/
def SOps (P : Program) (N : Nat) (ops : Array Oper) (Q : AX → St → Prop) : List Oper → St → Prop
  | [], σ => Q .normal σ
  | o :: rest, σ => dstOk N o = true ∧
    match o.guard with
    | none => SOp P o (SOps P N ops Q rest) Q σ
    | some (j, want) => ∃ b, guardV ops σ.fr j = some b ∧ (b = some want → SOp P o (SOps P N ops Q rest) Q σ) ∧ (b ≠ some want → SOps P N ops Q rest { σ with fr := σ.fr.put o.dst skipV })

section
variable {P : Program} {N n0 : Nat} {Q : AX → St → Prop} {σ : St}

theorem reps_append {Z : ZMap} {φ : PMap} {xs ys : List AV} {us vs : Array Value} (h1 : Reps Z φ xs us) (h2 : Reps Z φ ys vs) : Reps Z φ (xs ++ ys) (us ++ vs) := by
  refine ⟨by simp [h1.1, h2.1], fun i v u ha hb => ?_⟩
  rw [Array.getElem?_append] at hb
  by_cases hi : i < xs.length
  · rw [List.getElem?_append_left hi] at ha
    rw [if_pos (by have := h1.1; omega)] at hb
    exact h1.2 i v u ha hb
  · rw [List.getElem?_append_right (by omega)] at ha
    rw [if_neg (by have := h1.1; omega), h1.1] at hb
    exact h2.2 _ v u ha hb

theorem callee_fn {Z : ZMap} {φ : PMap} {x : AV} {u : Value} {k : FuncId} {first cap : List AV} (h : calleeOf x = some (k, first, cap)) (hx : Rep Z φ x u) :
    ∃ us ws, u = .func (.func k) us ws ∧ Reps Z φ first us ∧ Reps Z φ cap ws := by
  unfold calleeOf at h
  split at h
  · simp only [Option.some.injEq, Prod.mk.injEq] at h
    obtain ⟨rfl, rfl, rfl⟩ := h
    cases hx with
    | fn a b c d => exact ⟨_, _, rfl, ⟨a, c⟩, ⟨b, d⟩⟩
  · cases h

theorem run_callFunc {k : FuncId} (h : funcOk P k = true) (args : Array Value) (w : World) : (callFunc k args).run P w = .ok (.enter k args) w := by
  unfold funcOk at h
  cases hf : P.funcs[k]? with
  | none => simp [hf] at h
  | some fn =>
    simp only [hf, Bool.and_eq_true, Bool.not_eq_true', beq_eq_false_iff_ne] at h
    obtain ⟨h1, h2⟩ := h
    have h3 : fn.body.isNone = false := by cases hb : fn.body <;> simp_all
    unfold callFunc
    simp [Sem.run_bind, go_sem, hf, h2]
    intro hb
    rw [hb] at h1; cases h1

/-- One operation: what it leaves. -/
theorem wp_opR {o : Oper} {F : Fr} {H : Heap} {nx : Nat} {df : List ADef} {K : AV → Heap → Nat → List ADef → Prop} {QP : AV → Heap → Nat → Prop} (h : SOpR P o F H nx df K QP)
    {base : Nat → Prop} {w0 : Start} {Z : ZMap} {φ : PMap} {a : Act} {w : World} (hF : FrRel Z φ F a.tmps) (hD : DfRel P Z φ df a.defers) (hH : HRel base w0 Z φ H nx w) {next : Act → World → Prop} {R : Exit → Act → World → Prop}
    (hK : ∀ Z' φ' r v H' nx' df' ds' w', ZLe Z Z' → PLe φ φ' → Rep Z' φ' r v → DfRel P Z' φ' df' ds' → HRel base w0 Z' φ' H' nx' w' → K r H' nx' df' → next ({ a with defers := ds' }.put o.dst v) w')
    (hQ : ∀ Z' φ' v u H' nx' w', ZLe Z Z' → PLe φ φ' → Rep Z' φ' v u → HRel base w0 Z' φ' H' nx' w' → QP v H' nx' → R (.panic [{ v := u, recovered := false }]) a w') :
    o.wp P a w next R := by
  have plain : ((∃ r, aq P o.op F H = some r ∧ K r H nx df) ∨ (∃ r H' nx', ae P o.op F H nx = some (r, H', nx') ∧ K r H' nx' df) ∨ (isVar o.op = false ∧ ∃ r H' nx', AeOk P o F H nx r H' nx' ∧ K r H' nx' df)) → o.wp P a w next R := by
    have eff : ∀ r H' nx', OutOk base w0 Z φ r H' nx' ((execOp a.eval o).run P w) → K r H' nx' df → o.wp P a w next R := by
      intro r H' nx' ho hk
      obtain ⟨n, w', Z', φ', hv, hn, hZ, hφ, hh⟩ := ho
      unfold Oper.wp
      rw [hv]
      rcases hn with ⟨v, rfl, hrep⟩ | ⟨rfl, rfl⟩
      · exact hK Z' φ' r v H' nx' df a.defers w' hZ hφ hrep (hD.mono hZ hφ) hh hk
      · exact hK Z' φ' _ Go.undef H' nx' df a.defers w' hZ hφ (.undef _) (hD.mono hZ hφ) hh hk
    rintro (⟨r, hr, hk⟩ | ⟨r, H', nx', hr, hk⟩ | ⟨_, r, H', nx', hr, hk⟩)
    · obtain ⟨v, hv, hrep⟩ := sound_q hH hF hr
      unfold Oper.wp
      rw [hv]
      exact hK Z φ r v H nx df a.defers w (ZLe.refl _) (PLe.refl _) hrep hD hH hk
    · exact eff _ _ _ (sound_e hH hF hr) hk
    · exact eff _ _ _ (hr base w0 Z φ w a.eval hH fun x _ => rep_ev hF x) hk
  obtain ⟨dst, op, ty, pos, after, guard⟩ := o
  unfold SOpR at h
  simp only at h
  split at h
  · rename_i x
    split at h
    · rename_i t v hx
      have hr := rep_ev hF x
      rw [hx] at hr
      generalize hu : a.eval x = u at hr
      cases hr with
      | iface hv =>
      rename_i uv
      unfold Oper.wp
      have : (execOp a.eval ⟨dst, .panic x, ty, pos, after, guard⟩).run P w = .halt (.panic (.iface t uv)) w := by
        simp only [execOp, hu, Instr.panic]; rfl
      rw [this]
      exact hQ Z φ _ _ H nx w (ZLe.refl _) (PLe.refl _) (.iface hv) hH h
    · exact h.elim
  · rename_i c
    obtain ⟨callee, args, ats⟩ := c
    cases callee with
    | value f =>
      obtain ⟨k, first, cap, hc, hok, hk⟩ := h
      obtain ⟨us, ws, hu, h1, h2⟩ := callee_fn hc (rep_ev hF f)
      unfold Oper.wp
      have : (execOp a.eval ⟨dst, .defer ⟨.value f, args, ats⟩, ty, pos, after, guard⟩).run P w = .ok (.defer { target := .fn (.func k) ws, args := us ++ args.map a.eval }) w := by
        simp only [execOp, resolve, Deferred.ofValue, hu]; rfl
      rw [this]
      refine hK Z φ .undef Go.undef H nx _ ({ target := .fn (.func k) ws, args := us ++ args.map a.eval } :: a.defers) w (ZLe.refl _) (PLe.refl _) (.undef _) ⟨by simp [hD.1], fun i x d hx hd => ?_⟩ hH hk
      cases i with
      | zero =>
        simp at hx hd; subst hx hd
        have hra : Reps Z φ (first ++ args.toList.map (ev F) ++ cap) (us ++ args.map a.eval ++ ws) := reps_append (reps_append h1 (reps_ev hF args)) h2
        rw [List.append_assoc] at hra
        exact ⟨ws, rfl, hra, hok⟩
      | succ i => exact hD.2 i x d (by simpa using hx) (by simpa using hd)
    | invoke _ _ => exact h.elim
    | builtin _ => exact h.elim
  · rename_i f args ats
    obtain ⟨k, first, cap, hc, hok, hcall⟩ := h
    obtain ⟨us, ws, hu, h1, h2⟩ := callee_fn hc (rep_ev hF f)
    unfold Oper.wp
    have : (execOp a.eval ⟨dst, .call ⟨.value f, args, ats⟩, ty, pos, after, guard⟩).run P w = .ok (.enter k (us ++ args.map a.eval ++ ws)) w := by
      simp only [execOp, resolve, Deferred.ofValue, hu]
      exact run_bind' (x := (⟨.fn (.func k) ws, us ++ args.map a.eval⟩ : Deferred)) (w' := w) rfl (run_callFunc hok _ w)
    rw [this]
    refine Calls.mono (hcall base w0 Z φ w _ hH (reps_append (reps_append h1 (reps_ev hF args)) h2)) fun e w' ⟨Z', φ', x, H', nx', g1, g2, g3, g4, g5⟩ => ?_
    cases x with
    | ret v =>
      cases e <;> try exact g3.elim
      exact hK Z' φ' v _ H' nx' df a.defers w' g1 g2 g3 (hD.mono g1 g2) g4 g5
    | panic v =>
      cases e <;> try exact g3.elim
      obtain ⟨u, rfl, hr⟩ := g3
      exact hQ Z' φ' v u H' nx' w' g1 g2 hr g4 g5
  · exact plain h

/-- One operation. -/
theorem wp_op {o : Oper} {K : St → Prop} (hd : dstOk N o = true) (h : SOp P o K Q σ) {base : Nat → Prop} {w0 : Start} {Z : ZMap} {φ : PMap} {a : Act} {w : World} (hs : SRel P base w0 Z φ N σ a w) {next : Act → World → Prop}
    (hK : ∀ Z' φ' σ' a' w', ZLe Z Z' → PLe φ φ' → SRel P base w0 Z' φ' N σ' a' w' → K σ' → next a' w') : o.wp P a w next (Lift P base w0 N n0 Z φ Q) := by
  have hlt := dstOk_lt hd hs.size
  refine wp_opR h hs.fr hs.df hs.heap (fun Z' φ' r v H' nx' df' ds' w' hZ hφ hr hD hH hk => ?_) fun Z' φ' v u H' nx' w' hZ hφ hr hH hq => ⟨Z', φ', .panic v, ⟨σ.fr, H', nx', σ.df⟩, hZ, hφ.to0, ⟨u, rfl, hr⟩, ⟨hs.fr.mono hZ hφ, hs.size, hs.df.mono hZ hφ, hH⟩, hq⟩
  refine hK Z' φ' _ _ w' hZ hφ ⟨FrRel.put (a := { a with defers := ds' }) (hs.fr.mono hZ hφ) hlt hr, ?_, ?_, hH⟩ hk
  · cases hdst : o.dst <;> simp [Act.put, hs.size]
  · have : (Act.put { a with defers := ds' } o.dst v).defers = ds' := by cases hdst : o.dst <;> simp [Act.put]
    rw [this]; exact hD

theorem operWp_mono {o : Oper} {a : Act} {w : World} {K K' : Act → World → Prop} {R R' : Exit → Act → World → Prop} (hK : ∀ a w, K a w → K' a w) (hQ : ∀ e a w, R e a w → R' e a w)
    (hh : o.wp P a w K R) : o.wp P a w K' R' := by
  unfold Oper.wp at *
  generalize (execOp a.eval o).run P w = r at *
  cases r with
  | ok n w' =>
    cases n <;> simp only [Oper.upon] at hh ⊢ <;>
      first
        | exact hK _ _ hh
        | exact Calls.mono hh (fun e w'' he => by cases e <;> first | exact hK _ _ he | exact hQ _ _ _ he | exact (let ⟨a, w, h⟩ := he; ⟨a, w, hQ _ _ _ h⟩))
        | exact Rows.mono hh (fun _ _ he => hK _ _ he)
  | halt x w' => cases x <;> simp only [Oper.upon] at hh ⊢ <;> first | exact hh | exact hQ _ _ _ hh
theorem wpOps_mono {ops : Array Oper} {R R' : Exit → Act → World → Prop} (hQ : ∀ e a w, R e a w → R' e a w) : ∀ {l : List Nat} {a : Act} {w : World}, wpOps P ops R l a w → wpOps P ops R' l a w
  | [], a, w, h => hQ _ _ _ h
  | i :: l, a, w, h => by
    simp only [wpOps] at h ⊢
    split
    · rename_i ho; rw [ho] at h; exact wpOps_mono hQ h
    · rename_i o ho
      rw [ho] at h
      simp only at h
      split
      · rename_i hw
        rw [if_pos hw] at h
        rcases h with h | ⟨h1, a0, w0, h2⟩
        · exact .inl (operWp_mono (fun _ _ h => wpOps_mono hQ h) hQ h)
        · exact .inr ⟨h1, a0, w0, hQ _ _ _ h2⟩
      · rename_i hw
        rw [if_neg hw] at h
        exact wpOps_mono hQ h

theorem wpOps_list {ops : Array Oper} {Q' : Exit → Act → World → Prop} : ∀ (l : List Oper) (k : Nat) (a : Act) (w : World), (∀ j, l[j]? = ops[k + j]?) → l.length + k = ops.size →
    wpOps P ops Q' ((List.range' k l.length)) a w = wpOps P ops Q' (List.range' k l.length) a w := fun _ _ _ _ _ _ => rfl

theorem swp_ops {ops : Array Oper} : ∀ (l : List Oper) (k : Nat), (∀ j, l[j]? = ops[k + j]?) → ∀ (σ : St), SOps P N ops Q l σ →
    ∀ base w0 Z φ a w, SRel P base w0 Z φ N σ a w → wpOps P ops (Lift P base w0 N n0 Z φ Q) (List.range' k l.length) a w
  | [], k, _, σ, h, base, w0, Z, φ, a, w, hs => ⟨Z, φ, .normal, σ, ZLe.refl _, PLe0.refl _ _, trivial, hs, h⟩
  | o :: l, k, hl, σ, h, base, w0, Z, φ, a, w, hs => by
    have h0 : ops[k]? = some o := by simpa using (hl 0).symm
    have ih := swp_ops l (k + 1) (fun j => by have := hl (j + 1); simpa [Nat.add_assoc, Nat.add_comm 1 j] using this)
    simp only [List.length_cons, List.range'_succ, wpOps, h0]
    obtain ⟨hd, h⟩ := h
    have step : SOp P o (SOps P N ops Q l) Q σ → o.wp P a w (wpOps P ops (Lift P base w0 N n0 Z φ Q) (List.range' (k + 1) l.length)) (Lift P base w0 N n0 Z φ Q) := fun hop =>
      wp_op hd hop hs fun Z' φ' σ' a' w' hZ hφ hs' hk => wpOps_mono (fun e a w hl => hl.mono hZ hφ.to0 fun _ _ h => h) (ih σ' hk base w0 Z' φ' a' w' hs')
    cases hg : o.guard with
    | none =>
      rw [hg] at h
      have hw : Region.wanted o (yielded ops a.tmps) = true := by simp [Region.wanted, hg]
      rw [if_pos hw]
      exact .inl (step h)
    | some p =>
      obtain ⟨j, want⟩ := p
      rw [hg] at h
      simp only at h
      obtain ⟨b, hb, h1, h2⟩ := h
      have hy := guard_yielded hs.fr hs.size hb
      by_cases hbw : b = some want
      · have hw : Region.wanted o (yielded ops a.tmps) = true := by simp [Region.wanted, hg, hy, hbw]
        rw [if_pos hw]
        exact .inl (step (h1 hbw))
      · have hw : ¬ Region.wanted o (yielded ops a.tmps) = true := by simp [Region.wanted, hg, hy, hbw]
        rw [if_neg hw]
        have hlt := dstOk_lt hd hs.size
        refine ih _ (h2 hbw) base w0 Z φ _ w ⟨hs.fr.put hlt (rep_skip _ _), ?_, ?_, hs.heap⟩
        · cases hdst : o.dst <;> simp [Act.put, hs.size]
        · have : (a.put o.dst Go.undef).defers = a.defers := by cases hdst : o.dst <;> simp [Act.put]
          rw [this]; exact hs.df

theorem swp_region {id : Nat} {ops : Array Oper} (h : SOps P N ops Q ops.toList σ) : SWp P N n0 (.region id ops false) Q σ := by
  intro base w0 Z φ a w hs
  refine wp_region ?_
  have := swp_ops (n0 := n0) (Q := Q) ops.toList 0 (fun j => by simp) σ h base w0 Z φ a w hs
  rw [List.range_eq_range']
  simpa using this

end
end Go.Lom
