/- Functions: a call, out of what is asked of the body; deferred calls. -/
import Derived.Test.YtnjaebjhfilljaaLomT
import Derived.Recover
set_option linter.unusedSimpArgs false
set_option linter.unusedVariables false
namespace Go.Lom
open Go.RowKit

def ares1 (P : Program) (F : Fr) (H : Heap) : ResultVar → Option AV
  | .tmp t => some (F.get t)
  | .cell a t => ald P t (F.get a) H
def tupOf : List AV → AV
  | [v] => v
  | vs => .tup vs
/-- What a function hands back. -/
def ares (P : Program) (fn : Func) (F : Fr) (H : Heap) : Option AV := (fn.results.toList.mapM (ares1 P F H)).map tupOf

section
variable {P : Program} {base : Nat → Prop} {w0 : Start} {Z : ZMap} {φ : PMap} {H : Heap} {nx : Nat} {w : World}

theorem run_mapM_rep {α : Type} (g : α → Sem Value) (k : α → Option AV) (hg : ∀ x y, k x = some y → ∃ u, (g x).run P w = .ok u w ∧ Rep Z φ y u) : ∀ (l : List α) (ys : List AV), l.mapM k = some ys →
    ∃ us, (l.mapM g).run P w = .ok us w ∧ Reps Z φ ys us.toArray
  | [], ys, h => by simp at h; subst h; exact ⟨[], rfl, rfl, fun i v u a => by simp at a⟩
  | x :: l, ys, h => by
    rw [List.mapM_cons] at h
    simp only [Option.bind_eq_bind, Option.bind_eq_some_iff, Option.pure_def, Option.some.injEq] at h
    obtain ⟨y, hy, ys', h1, rfl⟩ := h
    obtain ⟨u, hu, hr⟩ := hg x y hy
    obtain ⟨us, hus, h2⟩ := run_mapM_rep g k hg l ys' h1
    refine ⟨u :: us, ?_, ?_⟩
    · rw [List.mapM_cons]; exact run_bind' hu (run_bind' hus rfl)
    · refine ⟨by have := h2.1; simp at this; simp [this], fun i v q a b => ?_⟩
      cases i with
      | zero => simp at a b; subst a b; exact hr
      | succ i => exact h2.2 i v q (by simpa using a) (by simpa using b)

theorem run_results (hh : HRel base w0 Z φ H nx w) {F : Fr} {tmps : Array Value} (hF : FrRel Z φ F tmps) {fn : Func} {r : AV} (hr : ares P fn F H = some r) : ∃ v, (results fn tmps).run P w = .ok v w ∧ Rep Z φ r v := by
  unfold ares at hr
  simp only [Option.map_eq_some_iff] at hr
  obtain ⟨ys, hys, rfl⟩ := hr
  obtain ⟨us, hus, hreps⟩ := run_mapM_rep (P := P) (w := w) (Z := Z) (φ := φ) (fun (x : ResultVar) => match x with
    | .tmp t => pure (tmps.getD t Go.undef)
    | .cell a t => do loadVar t (← asAddr (tmps.getD a Go.undef))) (ares1 P F H) (fun x y hxy => by
      cases x with
      | tmp t => simp only [ares1, Option.some.injEq] at hxy; subst hxy; exact ⟨_, rfl, hF t⟩
      | cell a t =>
        simp only [ares1] at hxy
        have ha := hF a
        generalize hu : tmps.getD a Go.undef = u at ha
        obtain ⟨v, hv, hrv⟩ := sound_load hh ha hxy
        refine ⟨v, ?_, hrv⟩
        cases hg : F.get a <;> rw [hg] at ha hxy <;> try (simp [ald] at hxy; done)
        all_goals (cases ha; show Sem.run P (do loadVar t (← asAddr (tmps.getD a Go.undef))) w = _; rw [hu]; exact hv)) fn.results.toList ys hys
  have hsz := hreps.1
  unfold results
  have e0 : (fn.results.mapM (fun (x : ResultVar) => match x with
    | .tmp t => pure (tmps.getD t Go.undef)
    | .cell a t => do loadVar t (← asAddr (tmps.getD a Go.undef)))).run P w = .ok us.toArray w := by
    rw [Array.mapM_eq_mapM_toList, map_eq_pure_bind]
    exact run_bind' hus rfl
  refine ⟨if h : us.toArray.size = 1 then us.toArray[0] else .tuple us.toArray, run_bind' e0 rfl, ?_⟩
  match ys, us, hreps with
  | [y], [u], hreps => exact hreps.2 0 y u rfl rfl
  | [], [], hreps => exact .tup rfl (fun i v q a => by simp at a)
  | y :: y2 :: ys, u :: u2 :: us, hreps =>
    have : ¬ (u :: u2 :: us).toArray.size = 1 := by simp
    rw [dif_neg this]
    exact .tup hreps.1 hreps.2
  | [], _ :: _, hreps => have := hreps.1; simp at this
  | _ :: _, [], hreps => have := hreps.1; simp at this
  | [y], _ :: _ :: _, hreps => have := hreps.1; simp at this
  | _ :: _ :: _, [u], hreps => have := hreps.1; simp at this

/-! ### Deferred calls -/

/-- The mode of the function that is left. -/
inductive AMode where
  | ret
  | panic (v : AV)
  | recd (v : AV)

def MRel (Z : ZMap) (φ : PMap) : AMode → FrameMode → Prop
  | .ret, .returning => True
  | .panic v, .panicking chain => ∃ u, chain = [{ v := u, recovered := false }] ∧ Rep Z φ v u
  | .recd v, .panicking chain => ∃ u, chain = [{ v := u, recovered := true }] ∧ Rep Z φ v u
  | _, _ => False

def SCallD (P : Program) (k : FuncId) (avs : List AV) (m : AMode) (H : Heap) (nx : Nat) (R : AE → AMode → Heap → Nat → Prop) : Prop :=
  ∀ base w0 Z φ w us u, HRel base w0 Z φ H nx w → Reps Z φ avs us → MRel Z φ m u →
    CallsD P k us u w fun e u' w' => ∃ Z' φ' x m' H' nx', ZLe Z Z' ∧ PLe φ φ' ∧ ERel Z' φ' x e ∧ MRel Z' φ' m' u' ∧ HRel base w0 Z' φ' H' nx' w' ∧ R x m' H' nx'

def settleA : AMode → AMode
  | .recd _ => .ret
  | m => m

/-- What is asked when a function is left. -/
def LeavesA (P : Program) (fn : Func) (F : Fr) (R : AE → Heap → Nat → Prop) : List ADef → AMode → Heap → Nat → Prop
  | [], .ret, H, nx => ∃ v, ares P fn F H = some v ∧ R (.ret v) H nx
  | [], .panic v, H, nx => R (.panic v) H nx
  | [], .recd _, _, _ => False
  | d :: ds, m, H, nx => SCallD P d.f d.args m H nx fun x m' H' nx' =>
      match x, m' with
      | .ret _, m' => LeavesA P fn F R ds (settleA m') H' nx'
      | .panic v, .ret => LeavesA P fn F R ds (.panic v) H' nx'
      | .panic _, _ => False

theorem mrel_ne_run {m : AMode} {u : FrameMode} (h : MRel Z φ m u) : u ≠ .run := by
  rintro rfl; cases m <;> exact h
theorem MRel.settle {m : AMode} {u : FrameMode} (h : MRel Z φ m u) : MRel Z φ (settleA m) (Go.settle u) := by
  cases m with
  | ret => cases u <;> first | exact h.elim | exact trivial
  | panic v =>
    cases u <;> try exact h.elim
    obtain ⟨x, rfl, hr⟩ := h
    exact ⟨x, rfl, hr⟩
  | recd v =>
    cases u <;> try exact h.elim
    obtain ⟨x, rfl, hr⟩ := h
    exact trivial

theorem leaves_of {fn : Func} {F : Fr} {tmps : Array Value} {R : AE → Heap → Nat → Prop} {R' : Ending → World → Prop} :
    ∀ (ds : List ADef) (m : AMode) (H : Heap) (nx : Nat) (Z : ZMap) (φ : PMap) (w : World) (us : List Deferred) (u : FrameMode), LeavesA P fn F R ds m H nx → FrRel Z φ F tmps → DfRel P Z φ ds us → MRel Z φ m u → HRel base w0 Z φ H nx w →
      (∀ e w', (∃ Z' φ' x H' nx', ZLe Z Z' ∧ PLe φ φ' ∧ ERel Z' φ' x e ∧ HRel base w0 Z' φ' H' nx' w' ∧ R x H' nx') → R' e w') → Leaves P fn tmps R' us u w
  | [], m, H, nx, Z, φ, w, us, u, h, hF, hD, hM, hH, hR => by
    have : us = [] := List.eq_nil_of_length_eq_zero (by simpa using hD.1)
    subst this
    cases m with
    | ret =>
      cases u <;> try exact hM.elim
      obtain ⟨v, hv, hr⟩ := h
      obtain ⟨q, hq, hrq⟩ := run_results hH hF hv
      exact ⟨q, hq, hR _ _ ⟨Z, φ, .ret v, H, nx, ZLe.refl _, PLe.refl _, hrq, hH, hr⟩⟩
    | panic v =>
      cases u <;> try exact hM.elim
      exact hR _ _ ⟨Z, φ, .panic v, H, nx, ZLe.refl _, PLe.refl _, hM, hH, h⟩
    | recd v => exact h.elim
  | d :: ds, m, H, nx, Z, φ, w, us, u, h, hF, hD, hM, hH, hR => by
    cases us with
    | nil => have := hD.1; simp at this
    | cons du us =>
      obtain ⟨caps, ht, hreps, hok⟩ := hD.2 0 d du rfl rfl
      obtain ⟨target, dargs⟩ := du
      simp only at ht hreps
      subst ht
      have hD' : DfRel P Z φ ds us := ⟨by have := hD.1; simpa using this, fun i x y a b => hD.2 (i + 1) x y (by simpa using a) (by simpa using b)⟩
      unfold LeavesA at h
      refine leaves_cons (mrel_ne_run hM) (run_callFunc hok (dargs ++ caps) w) ((h base w0 Z φ w _ u hH hreps hM).mono fun e u' w' ⟨Z', φ', x, m', H', nx', g1, g2, g3, g4, g5, g6⟩ => ?_)
      have hR'' : ∀ e w'', (∃ Z'' φ'' x H'' nx'', ZLe Z' Z'' ∧ PLe φ' φ'' ∧ ERel Z'' φ'' x e ∧ HRel base w0 Z'' φ'' H'' nx'' w'' ∧ R x H'' nx'') → R' e w'' := fun e w'' ⟨Z'', φ'', x, H'', nx'', a1, a2, a3⟩ => hR e w'' ⟨Z'', φ'', x, H'', nx'', g1.trans a1, g2.trans a2, a3⟩
      cases x with
      | ret v =>
        cases e <;> try exact g3.elim
        exact leaves_of ds (settleA m') H' nx' Z' φ' w' us _ g6 (hF.mono g1 g2) (hD'.mono g1 g2) g4.settle g5 hR''
      | panic v =>
        cases e <;> try exact g3.elim
        cases m' with
        | ret =>
          cases u' <;> try exact g4.elim
          obtain ⟨q, rfl, hq⟩ := g3
          exact leaves_of ds (.panic v) H' nx' Z' φ' w' us _ g6 (hF.mono g1 g2) (hD'.mono g1 g2) ⟨q, rfl, hq⟩ g5 hR''
        | panic _ => exact g6.elim
        | recd _ => exact g6.elim

/-! ### Functions -/

def fr0 (avs : List AV) : Fr := avs.zipIdx.map fun p => (p.2, p.1)

theorem frZeroGet : ∀ (avs : List AV) (k t : Nat), Fr.get ((avs.zipIdx k).map fun p => (p.2, p.1)) t = if k ≤ t then (avs[t - k]?).getD .undef else .undef
  | [], k, t => by simp [Fr.get]
  | v :: avs, k, t => by
    simp only [List.zipIdx_cons, List.map_cons, Fr.get]
    by_cases h : t = k
    · subst h; simp
    · rw [if_neg h, frZeroGet avs (k + 1) t]
      by_cases hk : k ≤ t
      · rw [if_pos hk, if_pos (by omega)]
        have : t - k = (t - (k + 1)) + 1 := by omega
        rw [this]; simp
      · rw [if_neg hk, if_neg (by omega)]

theorem frZeroRel {avs : List AV} {us : Array Value} (h : Reps Z φ avs us) (n : Nat) : FrRel Z φ (fr0 avs) (us ++ Array.replicate n Go.undef) := by
  intro t
  unfold fr0
  rw [frZeroGet avs 0 t]
  simp only [Nat.zero_le, if_true, Nat.sub_zero]
  by_cases ht : t < avs.length
  · rw [List.getElem?_eq_getElem ht]
    have : t < us.size := by have := h.1; omega
    have e1 : (us ++ Array.replicate n Go.undef).getD t Go.undef = us[t] := by
      rw [Array.getD_eq_getD_getElem?, Array.getElem?_append_left this, Array.getElem?_eq_getElem this]; rfl
    rw [e1]
    exact h.2 t _ _ (List.getElem?_eq_getElem ht) (Array.getElem?_eq_getElem this)
  · rw [List.getElem?_eq_none (by omega)]
    exact .undef _

/-- What is asked where the body ends. -/
def BodyQ (P : Program) (fn : Func) (R : AE → Heap → Nat → Prop) : AX → St → Prop
  | .normal, σ | .ret, σ => LeavesA P fn σ.fr R σ.df .ret σ.H σ.nx
  | .panic v, σ => LeavesA P fn σ.fr R σ.df (.panic v) σ.H σ.nx
  | .exit _, _ => False

theorem scall_of {k : FuncId} {fn : Func} {c : Code} {avs : List AV} {R : AE → Heap → Nat → Prop} (hf : P.funcs[k]? = some fn) (hb : fn.body = some c)
    (h : SWp P (avs.length + (fn.ntmps - avs.length)) nx c (BodyQ P fn R) ⟨fr0 avs, H, nx, []⟩) : SCall P k avs H nx R := by
  intro base w0 Z φ w us hH hr
  refine calls_of_wp_defers hf hb (wp_mono (h base w0 Z φ _ w ⟨frZeroRel hr _, by simp [hr.1], ⟨rfl, fun i x d a => by simp at a⟩, hH⟩) fun e a w hl => ?_)
  obtain ⟨Z', φ', x, σ, h1, h20, h3, h4, h5⟩ := hl
  have h2 : PLe φ φ' := fun b x hb => h20 b x (hH.fnx b x hb) hb
  have fin : ∀ e w', (∃ Z'' φ'' x H' nx', ZLe Z' Z'' ∧ PLe φ' φ'' ∧ ERel Z'' φ'' x e ∧ HRel base w0 Z'' φ'' H' nx' w' ∧ R x H' nx') → ∃ Z'' φ'' x H' nx', ZLe Z Z'' ∧ PLe φ φ'' ∧ ERel Z'' φ'' x e ∧ HRel base w0 Z'' φ'' H' nx' w' ∧ R x H' nx' :=
    fun e w' ⟨Z'', φ'', x, H', nx', a1, a2, a3⟩ => ⟨Z'', φ'', x, H', nx', h1.trans a1, h2.trans a2, a3⟩
  cases x with
  | normal => cases e <;> try exact h3.elim
              exact leaves_of σ.df .ret σ.H σ.nx Z' φ' w a.defers .returning h5 h4.fr h4.df trivial h4.heap fin
  | ret => cases e <;> try exact h3.elim
           exact leaves_of σ.df .ret σ.H σ.nx Z' φ' w a.defers .returning h5 h4.fr h4.df trivial h4.heap fin
  | panic v => cases e <;> try exact h3.elim
               obtain ⟨q, rfl, hq⟩ := h3
               exact leaves_of σ.df (.panic v) σ.H σ.nx Z' φ' w a.defers _ h5 h4.fr h4.df ⟨q, rfl, hq⟩ h4.heap fin
  | exit i => exact h5.elim

end
end Go.Lom
