/- All quiet operations together: sound. -/
import Derived.Test.YtnjaebjhfilljaaLomI
set_option linter.unusedSimpArgs false
namespace Go.Lom
open Go.RowKit

section
variable {P : Program} {base : Nat → Prop} {w0 : Start} {Z : ZMap} {φ : PMap} {H : Heap} {nx : Nat} {w : World}

theorem repO_ev {F : Fr} {a : Act} (hF : FrRel Z φ F a.tmps) (x : Option Operand) : RepO Z φ (x.map (ev F)) (x.map a.eval) := by
  cases x with
  | none => trivial
  | some x => exact rep_ev hF x

theorem reps_ev {F : Fr} {a : Act} (hF : FrRel Z φ F a.tmps) (xs : Array Operand) : Reps Z φ (xs.toList.map (ev F)) (xs.map a.eval) := by
  refine ⟨by simp, fun i v u h1 h2 => ?_⟩
  rw [List.getElem?_map] at h1
  rw [Array.getElem?_map] at h2
  cases hx : xs[i]? with
  | none => simp [hx] at h2
  | some x =>
    simp [hx] at h1 h2
    subst h1 h2
    exact rep_ev hF x

/-- A value, handed on by the operation. -/
theorem run_val {s : Sem Value} {q : Value} (h : s.run P w = .ok q w) : (do pure (Next.value (← s)) : Sem Next).run P w = .ok (.value q) w := run_bind' h rfl

theorem sound_nilCheck {x r : AV} {u : Value} (hx : Rep Z φ x u) (hr : anilCheck x = some r) (ρ : Operand → Value) (o : Operand) (ho : ρ o = u) (d : Option Tmp) (t : TypeId) (p : String) (af : Array Edge) (g : Option (Nat × Bool)) :
    (execOp ρ ⟨d, .nilCheck o, t, p, af, g⟩).run P w = .ok (.value u) w ∧ Rep Z φ r u := by
  unfold anilCheck at hr
  split at hr
  · injection hr with hr; subst hr; cases hx with | ptr hf => exact ⟨by simp only [execOp, ho]; rfl, .ptr hf⟩
  · injection hr with hr; subst hr; cases hx with | rp us h1 h2 => exact ⟨by simp only [execOp, ho]; rfl, .rp us h1 h2⟩
  · injection hr with hr; subst hr; cases hx with | iface hv => exact ⟨by simp only [execOp, ho]; rfl, .iface hv⟩
  · injection hr with hr; subst hr; cases hx with | fn a b c d => exact ⟨by simp only [execOp, ho]; rfl, .fn a b c d⟩
  · cases hr

theorem run_builtin {ρ : Operand → Value} {b : Builtin} {args : Array Operand} {ats : Array TypeId} {d : Option Tmp} {t : TypeId} {p : String} {af : Array Edge} {g : Option (Nat × Bool)} {r : Result Next}
    (hb : ∀ consts, (builtin b ats t consts (args.map ρ)).run P w = r) : (execOp ρ ⟨d, .call ⟨.builtin b, args, ats⟩, t, p, af, g⟩).run P w = r := by
  rw [← hb (args.map fun | .const _ => true | _ => false)]; rfl

theorem sound_qCall (h : HRel base w0 Z φ H nx w) {F : Fr} {a : Act} (hF : FrRel Z φ F a.tmps) {c : Call} {d : Option Tmp} {t : TypeId} {p : String} {af : Array Edge} {g : Option (Nat × Bool)} {r : AV} (hr : aqCall P c F H = some r) :
    ∃ v, (execOp a.eval ⟨d, .call c, t, p, af, g⟩).run P w = .ok (.value v) w ∧ Rep Z φ r v := by
  obtain ⟨callee, args, argTypes⟩ := c
  unfold aqCall at hr
  simp only at hr
  have hreps := reps_ev hF args
  split at hr
  · split at hr
    · rename_i x ty hx ht
      have e1 : args = #[x] := by apply Array.ext'; simpa using hx
      have e2 : argTypes = #[ty] := by apply Array.ext'; simpa using ht
      subst e1 e2
      obtain ⟨q, hq, hrq⟩ := sound_len (ty := t) h (rep_ev hF x) hr
      refine ⟨q, ?_, hrq⟩
      refine run_builtin fun _ => ?_
      rw [show (#[x] : Array Operand).map a.eval = #[a.eval x] from by simp]
      exact run_bind' hq rfl
    · cases hr
  · split at hr
    · rename_i x l hx
      have e1 : args = (x :: l).toArray := by apply Array.ext'; simpa using hx
      subst e1
      obtain ⟨q, hq, hrq⟩ := sound_fold (g := Builtin.min2) (w := w) (P := P) (fun _ _ _ _ _ => sound_min2) (l.map (ev F)) (l.map a.eval) _ _ r (rep_ev hF x) (by simp) (fun i v u h1 h2 => by
        rw [List.getElem?_map] at h1 h2
        cases hl : l[i]? with
        | none => simp [hl] at h1
        | some y => simp [hl] at h1 h2; subst h1 h2; exact rep_ev hF y) hr
      refine ⟨q, ?_, hrq⟩
      refine run_builtin fun _ => run_bind' (w' := w) (x := q) ?_ rfl
      unfold Builtin.min_
      simpa using hq
    · cases hr
  · split at hr
    · rename_i x l hx
      have e1 : args = (x :: l).toArray := by apply Array.ext'; simpa using hx
      subst e1
      obtain ⟨q, hq, hrq⟩ := sound_fold (g := Builtin.max2) (w := w) (P := P) (fun _ _ _ _ _ => sound_max2) (l.map (ev F)) (l.map a.eval) _ _ r (rep_ev hF x) (by simp) (fun i v u h1 h2 => by
        rw [List.getElem?_map] at h1 h2
        cases hl : l[i]? with
        | none => simp [hl] at h1
        | some y => simp [hl] at h1 h2; subst h1 h2; exact rep_ev hF y) hr
      refine ⟨q, ?_, hrq⟩
      refine run_builtin fun _ => run_bind' (w' := w) (x := q) ?_ rfl
      unfold Builtin.max_
      simpa using hq
    · cases hr
  · cases hr

theorem sound_q (h : HRel base w0 Z φ H nx w) {F : Fr} {a : Act} (hF : FrRel Z φ F a.tmps) {o : Oper} {r : AV} (hr : aq P o.op F H = some r) :
    ∃ v, (execOp a.eval o).run P w = .ok (.value v) w ∧ Rep Z φ r v := by
  obtain ⟨d, op, t, p, af, g⟩ := o
  simp only at hr
  cases op <;> simp only [aq] at hr <;> try (cases hr; done)
  case move x => injection hr with hr; subst hr; exact ⟨_, rfl, rep_ev hF _⟩
  case assign x => injection hr with hr; subst hr; exact ⟨_, rfl, rep_ev hF _⟩
  case pick c x y =>
    simp only [Option.map_eq_some_iff] at hr
    obtain ⟨b, hb, rfl⟩ := hr
    have hc := rep_ev hF c
    cases hcv : ev F c <;> rw [hcv] at hb hc <;> simp [asB] at hb
    subst hb
    rename_i b
    have hce : a.eval c = .bool b := by generalize a.eval c = u at hc; cases hc; rfl
    refine ⟨if b then a.eval x else a.eval y, ?_, by
      cases b with
      | false => exact rep_ev hF y
      | true => exact rep_ev hF x⟩
    simp only [execOp, hce]; rfl
  case load t x => obtain ⟨v, hv, hrv⟩ := sound_load h (rep_ev hF x) hr; exact ⟨v, run_val hv, hrv⟩
  case nilCheck x => exact ⟨_, sound_nilCheck (rep_ev hF x) hr _ _ rfl ..⟩
  case binOp op t x y yt => obtain ⟨v, hv, hrv⟩ := sound_bin (w := w) (rep_ev hF x) (rep_ev hF y) hr; exact ⟨v, run_val hv, hrv⟩
  case unOp op t x => obtain ⟨v, hv, hrv⟩ := sound_un (P := P) (w := w) (rep_ev hF x) hr; exact ⟨v, run_val hv, hrv⟩
  case convert s d x => obtain ⟨v, hv, hrv⟩ := sound_conv h (rep_ev hF x) hr; exact ⟨v, run_val hv, hrv⟩
  case makeInterface t x => obtain ⟨v, hv, hrv⟩ := sound_mkIface (w := w) (rep_ev hF x) hr; exact ⟨v, run_val hv, hrv⟩
  case makeFunc fn first cap =>
    injection hr with hr; subst hr
    obtain ⟨h1, h2⟩ := reps_ev hF first
    obtain ⟨h3, h4⟩ := reps_ev hF cap
    exact ⟨_, run_val (s := Instr.makeFunc fn (first.map a.eval) (cap.map a.eval)) rfl, .fn h1 h3 h2 h4⟩
  case slice t x lo hi mx => obtain ⟨v, hv, hrv⟩ := sound_slice (w := w) (rep_ev hF x) (repO_ev hF lo) (repO_ev hF hi) (repO_ev hF mx) hr; exact ⟨v, run_val hv, hrv⟩
  case fieldAddr t x f => obtain ⟨v, hv, hrv⟩ := sound_fieldAddr (w := w) (rep_ev hF x) hr; exact ⟨v, run_val hv, hrv⟩
  case field t x f => obtain ⟨v, hv, hrv⟩ := sound_field (w := w) (rep_ev hF x) hr; exact ⟨v, run_val hv, hrv⟩
  case indexAddr t x i => obtain ⟨v, hv, hrv⟩ := sound_indexAddr (w := w) (rep_ev hF x) (rep_ev hF i) hr; exact ⟨v, run_val hv, hrv⟩
  case index t x i => obtain ⟨v, hv, hrv⟩ := sound_index (w := w) (rep_ev hF x) (rep_ev hF i) hr; exact ⟨v, run_val hv, hrv⟩
  case lookup t x k ok => obtain ⟨v, hv, hrv⟩ := sound_lookup h (rep_ev hF x) (rep_ev hF k) hr; exact ⟨v, run_val hv, hrv⟩
  case typeAssert x xt t ok => obtain ⟨v, hv, hrv⟩ := sound_typeAssert (xt := xt) (w := w) (rep_ev hF x) hr; exact ⟨v, run_val hv, hrv⟩
  case extract x i => obtain ⟨v, hv, hrv⟩ := sound_extract (P := P) (w := w) (rep_ev hF x) hr; exact ⟨v, run_val hv, hrv⟩
  case build t ps =>
    obtain ⟨v, hv, hrv⟩ := sound_build (w := w) (qs := ps.map fun (i, x) => (i, a.eval x)) (by simp) (fun i p q h1 h2 => by
      rw [List.getElem?_map] at h1
      rw [Array.getElem?_map] at h2
      cases hp : ps[i]? with
      | none => simp [hp] at h2
      | some y => simp [hp] at h1 h2; subst h1 h2; exact ⟨rfl, rep_ev hF _⟩) hr
    exact ⟨v, run_val hv, hrv⟩
  case call c => exact sound_qCall h hF hr

end
end Go.Lom
