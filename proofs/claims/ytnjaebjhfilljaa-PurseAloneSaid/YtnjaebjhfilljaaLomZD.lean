/- Effects on unknown contents; an operation; calls: what they ask, and what follows. No conditions of its own. -/
import Derived.Test.YtnjaebjhfilljaaLomZC
set_option linter.unusedSimpArgs false
set_option linter.unusedVariables false
set_option linter.constructorNameAsVariable false
namespace Go.Lom
open Go.RowKit

abbrev ET := Option (Out × List Bool)

def storeT (P : Program) (t : TypeId) (a v : AV) (H : Heap) (nx : Nat) : ET :=
  match a with
  | .ptr b i o => match H.get b with
    | some (.lst τ xs) => match cellsOf v, szOf P t with
      | some cs, some n => if cs.length = n ∧ o + n ≤ τ.sz then match τ.dec [] (splice (τ.enc (xs.getD i τ.dflt)) o cs) with
        | some (y, ps) => some ((.undef, H.set b (.lst τ (xs.set i y)), nx), ps ++ [decide (i < xs.length)])
        | none => none
        else none
      | _, _ => none
    | _ => none
  | _ => none
def makeT (P : Program) (t : TypeId) (l c : AV) (H : Heap) (nx : Nat) : ET :=
  match l, c, sliceElem P t with
  | .int _ n, .int _ m, some e => match tyOf P 8 e, szOf P e, bytesOf P e, zeroCellsOf P e with
    | some τ, some s, some by_, some z => match τ.dec [] z with
      | some (d, ps) => if z.length = s ∧ s = τ.sz then some ((.sl nx τ.sz 0 n.toNat (some m.toNat), H.set nx (.lst τ (List.replicate m.toNat d)), nx + 1), ps ++ [decide (0 ≤ n ∧ n ≤ m ∧ (by_ : Int) * m ≤ 281474976710656 ∧ m ≤ 281474976710656)]) else none
      | none => none
    | _, _, _, _ => none
  | _, _, _ => none
def buildT (P : Program) (t : TypeId) (len : Nat) (parts : List (Nat × AV)) (H : Heap) (nx : Nat) : ET :=
  match sliceElem P t, aliteral P t len parts with
  | some e, some (s, es) => match tyOf P 8 e with
    | some τ => match mapD (τ.dec []) es with
      | some (xs, ps) => if s = τ.sz then some ((.sl nx τ.sz 0 len (some len), H.set nx (.lst τ xs), nx + 1), ps) else none
      | none => none
    | none => none
  | _, _ => none
def callT (P : Program) (c : Call) (F : Fr) (H : Heap) (nx : Nat) : ET :=
  match c.callee, c.args.toList, c.argTypes.toList with
  | .builtin .append, [x, y], [t, t'] => if t = t' then appT P t (ev F x) (ev F y) H nx else none
  | _, _, _ => none
def eT (P : Program) (op : Op) (F : Fr) (H : Heap) (nx : Nat) : ET :=
  match op with
  | .store t a v => storeT P t (ev F a) (ev F v) H nx
  | .makeSlice t l c => makeT P t (ev F l) (ev F c) H nx
  | .buildSlice t len ps => buildT P t len (ps.toList.map fun p => (p.1, ev F p.2)) H nx
  | .call c => callT P c F H nx
  | _ => none

section
variable {P : Program} {base : Nat → Prop} {w0 : Start} {Z : ZMap} {φ : PMap} {H : Heap} {nx : Nat} {w : World}

theorem storeT_core (hh : HRel base w0 Z φ H nx w) {t : TypeId} {x v r : AV} {ux uv : Value} {H' : Heap} {nx' : Nat} {ps : List Bool} (hx : Rep Z φ x ux) (hv : Rep Z φ v uv) (hr : storeT P t x v H nx = some ((r, H', nx'), ps)) (hp : ∀ p ∈ ps, p = true) :
    ∃ w', (Instr.storeAt t ux uv).run P w = .ok () w' ∧ r = .undef ∧ HRel base w0 Z φ H' nx' w' := by
  unfold storeT at hr
  split at hr
  rotate_left
  · cases hr
  rename_i b i o
  split at hr
  rotate_left
  · cases hr
  rename_i τ xs hb
  split at hr
  rotate_left
  · cases hr
  rename_i cs n hcs hn
  split at hr
  rotate_left
  · cases hr
  rename_i hc
  split at hr
  rotate_left
  · cases hr
  rename_i y ps0 hd
  simp only [Option.some.injEq, Prod.mk.injEq] at hr
  obtain ⟨⟨rfl, rfl, rfl⟩, rfl⟩ := hr
  have hi : i < xs.length := of_decide_eq_true (hp _ (List.mem_append_right _ (List.mem_singleton.2 rfl)))
  have hg := getElem?_getD τ.dflt hi
  have has : astore P t (.ptr b i o) v H nx = some (.undef, H.set b (.row τ.sz ((xs.map τ.enc).set i (splice (τ.enc (xs.getD i τ.dflt)) o cs))), nx) := by
    simp only [astore, hb, asRow, Option.bind_eq_bind, Option.bind_some, List.getElem?_map, hg, Option.map_some, hcs, hn, Ty.enc_length]
    rw [if_pos hc]
  obtain ⟨w', h1, h2, h3⟩ := sound_store hh hx hv has
  refine ⟨w', h1, h2, h3.retype rfl fun l hrow => rowRel_weak hrow rfl (by simp) fun j e hj => ?_⟩
  rw [List.getElem?_set] at hj
  by_cases hij : i = j
  · subst hij
    rw [if_pos rfl, if_pos (by simpa using hi)] at hj
    injection hj with hj; subst hj
    refine ⟨y, by rw [List.getElem?_set, if_pos rfl, if_pos hi], dec_weak hd fun p h => hp p (List.mem_append_left _ h)⟩
  · rw [if_neg hij, List.getElem?_map] at hj
    cases hx : xs[j]? with
    | none => rw [hx] at hj; cases hj
    | some z =>
      rw [hx] at hj; injection hj with hj; subst hj
      exact ⟨z, by rw [List.getElem?_set, if_neg hij, hx], WeakS.refl _⟩

theorem makeT_core (hh : HRel base w0 Z φ H nx w) {t : TypeId} {x y : AV} {ux uy : Value} {r : AV} {H' : Heap} {nx' : Nat} {ps : List Bool} (hx : Rep Z φ x ux) (hy : Rep Z φ y uy) (hr : makeT P t x y H nx = some ((r, H', nx'), ps)) (hp : ∀ p ∈ ps, p = true) :
    ValOk base w0 Z φ r H' nx' ((Instr.makeSlice t ux uy).run P w) := by
  unfold makeT at hr
  split at hr
  rotate_left
  · cases hr
  rename_i k1 n k2 m e he
  split at hr
  rotate_left
  · cases hr
  rename_i τ s by_ z hτ hs hby hz
  split at hr
  rotate_left
  · cases hr
  rename_i d ps0 hd
  split at hr
  rotate_left
  · cases hr
  rename_i hzl
  obtain ⟨hzl, rfl⟩ := hzl
  simp only [Option.some.injEq, Prod.mk.injEq] at hr
  obtain ⟨⟨rfl, rfl, rfl⟩, rfl⟩ := hr
  have hc : 0 ≤ n ∧ n ≤ m ∧ (by_ : Int) * m ≤ 281474976710656 ∧ m ≤ 281474976710656 := of_decide_eq_true (hp _ (List.mem_append_right _ (List.mem_singleton.2 rfl)))
  have ham : amakeSlice P t (.int k1 n) (.int k2 m) H nx = some (.sl nx τ.sz 0 n.toNat (some m.toNat), H.set nx (.row τ.sz (List.replicate m.toNat z)), nx + 1) := by
    simp only [amakeSlice, he, hs, hby, hz, asI, Option.bind_eq_bind, Option.bind_some]
    rw [if_pos ⟨hzl, hc.1, hc.2.1, hc.2.2.1, hc.2.2.2⟩]
  obtain ⟨v, w', Z', φ', h1, h2, h3, h4, h5⟩ := sound_makeSlice hh hx hy ham
  refine ⟨v, w', Z', φ', h1, h2, h3, h4, h5.retype rfl fun l hrow => rowRel_weak hrow rfl (by simp) fun j e hj => ?_⟩
  rw [List.getElem?_replicate] at hj
  split at hj
  · rename_i hjm
    injection hj with hj; subst hj
    exact ⟨d, by rw [List.getElem?_replicate, if_pos hjm], dec_weak hd fun p h => hp p (List.mem_append_left _ h)⟩
  · cases hj

theorem buildT_core (hh : HRel base w0 Z φ H nx w) {t : TypeId} {len : Nat} {ps : List (Nat × AV)} {qs : Array (Nat × Value)} {r : AV} {H' : Heap} {nx' : Nat} {cs : List Bool} (hl : qs.size = ps.length)
    (hps : ∀ (i : Nat) (p : Nat × AV) (q : Nat × Value), ps[i]? = some p → qs[i]? = some q → p.1 = q.1 ∧ Rep Z φ p.2 q.2) (hr : buildT P t len ps H nx = some ((r, H', nx'), cs)) (hp : ∀ p ∈ cs, p = true) :
    ValOk base w0 Z φ r H' nx' ((Instr.buildSlice t len qs).run P w) := by
  unfold buildT at hr
  split at hr
  rotate_left
  · cases hr
  rename_i e s es he hlit
  split at hr
  rotate_left
  · cases hr
  rename_i τ hτ
  split at hr
  rotate_left
  · cases hr
  rename_i xs ps0 hm
  split at hr
  rotate_left
  · cases hr
  rename_i hs
  subst hs
  simp only [Option.some.injEq, Prod.mk.injEq] at hr
  obtain ⟨⟨rfl, rfl, rfl⟩, rfl⟩ := hr
  have hab : abuildSlice P t len ps H nx = some (.sl nx τ.sz 0 len (some len), H.set nx (.row τ.sz es), nx + 1) := by
    simp only [abuildSlice, hlit, Option.bind_eq_bind, Option.bind_some]
  obtain ⟨v, w', Z', φ', h1, h2, h3, h4, h5⟩ := sound_buildSlice hh hl hps hab
  obtain ⟨k1, k2⟩ := mapD_get hm
  refine ⟨v, w', Z', φ', h1, h2, h3, h4, h5.retype rfl fun l hrow => rowRel_weak hrow rfl k1.symm fun j e hj => ?_⟩
  obtain ⟨x, p, hx, hd, hq⟩ := k2 j e hj
  exact ⟨x, hx, dec_weak hd fun q hq' => hp q (hq q hq')⟩

theorem eT_ok {o : Oper} {F : Fr} {r : AV} {H' : Heap} {nx' : Nat} {ps : List Bool} (hr : eT P o.op F H nx = some ((r, H', nx'), ps)) (hp : ∀ p ∈ ps, p = true) : isVar o.op = false ∧ AeOk P o F H nx r H' nx' := by
  obtain ⟨d, op, t, p, af, g⟩ := o
  simp only at hr
  cases op <;> try (cases hr; done)
  case store t a v =>
    have hr : storeT P t (ev F a) (ev F v) H nx = some ((r, H', nx'), ps) := hr
    refine ⟨rfl, fun base w0 Z φ w ρ hh hrep => ?_⟩
    have q1 : Rep Z φ (ev F a) (ρ a) := hrep a (by simp [Op.operands])
    have q2 : Rep Z φ (ev F v) (ρ v) := hrep v (by simp [Op.operands])
    exact outUnit (storeT_core hh q1 q2 hr hp)
  case makeSlice t l c =>
    have hr : makeT P t (ev F l) (ev F c) H nx = some ((r, H', nx'), ps) := hr
    refine ⟨rfl, fun base w0 Z φ w ρ hh hrep => ?_⟩
    have q1 : Rep Z φ (ev F l) (ρ l) := hrep l (by simp [Op.operands])
    have q2 : Rep Z φ (ev F c) (ρ c) := hrep c (by simp [Op.operands])
    have q3 := makeT_core hh q1 q2 hr hp
    exact q3.out
  case buildSlice t len qs =>
    have hr : buildT P t len (qs.toList.map fun p => (p.1, ev F p.2)) H nx = some ((r, H', nx'), ps) := hr
    refine ⟨rfl, fun base w0 Z φ w ρ hh hrep => ?_⟩
    have hps : ∀ (i : Nat) (p : Nat × AV) (q : Nat × Value), (qs.toList.map fun p => (p.1, ev F p.2))[i]? = some p → (qs.map fun (i, x) => (i, ρ x))[i]? = some q → p.1 = q.1 ∧ Rep Z φ p.2 q.2 := by
      intro i p q h1 h2
      rw [List.getElem?_map] at h1
      rw [Array.getElem?_map] at h2
      cases hq : qs[i]? with
      | none => simp [hq] at h2
      | some y =>
        simp [hq] at h1 h2
        subst h1 h2
        refine ⟨rfl, hrep y.2 ?_⟩
        have : y ∈ qs := Array.mem_of_getElem? hq
        simp only [Op.operands, List.mem_map, Array.mem_toList_iff]
        exact ⟨y, this, rfl⟩
    have q3 := buildT_core (P := P) hh (by simp) hps hr hp
    exact q3.out
  case call c =>
    replace hr : callT P c F H nx = some ((r, H', nx'), ps) := hr
    obtain ⟨callee, args, ats⟩ := c
    unfold callT at hr
    split at hr
    · rename_i x y t1 t2 hcal hx ht
      simp only at hcal hx ht
      subst hcal
      have e1 : args = #[x, y] := by apply Array.ext'; simpa using hx
      have e2 : ats = #[t1, t2] := by apply Array.ext'; simpa using ht
      subst e1 e2
      split at hr
      · rename_i htt
        subst htt
        refine ⟨rfl, fun base w0 Z φ w ρ hh hrep => ?_⟩
        have q1 : Rep Z φ (ev F x) (ρ x) := hrep x (by simp [Op.operands, Call.operands])
        have q2 : Rep Z φ (ev F y) (ρ y) := hrep y (by simp [Op.operands, Call.operands])
        obtain ⟨v, w', Z', φ', h1, h2, h3, h4, h5⟩ := append_core (ty := t) hh q1 q2 hr hp
        refine ⟨.value v, w', Z', φ', ?_, .inl ⟨v, rfl, h2⟩, h3, h4, h5⟩
        refine run_builtin fun _ => ?_
        rw [show (#[x, y] : Array Operand).map ρ = #[ρ x, ρ y] from by simp]
        exact run_bind' h1 rfl
      · cases hr
    · cases hr
end

/-! ### One operation -/
abbrev CallX := FuncId → List AV → Heap → Nat → (AE → Heap → Nat → Prop) → Prop
def CallXOk (P : Program) (call : CallX) : Prop := ∀ k avs H nx R, call k avs H nx R → SCall P k avs H nx R

def retK (K : AV → Heap → Nat → Prop) (QP : AV → Heap → Nat → Prop) : AE → Heap → Nat → Prop := fun x H nx =>
  match x with
  | .ret v => K v H nx
  | .panic v => QP v H nx

/-- What an effect asks, and what follows it. -/
def xe (P : Program) (op : Op) (F : Fr) (H : Heap) (nx : Nat) (K : AV → Heap → Nat → Prop) : Prop :=
  match eT P op F H nx with
  | some ((r, H', nx'), ps) => allP ps (K r H' nx')
  | none => match ae P op F H nx with
    | some (r, H', nx') => K r H' nx'
    | none => False
def isEff : Op → Bool
  | .alloc _ | .box .. | .buildSlice .. | .store .. | .makeMap .. | .makeSlice .. | .mapUpdate .. | .insert .. => true
  | .call { callee := .builtin .append, .. } => true
  | _ => false
def xop (P : Program) (call : CallX) (o : Oper) (F : Fr) (H : Heap) (nx : Nat) (df : List ADef) (K : AV → Heap → Nat → List ADef → Prop) (QP : AV → Heap → Nat → Prop) : Prop :=
  match o.op with
  | .panic x => match ev F x with
    | .iface t v => QP (.iface t v) H nx
    | _ => False
  | .defer c => match c.callee with
    | .value f => match calleeOf (ev F f) with
      | some (k, first, cap) => req (funcOk P k) (K .undef H nx (⟨k, first ++ c.args.toList.map (ev F) ++ cap⟩ :: df))
      | none => False
    | _ => False
  | .call { callee := .value f, args, .. } => match calleeOf (ev F f) with
    | some (k, first, cap) => req (funcOk P k) (call k (first ++ args.toList.map (ev F) ++ cap) H nx (retK (fun v H' nx' => K v H' nx' df) QP))
    | none => False
  | op => match isEff op with
    | true => xe P op F H nx (fun r H' nx' => K r H' nx' df)
    | false => xq P op F H (fun r => K r H nx df)

theorem xop_ok {P : Program} {call : CallX} (hc : CallXOk P call) {o : Oper} {F : Fr} {H : Heap} {nx : Nat} {df : List ADef} {K : AV → Heap → Nat → List ADef → Prop} {QP : AV → Heap → Nat → Prop} (h : xop P call o F H nx df K QP) : SOpR P o F H nx df K QP := by
  have plain : (match isEff o.op with
    | true => xe P o.op F H nx (fun r H' nx' => K r H' nx' df)
    | false => xq P o.op F H (fun r => K r H nx df)) → (∃ r, aq P o.op F H = some r ∧ K r H nx df) ∨ (∃ r H' nx', ae P o.op F H nx = some (r, H', nx') ∧ K r H' nx' df) ∨ (isVar o.op = false ∧ ∃ r H' nx', AeOk P o F H nx r H' nx' ∧ K r H' nx' df) := by
    intro h
    split at h
    · unfold xe at h
      split at h
      · rename_i r H' nx' ps he
        rw [allP_iff] at h
        obtain ⟨h1, h2⟩ := eT_ok he h.1
        exact .inr (.inr ⟨h1, r, H', nx', h2, h.2⟩)
      · split at h
        · rename_i r H' nx' he
          exact .inr (.inl ⟨r, H', nx', he, h⟩)
        · exact h.elim
    · obtain ⟨r, h1, h2⟩ := xq_ok h
      exact .inl ⟨r, h1, h2⟩
  obtain ⟨dst, op, ty, pos, after, guard⟩ := o
  unfold xop at h
  unfold SOpR
  simp only at h plain ⊢
  split at h
  · exact h
  · rename_i c
    simp only
    split at h
    · rename_i f hf
      simp only [hf]
      split at h
      · rename_i k first cap hco
        rw [req_iff] at h
        exact ⟨k, first, cap, hco, h.1, h.2⟩
      · exact h.elim
    · exact h.elim
  · rename_i f args ats
    split at h
    · rename_i k first cap hco
      rw [req_iff] at h
      refine ⟨k, first, cap, hco, h.1, (hc _ _ _ _ _ h.2).mono fun x H' nx' hx => ?_⟩
      cases x <;> exact hx
    · exact h.elim
  · rename_i h1 h2 h3
    cases op with
    | panic x => exact (h1 x rfl).elim
    | defer c => exact (h2 c rfl).elim
    | call c =>
      obtain ⟨callee, args, ats⟩ := c
      cases callee with
      | value f => exact (h3 f args ats rfl).elim
      | invoke _ _ => exact plain h
      | builtin _ => exact plain h
    | _ => exact plain h
end Go.Lom
