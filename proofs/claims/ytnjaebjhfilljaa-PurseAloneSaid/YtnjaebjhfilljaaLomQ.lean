/- Regions that draw their order: one order serves all: the proof. -/
import Derived.Test.YtnjaebjhfilljaaLomP
set_option linter.unusedSimpArgs false
set_option linter.unusedVariables false
namespace Go.Lom
open Go.RowKit

theorem ev_congr {F F' : Fr} {x : Operand} (h : ∀ t, x = .tmp t → F.get t = F'.get t) : ev F x = ev F' x := by
  cases x <;> simp only [ev]
  exact h _ rfl

theorem evs_congr {F F' : Fr} {xs : Array Operand} (h : ∀ t, Operand.tmp t ∈ xs → F.get t = F'.get t) : xs.toList.map (ev F) = xs.toList.map (ev F') :=
  List.map_congr_left fun x hx => ev_congr fun t ht => h t (by subst ht; simpa using hx)

theorem evo_congr {F F' : Fr} {x : Option Operand} (h : ∀ t, x = some (.tmp t) → F.get t = F'.get t) : x.map (ev F) = x.map (ev F') := by
  cases x with
  | none => rfl
  | some x => simp only [Option.map_some]; rw [ev_congr fun t ht => h t (by rw [ht])]

def Agree (F F' : Fr) (op : Op) : Prop := ∀ t, Operand.tmp t ∈ op.operands.toList → F.get t = F'.get t

theorem aqCall_congr {P : Program} {F F' : Fr} {H : Heap} {c : Call} (h : ∀ t, Operand.tmp t ∈ c.args → F.get t = F'.get t) : aqCall P c F H = aqCall P c F' H := by
  obtain ⟨callee, args, ats⟩ := c
  simp only at h
  have h1 := evs_congr h
  unfold aqCall
  simp only
  split
  · split
    · rename_i x t hx ht
      have e1 : args = #[x] := by apply Array.ext'; simpa using hx
      subst e1
      simp at h1; rw [h1]
    · rfl
  · split
    · rename_i x l hx
      have e1 : args = (x :: l).toArray := by apply Array.ext'; simpa using hx
      subst e1
      simp only [List.map_cons, List.cons.injEq] at h1
      rw [h1.1, h1.2]
    · rfl
  · split
    · rename_i x l hx
      have e1 : args = (x :: l).toArray := by apply Array.ext'; simpa using hx
      subst e1
      simp only [List.map_cons, List.cons.injEq] at h1
      rw [h1.1, h1.2]
    · rfl
  · rfl

theorem aq_congr {P : Program} {F F' : Fr} {H : Heap} {op : Op} (h : Agree F F' op) : aq P op F H = aq P op F' H := by
  unfold Agree at h
  cases op <;> simp only [aq] <;> simp only [Op.operands] at h
  case move x => rw [ev_congr fun t ht => h t (by simp [ht])]
  case assign x => rw [ev_congr fun t ht => h t (by simp [ht])]
  case pick c a b => rw [ev_congr (x := c) fun t ht => h t (by simp [ht]), ev_congr (x := a) fun t ht => h t (by simp [ht]), ev_congr (x := b) fun t ht => h t (by simp [ht])]
  case load t x => rw [ev_congr (x := x) fun t ht => h t (by simp [ht])]
  case nilCheck x => rw [ev_congr (x := x) fun t ht => h t (by simp [ht])]
  case binOp op t x y yt => rw [ev_congr (x := x) fun t ht => h t (by simp [ht]), ev_congr (x := y) fun t ht => h t (by simp [ht])]
  case unOp op t x => rw [ev_congr (x := x) fun t ht => h t (by simp [ht])]
  case convert s d x => rw [ev_congr (x := x) fun t ht => h t (by simp [ht])]
  case makeInterface t x => rw [ev_congr (x := x) fun t ht => h t (by simp [ht])]
  case makeFunc fn first cap => rw [evs_congr (xs := first) fun t ht => h t (by simp [ht]), evs_congr (xs := cap) fun t ht => h t (by simp [ht])]
  case slice t x lo hi mx => rw [ev_congr (x := x) fun t ht => h t (by simp [ht]), evo_congr (x := lo) fun t ht => h t (by simp [ht]), evo_congr (x := hi) fun t ht => h t (by simp [ht]), evo_congr (x := mx) fun t ht => h t (by simp [ht])]
  case fieldAddr t x f => rw [ev_congr (x := x) fun t ht => h t (by simp [ht])]
  case field t x f => rw [ev_congr (x := x) fun t ht => h t (by simp [ht])]
  case indexAddr t x i => rw [ev_congr (x := x) fun t ht => h t (by simp [ht]), ev_congr (x := i) fun t ht => h t (by simp [ht])]
  case index t x i => rw [ev_congr (x := x) fun t ht => h t (by simp [ht]), ev_congr (x := i) fun t ht => h t (by simp [ht])]
  case lookup t x i ok => rw [ev_congr (x := x) fun t ht => h t (by simp [ht]), ev_congr (x := i) fun t ht => h t (by simp [ht])]
  case typeAssert x xt t ok => rw [ev_congr (x := x) fun t ht => h t (by simp [ht])]
  case extract x i => rw [ev_congr (x := x) fun t ht => h t (by simp [ht])]
  case build t ps =>
    congr 1
    refine List.map_congr_left fun p hp => ?_
    rw [ev_congr (x := p.2) fun t ht => h t (by simp; exact ⟨p.1, by rw [← ht]; simpa using hp⟩)]
  case call c =>
    refine aqCall_congr fun t ht => h t ?_
    simp only [Call.operands]
    simp [ht]

theorem ae_congr {P : Program} {F F' : Fr} {H : Heap} {nx : Nat} {op : Op} (h : Agree F F' op) : ae P op F H nx = ae P op F' H nx := by
  unfold Agree at h
  cases op <;> simp only [ae] <;> simp only [Op.operands] at h
  case box t x => rw [ev_congr (x := x) fun t ht => h t (by simp [ht])]
  case buildSlice t len ps =>
    congr 1
    refine List.map_congr_left fun p hp => ?_
    rw [ev_congr (x := p.2) fun t ht => h t (by simp; exact ⟨p.1, by rw [← ht]; simpa using hp⟩)]
  case store t x v => rw [ev_congr (x := x) fun t ht => h t (by simp [ht]), ev_congr (x := v) fun t ht => h t (by simp [ht])]
  case makeMap t x => rw [evo_congr (x := x) fun t ht => h t (by simp [ht])]
  case makeSlice t l c => rw [ev_congr (x := l) fun t ht => h t (by simp [ht]), ev_congr (x := c) fun t ht => h t (by simp [ht])]
  case mapUpdate t m k v => rw [ev_congr (x := m) fun t ht => h t (by simp [ht]), ev_congr (x := k) fun t ht => h t (by simp [ht]), ev_congr (x := v) fun t ht => h t (by simp [ht])]
  case insert t m k v => rw [ev_congr (x := m) fun t ht => h t (by simp [ht]), ev_congr (x := k) fun t ht => h t (by simp [ht]), ev_congr (x := v) fun t ht => h t (by simp [ht])]
  case call c =>
    obtain ⟨callee, args, ats⟩ := c
    have h1 := evs_congr (xs := args) (F := F) (F' := F') fun t ht => h t (by simp only [Call.operands]; simp [ht])
    unfold aecall
    simp only
    split
    · split
      · rename_i x y t1 t2 hx ht
        have e1 : args = #[x, y] := by apply Array.ext'; simpa using hx
        subst e1
        simp at h1
        rw [h1.1, h1.2]
      · rfl
    · rfl

theorem SOpR_congr {P : Program} {o : Oper} {F F' : Fr} {H : Heap} {nx : Nat} {df : List ADef} {K : AV → Heap → Nat → List ADef → Prop} {QP : AV → Heap → Nat → Prop} (hag : Agree F F' o.op) (h : SOpR P o F H nx df K QP) : SOpR P o F' H nx df K QP := by
  have h1 := aq_congr (P := P) (H := H) hag
  have h2 := ae_congr (P := P) (H := H) (nx := nx) hag
  have h3 : ∀ r H' nx', AeOk P o F H nx r H' nx' ↔ AeOk P o F' H nx r H' nx' := by
    intro r H' nx'
    have : ∀ x ∈ o.op.operands.toList, ev F x = ev F' x := fun x hx => ev_congr (x := x) fun t ht => hag t (by rw [← ht]; exact hx)
    exact ⟨fun h base w0 Z φ w ρ hH hr => h base w0 Z φ w ρ hH fun x hx => by rw [this x hx]; exact hr x hx, fun h base w0 Z φ w ρ hH hr => h base w0 Z φ w ρ hH fun x hx => by rw [← this x hx]; exact hr x hx⟩
  obtain ⟨dst, op, ty, pos, after, guard⟩ := o
  simp only at hag h1 h2 h3
  unfold Agree at hag
  cases op <;> simp only [SOpR] at h ⊢ <;> simp only [Op.operands] at hag
  case panic x => rw [← ev_congr (F := F) (x := x) fun t ht => hag t (by simp [ht])]; exact h
  case defer c =>
    obtain ⟨callee, args, ats⟩ := c
    cases callee with
    | value f =>
      simp only at h ⊢
      rw [← ev_congr (F := F) (x := f) fun t ht => hag t (by simp [Call.operands, ht]), ← evs_congr (F := F) (xs := args) fun t ht => hag t (by simp only [Call.operands]; simp [ht])]
      exact h
    | invoke _ _ => exact h
    | builtin _ => exact h
  case call c =>
    obtain ⟨callee, args, ats⟩ := c
    cases callee with
    | value f =>
      simp only at h ⊢
      rw [← ev_congr (F := F) (x := f) fun t ht => hag t (by simp [Call.operands, ht]), ← evs_congr (F := F) (xs := args) fun t ht => hag t (by simp only [Call.operands]; simp [ht])]
      exact h
    | invoke _ _ => simp only [← h1, ← h2, ← h3]; exact h
    | builtin _ => simp only [← h1, ← h2, ← h3]; exact h
  all_goals (simp only [← h1, ← h2, ← h3]; exact h)

theorem aq_noread {P : Program} {F : Fr} {H H' : Heap} {op : Op} (hq : readsQ op = false) : aq P op F H = aq P op F H' := by
  cases op <;> simp only [aq] <;> simp [readsQ] at hq
  case call c =>
    obtain ⟨callee, args, ats⟩ := c
    unfold aqCall
    cases callee with
    | value f => rfl
    | invoke _ _ => rfl
    | builtin b => cases b <;> first | rfl | (simp [readsQ] at hq; done)

theorem lateV_cases (P : Program) (F F' : Fr) (H H' : Heap) (op : Op) : (∃ t len ps, op = .buildSlice t len ps) ∨ (lateV P op F H = aq P op F H ∧ lateV P op F' H' = aq P op F' H') := by
  cases op <;> first | exact .inl ⟨_, _, _, rfl⟩ | exact .inr ⟨rfl, rfl⟩
theorem lateV_congr {P : Program} {F F' : Fr} {H : Heap} {op : Op} (h : Agree F F' op) : lateV P op F H = lateV P op F' H := by
  rcases lateV_cases P F F' H H op with ⟨t, len, ps, rfl⟩ | ⟨h1, h2⟩
  · unfold Agree at h
    simp only [lateV]
    simp only [Op.operands] at h
    have : (ps.toList.map fun p => (p.1, ev F p.2)) = ps.toList.map fun p => (p.1, ev F' p.2) :=
      List.map_congr_left fun p hp => by rw [ev_congr (x := p.2) fun t ht => h t (by simp; exact ⟨p.1, by rw [← ht]; simpa using hp⟩)]
    rw [this]
  · rw [h1, h2]; exact aq_congr h
theorem lateV_noread {P : Program} {F : Fr} {H H' : Heap} {op : Op} (hq : readsQ op = false) : lateV P op F H = lateV P op F H' := by
  rcases lateV_cases P F F H H' op with ⟨t, len, ps, rfl⟩ | ⟨h1, h2⟩
  · rfl
  · rw [h1, h2]; exact aq_noread hq
theorem lateV_reads {P : Program} {F : Fr} {H : Heap} {op : Op} (hq : readsQ op = true) : lateV P op F H = aq P op F H := by
  rcases lateV_cases P F F H H op with ⟨t, len, ps, rfl⟩ | ⟨h1, h2⟩
  · simp [readsQ] at hq
  · exact h1
theorem lateV_sub {P : Program} {F : Fr} {H H' : Heap} {op : Op} (hs : Sub H H') {r : AV} (h : lateV P op F H = some r) : lateV P op F H' = some r := by
  rcases lateV_cases P F F H H' op with ⟨t, len, ps, rfl⟩ | ⟨h1, h2⟩
  · exact h
  · rw [h1] at h; rw [h2]; exact aq_sub hs h

end Go.Lom
