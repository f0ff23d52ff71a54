import Derived.Test.YtfenogdjhadcoaaGreatLibV
import Derived.ChangeArms
import Derived.Carry
import Derived.OpenShut
import Derived.SizedLaws
/- Typed contents read out of abstract values: plain definitions, and that they say the same of memory once the blocks that they come from are frozen. No conditions. -/
set_option linter.constructorNameAsVariable false
set_option linter.unusedSimpArgs false
set_option linter.unusedVariables false
namespace Go.Lom
open Go.RowKit

def castL {t' t : Ty} (h : t' = t) (xs : List t'.den) : List t.den := h ▸ xs
theorem castL_self {t : Ty} (h : t = t) (xs : List t.den) : castL h xs = xs := rfl

/-- Conditions, then something. -/
def req (b : Bool) (K : Prop) : Prop := match b with | true => K | false => False
theorem req_iff {b : Bool} {K : Prop} : req b K ↔ b = true ∧ K := by cases b <;> simp [req]
def allP : List Bool → Prop → Prop
  | [], K => K
  | p :: l, K => req p (allP l K)
theorem allP_iff : ∀ (l : List Bool) (K : Prop), allP l K ↔ (∀ p ∈ l, p = true) ∧ K
  | [], K => by simp [allP]
  | p :: l, K => by simp only [allP, req_iff, allP_iff l K, List.forall_mem_cons, and_assoc]

def mapD {α : Type} (d : List AV → Option (α × List Bool)) : List (List AV) → Option (List α × List Bool)
  | [] => some ([], [])
  | e :: es => match d e with
    | some (x, p) => match mapD d es with
      | some (xs, q) => some (x :: xs, p ++ q)
      | none => none
    | none => none

def seg {α : Type} (off len : Nat) (xs : List α) : List α := (xs.drop off).take len
theorem seg_all {α : Type} (xs : List α) : seg 0 xs.length xs = xs := by simp [seg]

/-- The elements of a slice, read as contents of a type. -/
def elemsD (H : Heap) (t : Ty) (d : List AV → Option (t.den × List Bool)) : AV → Option (List t.den × List Bool)
  | .nils => some ([], [])
  | .emp => some ([], [])
  | .rl t' xs => if h : t' = t then some (castL h xs, []) else none
  | .rs xs => mapD d xs
  | .sl b s off len _ => if s = t.sz then match H.get b with
      | some (.lst t' xs) => if h : t' = t then some (seg off len (castL h xs), [decide (off + len ≤ xs.length)]) else none
      | some (.row _ es) => if off + len ≤ es.length then mapD d (seg off len es) else none
      | _ => none
    else none
  | _ => none

def pairD {α β : Type} (x : Option (α × List Bool)) (y : Option (β × List Bool)) : Option ((α × β) × List Bool) :=
  match x with
  | some (a, p) => match y with
    | some (b, q) => some ((a, b), p ++ q)
    | none => none
  | none => none

def decI (k : IntKind) : List AV → Option (Int × List Bool)
  | [.int k' n] => if k = k' then some (n, []) else none
  | _ => none
def decB : List AV → Option (Bool × List Bool)
  | [.bool x] => some (x, [])
  | _ => none
def decS : List AV → Option (List UInt8 × List Bool)
  | [.str x] => some (x, [])
  | _ => none
def decL {α : Type} (f : AV → Option (α × List Bool)) : List AV → Option (α × List Bool)
  | [v] => f v
  | _ => none

/-- The elements of an array, out of its cells. -/
def chunkN (s : Nat) : Nat → List AV → List (List AV)
  | 0, _ => []
  | n + 1, cs => cs.take s :: chunkN s n (cs.drop s)
theorem chunkN_length (s : Nat) : ∀ (n : Nat) (cs : List AV), (chunkN s n cs).length = n
  | 0, _ => rfl
  | n + 1, cs => by simp [chunkN, chunkN_length s n]
theorem chunkN_flatten (s : Nat) : ∀ (n : Nat) (cs : List AV), cs.length = n * s → (chunkN s n cs).flatten = cs
  | 0, cs, h => by
    have : cs = [] := List.eq_nil_of_length_eq_zero (by simpa using h)
    rw [this]; rfl
  | n + 1, cs, h => by
    simp only [chunkN, List.flatten_cons]
    rw [chunkN_flatten s n _ (by rw [List.length_drop, h, Nat.add_mul]; omega), List.take_append_drop]

/-- A content read out of cells: the content, and the conditions. -/
def Ty.dec (H : Heap) : (t : Ty) → List AV → Option (t.den × List Bool)
  | .i k => decI k
  | .b => decB
  | .s => decS
  | .sl t => decL (elemsD H t (t.dec H))
  | .pr x y => fun cs => pairD (x.dec H (cs.take x.sz)) (y.dec H (cs.drop x.sz))
  | .ar n t => fun cs => if cs.length = n * t.sz then mapD (t.dec H) (chunkN t.sz n cs) else none
def Ty.decV (H : Heap) : (t : Ty) → AV → Option (t.den × List Bool)
  | .pr x y, .agg cs => Ty.dec H (.pr x y) cs
  | .pr _ _, _ => none
  | .ar n t, .ar t' xs => if h : t' = t then some (castL h xs, [decide (xs.length = n)]) else none
  | .ar n t, .agg cs => Ty.dec H (.ar n t) cs
  | .ar _ _, _ => none
  | t, v => t.dec H [v]

/-- Contents of several types. -/
abbrev dens : List Ty → Type
  | [] => Unit
  | t :: ts => t.den × dens ts
def vals : (ts : List Ty) → dens ts → List AV
  | [], _ => []
  | t :: ts, x => t.val x.1 :: vals ts x.2
def decVs (H : Heap) : (ts : List Ty) → List AV → Option (dens ts × List Bool)
  | [], [] => some ((), [])
  | t :: ts, v :: vs => pairD (t.decV H v) (decVs H ts vs)
  | _, _ => none

/-! ### No numbers of blocks -/

theorem flatMap_cell {α : Type} {f : α → List AV} : ∀ (ys : List α) (j : Nat) (v : AV), (ys.flatMap f)[j]? = some v → ∃ y ∈ ys, ∃ i : Nat, (f y)[i]? = some v
  | [], j, v, h => by simp at h
  | y :: ys, j, v, h => by
    rw [List.flatMap_cons] at h
    by_cases hlt : j < (f y).length
    · rw [List.getElem?_append_left hlt] at h
      exact ⟨y, List.mem_cons_self .., j, h⟩
    · rw [List.getElem?_append_right (by omega)] at h
      obtain ⟨z, hz, i, hi⟩ := flatMap_cell ys _ v h
      exact ⟨z, List.mem_cons_of_mem _ hz, i, hi⟩
theorem enc_free {Z Z' : ZMap} (hZ : ZLe Z Z') {φ φ' : PMap} : ∀ (t : Ty) (x : t.den) (j : Nat) (v : AV) (u : Value), (t.enc x)[j]? = some v → Rep Z φ v u → Rep Z' φ' v u
  | .i k, n, j, v, u, hj, h => by
    cases j <;> simp [Ty.enc] at hj
    subst hj; cases h; exact .int _ _
  | .b, n, j, v, u, hj, h => by
    cases j <;> simp [Ty.enc] at hj
    subst hj; cases h; exact .bool _
  | .s, n, j, v, u, hj, h => by
    cases j <;> simp [Ty.enc] at hj
    subst hj; cases h; exact .str _
  | .sl t, xs, j, v, u, hj, h => by
    cases j <;> simp [Ty.enc] at hj
    subst hj
    have ih := enc_free hZ (φ := φ) (φ' := φ') t
    apply Rep.toRl
    have h := h.ofRl
    generalize hys : xs.map t.enc = ys at h
    cases h with
    | rs0 => exact .rs0
    | rs us hn hc ha h0 h1 h2 =>
      refine .rs us hn hc ha h0 (fun i e j v hi hj => zcell_mono hZ (h1 i e j v hi hj)) fun i e j v hi hj => ?_
      have hi' := hi
      rw [← hys, List.getElem?_map] at hi'
      cases hx : xs[i]? with
      | none => rw [hx] at hi'; cases hi'
      | some x =>
        rw [hx] at hi'; injection hi' with hi'
        exact ih x j v _ (by rw [hi']; exact hj) (h2 i e j v hi hj)
  | .pr a b, p, j, v, u, hj, h => by
    simp only [Ty.enc] at hj
    by_cases hlt : j < (a.enc p.1).length
    · rw [List.getElem?_append_left hlt] at hj
      exact enc_free hZ a p.1 j v u hj h
    · rw [List.getElem?_append_right (by omega)] at hj
      exact enc_free hZ b p.2 _ v u hj h
  | .ar n t, xs, j, v, u, hj, h => by
    simp only [Ty.enc] at hj
    obtain ⟨y, _, i, hi⟩ := flatMap_cell _ j v hj
    exact enc_free hZ t y i v u hi h
theorem val_free {Z Z' : ZMap} (hZ : ZLe Z Z') {φ φ' : PMap} (t : Ty) (x : t.den) {u : Value} (h : Rep Z φ (t.val x) u) : Rep Z' φ' (t.val x) u := by
  cases t with
  | i k => exact enc_free hZ (.i k) x 0 _ u rfl h
  | b => exact enc_free hZ .b x 0 _ u rfl h
  | s => exact enc_free hZ .s x 0 _ u rfl h
  | sl t => exact enc_free hZ (.sl t) x 0 _ u rfl h
  | pr a b =>
    simp only [Ty.val] at h ⊢
    cases h with
    | agg hl h => exact .agg hl fun i v u a b => enc_free hZ _ _ i v u a (h i v u a b)
  | ar n t =>
    have h := Rep.ofAr (show Rep Z φ (.ar t x) u from h)
    apply Rep.toAr
    generalize hc : AV.agg (x.flatMap t.enc) = a at h
    cases h <;> cases hc
    rename_i us hl h
    refine .agg hl fun i v u a b => ?_
    obtain ⟨y, _, k, hk⟩ := flatMap_cell _ i v a
    exact enc_free hZ t y k v u hk (h i v u a b)

/-- Cells that say no more than others. -/
def WeakC (Z Z' : ZMap) (φ φ' : PMap) (cs cs' : List AV) : Prop :=
  cs.length = cs'.length ∧ ∀ (j : Nat) (v : AV), cs[j]? = some v → ∃ v', cs'[j]? = some v' ∧ ∀ u, Rep Z φ v u → Rep Z' φ' v' u

theorem WeakC.append {Z Z' : ZMap} {φ φ' : PMap} {a b a' b' : List AV} (h : WeakC Z Z' φ φ' a a') (k : WeakC Z Z' φ φ' b b') : WeakC Z Z' φ φ' (a ++ b) (a' ++ b') := by
  refine ⟨by simp [h.1, k.1], fun j v hj => ?_⟩
  by_cases hlt : j < a.length
  · rw [List.getElem?_append_left hlt] at hj
    rw [List.getElem?_append_left (by have := h.1; omega)]
    exact h.2 j v hj
  · rw [List.getElem?_append_right (by omega)] at hj
    rw [List.getElem?_append_right (by have := h.1; omega), ← h.1]
    exact k.2 _ v hj

theorem mapD_get {α : Type} {d : List AV → Option (α × List Bool)} : ∀ {es : List (List AV)} {xs : List α} {ps : List Bool}, mapD d es = some (xs, ps) → es.length = xs.length ∧
    ∀ (i : Nat) (e : List AV), es[i]? = some e → ∃ x p, xs[i]? = some x ∧ d e = some (x, p) ∧ ∀ q ∈ p, q ∈ ps
  | [], xs, ps, h => by
    simp only [mapD, Option.some.injEq, Prod.mk.injEq] at h
    obtain ⟨rfl, rfl⟩ := h
    exact ⟨rfl, fun i e hi => by simp at hi⟩
  | e :: es, xs, ps, h => by
    simp only [mapD] at h
    split at h
    · rename_i x p hd
      split at h
      · rename_i ys q hm
        simp only [Option.some.injEq, Prod.mk.injEq] at h
        obtain ⟨rfl, rfl⟩ := h
        obtain ⟨h1, h2⟩ := mapD_get hm
        refine ⟨by simp [h1], fun i e' hi => ?_⟩
        cases i with
        | zero => simp at hi; subst hi; exact ⟨x, p, rfl, hd, fun q hq => List.mem_append_left _ hq⟩
        | succ i =>
          obtain ⟨y, r, hy, hr, hq⟩ := h2 i e' (by simpa using hi)
          exact ⟨y, r, by simpa using hy, hr, fun q hq' => List.mem_append_right _ (hq q hq')⟩
      · cases h
    · cases h

section
variable {base : Nat → Prop} {w0 : Start} {Z Z' : ZMap} {φ φ' : PMap} {H : Heap} {nx : Nat} {w : World}

/-- What of a heap is frozen. -/
def Froze (φ : PMap) (H : Heap) (w : World) (Z Z' : ZMap) : Prop :=
  ZLe Z Z' ∧ ∀ b x l, H.get b = some x → φ b = some l → Z' l.B = w.heap[l.B]?

/-- A row of a block that is frozen. -/
theorem rows_frozen {x : Ty} (hf : Froze φ H w Z Z') {b : Nat} {blk : Blk} {l : Loc} {s : Nat} {es : List (List AV)} (hb : H.get b = some blk) (hl : φ b = some l) (hr : rowRel Z φ w l s es)
    {off len c : Nat} {ys : List x.den} {a : Addr} (hs : s = x.sz) (hoff : off + len ≤ es.length) (hlen : len ≤ c) (ha : a = ⟨l.B, l.ob + off * l.s, none⟩ ∨ c = 0) (hy : ys.length = len)
    (hw : ∀ (i : Nat) (e : List AV), (seg off len es)[i]? = some e → ∃ y, ys[i]? = some y ∧ WeakC Z Z' φ φ' e (x.enc y)) : Rep Z' φ' (.rs (ys.map x.enc)) (.slice (some a) len c) := by
  obtain ⟨hs', hlim, cc, T, fz, hheap, hsz, _, he⟩ := hr
  have hZ' : Z' l.B = some (.cells cc T fz) := by rw [hf.2 b blk l hb hl, hheap]
  have cell : ∀ (i : Nat) (e : List AV) (j : Nat) (v : AV), (ys.map x.enc)[i]? = some e → e[j]? = some v → ∃ u, cc[l.ob + (off + i) * l.s + j]? = some u ∧ Rep Z' φ' v u := by
    intro i e j v hi hj
    have hil : i < len := by have := (List.getElem?_eq_some_iff.1 hi).1; simp at this; omega
    have hseg : (seg off len es)[i]? = es[off + i]? := by simp [seg, List.getElem?_take, hil]
    have hlt : off + i < es.length := by omega
    rw [List.getElem?_eq_getElem hlt] at hseg
    obtain ⟨y, hy1, hwk⟩ := hw i _ hseg
    rw [List.getElem?_map, hy1] at hi
    simp only [Option.map_some, Option.some.injEq] at hi
    subst hi
    obtain ⟨h1, h2, h3⟩ := he (off + i) _ (List.getElem?_eq_getElem hlt)
    have hjl : j < es[off + i].length := by rw [hwk.1]; exact (List.getElem?_eq_some_iff.1 hj).1
    obtain ⟨v', hv', hr'⟩ := hwk.2 j _ (List.getElem?_eq_getElem hjl)
    rw [hj] at hv'; injection hv' with hv'; subst hv'
    obtain ⟨u, hu, hru⟩ := h3 j _ (List.getElem?_eq_getElem hjl)
    exact ⟨u, hu, hr' u hru⟩
  have hls : l.s = x.sz := by rw [← hs', hs]
  refine .rs (B := l.B) (off := l.ob + off * l.s) (s := x.sz) (fun i j => cc.getD (l.ob + (off + i) * l.s + j) Go.undef) (by simp [hy]) hlen (by rcases ha with h | h; exact .inl h; exact .inr (by omega)) (fun i e hi => ?_) (fun i e j v hi hj => ?_) fun i e j v hi hj => ?_
  · rw [List.getElem?_map] at hi
    cases hx : ys[i]? with
    | none => rw [hx] at hi; cases hi
    | some y => rw [hx] at hi; injection hi with hi; subst hi; exact ⟨x.enc_length y, x.enc_oneC y⟩
  · obtain ⟨u, hu, _⟩ := cell i e j v hi hj
    unfold zcell
    rw [hZ']
    have e1 : l.ob + off * l.s + i * x.sz + j = l.ob + (off + i) * l.s + j := by rw [← hls, Nat.add_mul]; omega
    simp only
    rw [e1, hu]
    simp [Array.getD_eq_getD_getElem?, hu]
  · obtain ⟨u, hu, hr⟩ := cell i e j v hi hj
    simpa [Array.getD_eq_getD_getElem?, hu] using hr

theorem rep_rs_nil {Z : ZMap} {φ : PMap} (a : Addr) (c : Nat) : Rep Z φ (.rs []) (.slice (some a) 0 c) :=
  .rs (s := 0) (B := 0) (off := 0) (fun _ _ => Go.undef) rfl (Nat.zero_le _) (.inr rfl) (fun i e hi => by simp at hi) (fun i e j v hi => by simp at hi) (fun i e j v hi => by simp at hi)

/-- The blocks of a heap are what it says. -/
def OwnR (Z : ZMap) (φ : PMap) (H : Heap) (w : World) : Prop := ∀ b blk l, H.get b = some blk → φ b = some l → blkRel Z φ w l blk
theorem HRel.ownR (h : HRel base w0 Z φ H nx w) : OwnR Z φ H w := fun _ _ _ hb hl => (h.ownAt hb hl).2

theorem elemsD_ok (hh : OwnR Z φ H w) (hf : Froze φ H w Z Z') {t : Ty} {d : List AV → Option (t.den × List Bool)}
    (hd : ∀ cs x ps, d cs = some (x, ps) → (∀ p ∈ ps, p = true) → WeakC Z Z' φ φ' cs (t.enc x)) {v : AV} {u : Value} {xs : List t.den} {ps : List Bool} (h : elemsD H t d v = some (xs, ps)) (hp : ∀ p ∈ ps, p)
    (hv : Rep Z φ v u) : Rep Z' φ' (.rl t xs) u := by
  apply Rep.toRl
  unfold elemsD at h
  cases hv with
  | nils => simp only [Option.some.injEq, Prod.mk.injEq] at h; obtain ⟨rfl, rfl⟩ := h; exact .rs0
  | emp a => simp only [Option.some.injEq, Prod.mk.injEq] at h; obtain ⟨rfl, rfl⟩ := h; exact rep_rs_nil a 0
  | rl hr =>
    rename_i t' ys ao n c
    simp only at h
    split at h
    · rename_i ht
      subst ht
      simp only [Option.some.injEq, Prod.mk.injEq] at h
      obtain ⟨rfl, rfl⟩ := h
      exact (enc_free hf.1 (.sl t') ys 0 _ _ rfl hr.toRl).ofRl
    · cases h
  | rs0 =>
    simp only [mapD, Option.some.injEq, Prod.mk.injEq] at h
    obtain ⟨rfl, rfl⟩ := h; exact .rs0
  | rs us hn hc ha h0 h1 h2 =>
    rename_i es B off c s n a
    obtain ⟨hl, hg⟩ := mapD_get h
    have conv : ∀ (i : Nat) (e : List AV) (j : Nat) (v : AV), (xs.map t.enc)[i]? = some e → e[j]? = some v → ∃ e' v', es[i]? = some e' ∧ e'[j]? = some v' ∧ e'.length = t.sz ∧ Rep Z' φ' v (us i j) := by
      intro i e j v hi hj
      have hil : i < es.length := by have := (List.getElem?_eq_some_iff.1 hi).1; simp at this; omega
      obtain ⟨y, p, hy, hdy, hq⟩ := hg i _ (List.getElem?_eq_getElem hil)
      rw [List.getElem?_map, hy] at hi
      simp only [Option.map_some, Option.some.injEq] at hi
      subst hi
      have hw := hd _ _ _ hdy fun q hq' => hp q (hq q hq')
      have hjl : j < es[i].length := by rw [hw.1]; exact (List.getElem?_eq_some_iff.1 hj).1
      obtain ⟨v', hv', hr'⟩ := hw.2 j _ (List.getElem?_eq_getElem hjl)
      rw [hj] at hv'; injection hv' with hv'; subst hv'
      exact ⟨_, _, List.getElem?_eq_getElem hil, List.getElem?_eq_getElem hjl, by rw [hw.1, Ty.enc_length], hr' _ (h2 i _ j _ (List.getElem?_eq_getElem hil) (List.getElem?_eq_getElem hjl))⟩
    by_cases hnil : es = []
    · subst hnil
      have : xs = [] := List.eq_nil_of_length_eq_zero (by simpa using hl.symm)
      subst this
      simp only [List.length_nil] at hn
      subst hn
      exact rep_rs_nil a c
    have hs : s = t.sz := by
      cases es with
      | nil => exact absurd rfl hnil
      | cons e0 es0 =>
        obtain ⟨y, p, _, hdy, hq⟩ := hg 0 e0 rfl
        have := (hd _ _ _ hdy fun q hq' => hp q (hq q hq')).1
        rw [Ty.enc_length] at this
        rw [← (h0 0 e0 rfl).1, this]
    refine .rs us (by rw [List.length_map, ← hl]; exact hn) hc ha (s := s) (fun i e hi => ?_) (fun i e j v hi hj => ?_) fun i e j v hi hj => (let ⟨_, _, _, _, _, hr⟩ := conv i e j v hi hj; hr)
    · rw [List.getElem?_map] at hi
      cases hx : xs[i]? with
      | none => rw [hx] at hi; cases hi
      | some y => rw [hx] at hi; injection hi with hi; subst hi; exact ⟨by rw [t.enc_length y, hs], t.enc_oneC y⟩
    · obtain ⟨e', v', he', hv', _, _⟩ := conv i e j v hi hj
      exact zcell_mono hf.1 (h1 i e' j v' he' hv')
  | sl hl hls hc hlc hlm ha =>
    rename_i b s off len c l cap a
    simp only at h
    split at h
    · rename_i hst
      split at h
      · rename_i t' ys hb
        split at h
        · rename_i ht
          subst ht
          simp only [Option.some.injEq, Prod.mk.injEq] at h
          obtain ⟨rfl, rfl⟩ := h
          have hle : off + len ≤ ys.length := of_decide_eq_true (hp _ (List.mem_singleton.2 rfl))
          have hr := hh _ _ _ hb hl
          refine rows_frozen hf hb hl hr rfl (by simpa using hle) hlc (by rw [hls]; exact ha) (by simp [seg, castL_self]; omega) fun i e hi => ?_
          have e1 : seg off len (ys.map t'.enc) = (seg off len ys).map t'.enc := by simp [seg, List.map_take, List.map_drop]
          rw [e1, List.getElem?_map] at hi
          cases hy : (seg off len ys)[i]? with
          | none => rw [hy] at hi; cases hi
          | some y =>
            rw [hy] at hi; injection hi with hi; subst hi
            exact ⟨y, hy, rfl, fun j v hj => ⟨v, hj, fun u hu => enc_free hf.1 _ y j v u hj hu⟩⟩
        · cases h
      · rename_i s' es hb
        split at h
        · rename_i hle
          obtain ⟨hlx, hg⟩ := mapD_get h
          have hr := hh _ _ _ hb hl
          have hr : rowRel Z φ w l s' es := hr
          have hlen : (seg off len es).length = len := by simp [seg]; omega
          exact rows_frozen hf hb hl hr (by rw [hr.1, hls, hst]) hle hlc (by rw [hls]; exact ha) (by omega) fun i e hi =>
            let ⟨y, p, hy, hdy, hq⟩ := hg i e hi
            ⟨y, hy, hd _ _ _ hdy fun q hq' => hp q (hq q hq')⟩
        · cases h
      · cases h
    · cases h
  | sl0n hc =>
    rename_i b s off cap
    simp only at h
    split at h
    · split at h
      · split at h
        · simp only [Option.some.injEq, Prod.mk.injEq] at h
          obtain ⟨rfl, rfl⟩ := h
          simp [seg]; exact .rs0
        · cases h
      · split at h
        · simp only [seg, List.take_zero, mapD, Option.some.injEq, Prod.mk.injEq] at h
          obtain ⟨rfl, rfl⟩ := h; exact .rs0
        · cases h
      · cases h
    · cases h
  | sl0s hc a =>
    rename_i b s off cap
    simp only at h
    split at h
    · split at h
      · split at h
        · simp only [Option.some.injEq, Prod.mk.injEq] at h
          obtain ⟨rfl, rfl⟩ := h
          simp [seg]; exact rep_rs_nil a 0
        · cases h
      · split at h
        · simp only [seg, List.take_zero, mapD, Option.some.injEq, Prod.mk.injEq] at h
          obtain ⟨rfl, rfl⟩ := h; exact rep_rs_nil a 0
        · cases h
      · cases h
    · cases h
  | _ => cases h

theorem mapD_flat {t : Ty} {d : List AV → Option (t.den × List Bool)} (hd : ∀ cs x ps, d cs = some (x, ps) → (∀ p ∈ ps, p = true) → WeakC Z Z' φ φ' cs (t.enc x)) : ∀ (es : List (List AV)) (xs : List t.den) (ps : List Bool), mapD d es = some (xs, ps) → (∀ p ∈ ps, p = true) → WeakC Z Z' φ φ' es.flatten (xs.flatMap t.enc)
  | [], xs, ps, h, hp => by
    simp only [mapD, Option.some.injEq, Prod.mk.injEq] at h
    obtain ⟨rfl, rfl⟩ := h
    exact ⟨rfl, fun j v hj => by simp at hj⟩
  | e :: es, xs, ps, h, hp => by
    simp only [mapD] at h
    split at h
    · rename_i x p hx
      split at h
      · rename_i ys q hm
        simp only [Option.some.injEq, Prod.mk.injEq] at h
        obtain ⟨rfl, rfl⟩ := h
        rw [List.flatten_cons, List.flatMap_cons]
        exact (hd _ _ _ hx fun b hb => hp b (List.mem_append_left _ hb)).append (mapD_flat hd es ys q hm fun b hb => hp b (List.mem_append_right _ hb))
      · cases h
    · cases h
theorem dec_ok (hh : OwnR Z φ H w) (hf : Froze φ H w Z Z') : ∀ (t : Ty) (cs : List AV) (x : t.den) (ps : List Bool), t.dec H cs = some (x, ps) → (∀ p ∈ ps, p = true) → WeakC Z Z' φ φ' cs (t.enc x)
  | .i k, cs, x, ps, h, hp => by
    have h : decI k cs = some (x, ps) := h
    unfold decI at h
    split at h
    · split at h
      · rename_i hk
        simp only [Option.some.injEq, Prod.mk.injEq] at h
        obtain ⟨rfl, rfl⟩ := h
        subst hk
        refine ⟨rfl, fun j v hj => ⟨v, hj, fun u hu => ?_⟩⟩
        cases j <;> simp at hj
        subst hj; cases hu; exact .int _ _
      · cases h
    · cases h
  | .b, cs, x, ps, h, hp => by
    have h : decB cs = some (x, ps) := h
    unfold decB at h
    split at h
    · simp only [Option.some.injEq, Prod.mk.injEq] at h
      obtain ⟨rfl, rfl⟩ := h
      refine ⟨rfl, fun j v hj => ⟨v, hj, fun u hu => ?_⟩⟩
      cases j <;> simp at hj
      subst hj; cases hu; exact .bool _
    · cases h
  | .s, cs, x, ps, h, hp => by
    have h : decS cs = some (x, ps) := h
    unfold decS at h
    split at h
    · simp only [Option.some.injEq, Prod.mk.injEq] at h
      obtain ⟨rfl, rfl⟩ := h
      refine ⟨rfl, fun j v hj => ⟨v, hj, fun u hu => ?_⟩⟩
      cases j <;> simp at hj
      subst hj; cases hu; exact .str _
    · cases h
  | .sl t, cs, x, ps, h, hp => by
    have h : decL (elemsD H t (t.dec H)) cs = some (x, ps) := h
    unfold decL at h
    split at h
    · refine ⟨rfl, fun j v hj => ⟨.rl t x, ?_, fun u hu => ?_⟩⟩
      · cases j <;> simp at hj
        rfl
      · cases j <;> simp at hj
        subst hj
        exact elemsD_ok hh hf (fun cs x ps h1 h2 => dec_ok hh hf t cs x ps h1 h2) h hp hu
    · cases h
  | .pr a b, cs, p, ps, h, hp => by
    have h : pairD (a.dec H (cs.take a.sz)) (b.dec H (cs.drop a.sz)) = some (p, ps) := h
    unfold pairD at h
    split at h
    · rename_i x q hx
      split at h
      · rename_i y r hy
        simp only [Option.some.injEq, Prod.mk.injEq] at h
        obtain ⟨rfl, rfl⟩ := h
        have h1 := dec_ok hh hf a _ x q hx fun p hp' => hp p (List.mem_append_left _ hp')
        have h2 := dec_ok hh hf b _ y r hy fun p hp' => hp p (List.mem_append_right _ hp')
        have := h1.append h2
        rw [List.take_append_drop] at this
        exact this
      · cases h
    · cases h
  | .ar n t, cs, xs, ps, h, hp => by
    have h : (if cs.length = n * t.sz then mapD (t.dec H) (chunkN t.sz n cs) else none) = some (xs, ps) := h
    split at h
    · rename_i hlen
      obtain ⟨hl, hg⟩ := mapD_get h
      rw [chunkN_length] at hl
      show WeakC Z Z' φ φ' cs ((padL n t.dflt xs).flatMap t.enc)
      rw [padL_self hl.symm, ← chunkN_flatten t.sz n cs hlen]
      exact mapD_flat (fun cs x ps h1 h2 => dec_ok hh hf t cs x ps h1 h2) _ xs ps h hp
    · cases h

theorem decV_ok (hh : OwnR Z φ H w) (hf : Froze φ H w Z Z') {t : Ty} {v : AV} {x : t.den} {ps : List Bool} (h : t.decV H v = some (x, ps)) (hp : ∀ p ∈ ps, p) {u : Value} (hv : Rep Z φ v u) : Rep Z' φ' (t.val x) u := by
  have one : ∀ (t : Ty) (x : t.den), t.dec H [v] = some (x, ps) → (t.enc x)[0]? = some (t.val x) → Rep Z' φ' (t.val x) u := fun t x h he => by
    obtain ⟨_, h2⟩ := dec_ok (φ' := φ') hh hf t _ x ps h hp
    obtain ⟨v', hv', hr⟩ := h2 0 v rfl
    rw [he] at hv'; injection hv' with hv'; subst hv'
    exact hr u hv
  cases t with
  | i k => exact one (.i k) x h rfl
  | b => exact one .b x h rfl
  | s => exact one .s x h rfl
  | sl t => exact one (.sl t) x h rfl
  | pr a b =>
    cases hv with
    | agg hl hr =>
      rename_i cs us
      have h : Ty.dec H (.pr a b) cs = some (x, ps) := h
      obtain ⟨h1, h2⟩ := dec_ok (φ' := φ') hh hf (.pr a b) cs x ps h hp
      refine .agg (by rw [hl, h1]) fun i v u hv hu => ?_
      have hi : i < cs.length := by rw [h1]; exact (List.getElem?_eq_some_iff.1 hv).1
      obtain ⟨v', hv', hrv⟩ := h2 i _ (List.getElem?_eq_getElem hi)
      rw [hv] at hv'; injection hv' with hv'; subst hv'
      exact hrv u (hr i _ u (List.getElem?_eq_getElem hi) hu)
    | _ => simp [Ty.decV] at h
  | ar n t =>
    cases hv with
    | agg hl hr =>
      rename_i cs us
      have h : Ty.dec H (.ar n t) cs = some (x, ps) := h
      obtain ⟨h1, h2⟩ := dec_ok (φ' := φ') hh hf (.ar n t) cs x ps h hp
      have hx : x.length = n := by
        have h : (if cs.length = n * t.sz then mapD (t.dec H) (chunkN t.sz n cs) else none) = some (x, ps) := h
        split at h
        · rw [← (mapD_get h).1, chunkN_length]
        · cases h
      have e : Ty.enc (.ar n t) x = x.flatMap t.enc := by show (padL n t.dflt x).flatMap t.enc = _; rw [padL_self hx]
      rw [e] at h1 h2
      refine Rep.toAr (.agg (by rw [hl, h1]) fun i v u hv hu => ?_)
      have hi : i < cs.length := by rw [h1]; exact (List.getElem?_eq_some_iff.1 hv).1
      obtain ⟨v', hv', hrv⟩ := h2 i _ (List.getElem?_eq_getElem hi)
      rw [hv] at hv'; injection hv' with hv'; subst hv'
      exact hrv u (hr i _ u (List.getElem?_eq_getElem hi) hu)
    | ar hr =>
      rename_i t' xs us
      have h : (if h : t' = t then some (castL h xs, [decide (xs.length = n)]) else none) = some (x, ps) := h
      split at h
      · rename_i ht
        subst ht
        simp only [Option.some.injEq, Prod.mk.injEq] at h
        obtain ⟨rfl, rfl⟩ := h
        exact val_free hf.1 (.ar n t') xs (Rep.toAr hr)
      · cases h
    | _ => simp [Ty.decV] at h

theorem decVs_ok (hh : OwnR Z φ H w) (hf : Froze φ H w Z Z') : ∀ (ts : List Ty) (vs : List AV) (x : dens ts) (ps : List Bool), decVs H ts vs = some (x, ps) → (∀ p ∈ ps, p = true) → ∀ us : Array Value, Reps Z φ vs us → Reps Z' φ' (vals ts x) us
  | [], [], x, ps, h, hp, us, hr => ⟨hr.1, fun i v u hv => by simp [vals] at hv⟩
  | [], _ :: _, x, ps, h, hp, us, hr => by simp [decVs] at h
  | _ :: _, [], x, ps, h, hp, us, hr => by simp [decVs] at h
  | t :: ts, v :: vs, x, ps, h, hp, us, hr => by
    simp only [decVs] at h
    unfold pairD at h
    split at h
    · rename_i y q hy
      split at h
      · rename_i z r hz
        simp only [Option.some.injEq, Prod.mk.injEq] at h
        obtain ⟨rfl, rfl⟩ := h
        have hsz := hr.1
        simp only [List.length_cons] at hsz
        have tail := decVs_ok hh hf ts vs z r hz (fun p hp' => hp p (List.mem_append_right _ hp')) (us.toList.tail.toArray) ⟨by simp [hsz], fun i v u hv hu => hr.2 (i + 1) v u (by simpa using hv) (by
          rw [List.getElem?_toArray, List.getElem?_tail, Array.getElem?_toList] at hu; exact hu)⟩
        refine ⟨by have := tail.1; simp [hsz] at this; simp [vals, hsz, this], fun i v' u hv hu => ?_⟩
        cases i with
        | zero =>
          simp only [vals, List.getElem?_cons_zero, Option.some.injEq] at hv
          subst hv
          exact decV_ok hh hf hy (fun p hp' => hp p (List.mem_append_left _ hp')) (hr.2 0 v u rfl hu)
        | succ i =>
          refine tail.2 i v' u (by simpa [vals] using hv) ?_
          rw [List.getElem?_toArray, List.getElem?_tail, Array.getElem?_toList]; exact hu
      · cases h
    · cases h

/-! ### Arguments: contents, variables that are only read, functions with these -/
inductive AT where
  | v (t : Ty)
  | ref (t : Ty)
  | clo (k : Nat) (first cap : List (Bool × Ty))
abbrev denP : List (Bool × Ty) → Type
  | [] => Unit
  | p :: l => p.2.den × denP l
abbrev AT.den : AT → Type
  | .v t => t.den
  | .ref t => t.den
  | .clo _ f c => denP f × denP c
def valP (b : Bool) (t : Ty) (x : t.den) : AV := match b with
  | false => t.val x
  | true => .rp (t.enc x) 0
def valPs : (l : List (Bool × Ty)) → denP l → List AV
  | [], _ => []
  | p :: l, x => valP p.1 p.2 x.1 :: valPs l x.2
def AT.val : (a : AT) → a.den → AV
  | .v t, x => t.val x
  | .ref t, x => .rp (t.enc x) 0
  | .clo k f c, x => .fn (.func k) (valPs f x.1) (valPs c x.2)
def decRef (H : Heap) (t : Ty) (v : AV) : Option (t.den × List Bool) :=
  match v with
  | .ptr b 0 0 => match H.get b with
    | some (.row _ [cs]) => t.dec H cs
    | _ => none
  | .rp e 0 => t.dec H e
  | _ => none
def decP (H : Heap) (b : Bool) (t : Ty) (v : AV) : Option (t.den × List Bool) := match b with
  | false => t.decV H v
  | true => decRef H t v
def decPs (H : Heap) : (l : List (Bool × Ty)) → List AV → Option (denP l × List Bool)
  | [], [] => some ((), [])
  | p :: l, v :: vs => pairD (decP H p.1 p.2 v) (decPs H l vs)
  | _, _ => none
def AT.dec (H : Heap) : (a : AT) → AV → Option (a.den × List Bool)
  | .v t, y => t.decV H y
  | .ref t, y => decRef H t y
  | .clo k f c, y => match y with
    | .fn (.func k') a b => if k = k' then pairD (decPs H f a) (decPs H c b) else none
    | _ => none
abbrev densA : List AT → Type
  | [] => Unit
  | t :: ts => t.den × densA ts
def valsA : (ts : List AT) → densA ts → List AV
  | [], _ => []
  | t :: ts, x => t.val x.1 :: valsA ts x.2
def decAs (H : Heap) : (ts : List AT) → List AV → Option (densA ts × List Bool)
  | [], [] => some ((), [])
  | t :: ts, y :: vs => pairD (t.dec H y) (decAs H ts vs)
  | _, _ => none

theorem decRef_ok (hh : OwnR Z φ H w) (hf : Froze φ H w Z Z') {t : Ty} {v : AV} {x : t.den} {ps : List Bool} (h : decRef H t v = some (x, ps)) (hp : ∀ p ∈ ps, p = true) {u : Value} (hv : Rep Z φ v u) : Rep Z' φ' (.rp (t.enc x) 0) u := by
  unfold decRef at h
  split at h
  · rename_i b
    split at h
    · rename_i s cs hb
      cases hv with
      | ptr hl =>
        rename_i l
        have hr : rowRel Z φ w l s [cs] := hh _ _ _ hb hl
        obtain ⟨r1, r2, c, T, fz, r3, r4, r5, r6⟩ := hr
        have hw := dec_ok (φ' := φ') hh hf t cs x ps h hp
        obtain ⟨g1, g2, g3⟩ := r6 0 cs rfl
        have hZ' : Z' l.B = some (.cells c T fz) := by rw [hf.2 b _ l hb hl, r3]
        have cell : ∀ (j : Nat) (v : AV), (t.enc x)[j]? = some v → ∃ u, c[l.ob + j]? = some u ∧ Rep Z' φ' v u := by
          intro j v hj
          have hjl : j < cs.length := by rw [hw.1]; exact (List.getElem?_eq_some_iff.1 hj).1
          obtain ⟨v', hv', hr'⟩ := hw.2 j _ (List.getElem?_eq_getElem hjl)
          rw [hj] at hv'; injection hv' with hv'; subst hv'
          obtain ⟨u, hu, hru⟩ := g3 j _ (List.getElem?_eq_getElem hjl)
          exact ⟨u, by simpa using hu, hr' u hru⟩
        have := Rep.rp (Z := Z') (φ := φ') (e := t.enc x) (o := 0) (B := l.B) (off := l.ob) (fun j => c.getD (l.ob + j) Go.undef) (fun j v hj => by
          obtain ⟨u, hu, _⟩ := cell j v hj
          unfold zcell; rw [hZ']; simp only; rw [hu]; simp [Array.getD_eq_getD_getElem?, hu]) (fun j v hj => by
          obtain ⟨u, hu, hr⟩ := cell j v hj
          simpa [Array.getD_eq_getD_getElem?, hu] using hr)
        simpa using this
    · cases h
  · rename_i e
    cases hv with
    | rp us h1 h2 =>
      have hw := dec_ok (φ' := φ') hh hf t e x ps h hp
      have cell : ∀ (j : Nat) (v : AV), (t.enc x)[j]? = some v → ∃ v', e[j]? = some v' ∧ Rep Z' φ' v (us j) := by
        intro j v hj
        have hjl : j < e.length := by rw [hw.1]; exact (List.getElem?_eq_some_iff.1 hj).1
        obtain ⟨v', hv', hr'⟩ := hw.2 j _ (List.getElem?_eq_getElem hjl)
        rw [hj] at hv'; injection hv' with hv'; subst hv'
        exact ⟨_, List.getElem?_eq_getElem hjl, hr' _ (h2 j _ (List.getElem?_eq_getElem hjl))⟩
      exact .rp us (fun j v hj => let ⟨v', hv', _⟩ := cell j v hj; zcell_mono hf.1 (h1 j v' hv')) fun j v hj => (let ⟨_, _, hr⟩ := cell j v hj; hr)
  · cases h

theorem reps_cons {v : AV} {vs : List AV} {us : Array Value} (h : Reps Z φ (v :: vs) us) : ∃ u ws, us = #[u] ++ ws ∧ Rep Z φ v u ∧ Reps Z φ vs ws := by
  have hsz := h.1
  simp only [List.length_cons] at hsz
  have h0 : 0 < us.size := by omega
  refine ⟨us[0], us.toList.tail.toArray, ?_, h.2 0 v _ rfl (Array.getElem?_eq_getElem h0), by simp [hsz], fun i x u hx hu => h.2 (i + 1) x u (by simpa using hx) (by
    rw [List.getElem?_toArray, List.getElem?_tail, Array.getElem?_toList] at hu; exact hu)⟩
  apply Array.ext'
  cases hl : us.toList with
  | nil => rw [← Array.length_toList, hl] at hsz; cases hsz
  | cons a l =>
    have : us[0] = a := by
      have h1 : us.toList[0]? = some a := by rw [hl]; rfl
      rw [Array.getElem?_toList, Array.getElem?_eq_getElem h0] at h1
      injection h1
    simp [this]
theorem reps_cons_mk {v : AV} {vs : List AV} {u : Value} {ws : Array Value} (h1 : Rep Z φ v u) (h2 : Reps Z φ vs ws) : Reps Z φ (v :: vs) (#[u] ++ ws) := by
  have h3 := h2.1
  refine ⟨by rw [Array.size_append]; simp only [List.length_cons]; have : (#[u] : Array Value).size = 1 := rfl; omega, fun i x y hx hy => ?_⟩
  rw [Array.getElem?_append] at hy
  cases i with
  | zero =>
    have hy : some u = some y := hy
    have hx : some v = some x := hx
    injection hx with hx; injection hy with hy
    subst hx hy; exact h1
  | succ i =>
    rw [if_neg (by show ¬ i + 1 < 1; omega)] at hy
    exact h2.2 i x y hx hy

theorem pairD_some {α β : Type} {x : Option (α × List Bool)} {y : Option (β × List Bool)} {r : α × β} {ps : List Bool} (h : pairD x y = some (r, ps)) (hp : ∀ p ∈ ps, p = true) : ∃ p q, x = some (r.1, p) ∧ y = some (r.2, q) ∧ (∀ b ∈ p, b = true) ∧ ∀ b ∈ q, b = true := by
  cases x with
  | none => cases h
  | some x => cases y with
    | none => cases h
    | some y =>
      obtain ⟨a, p⟩ := x
      obtain ⟨b, q⟩ := y
      simp only [pairD, Option.some.injEq, Prod.mk.injEq] at h
      obtain ⟨rfl, rfl⟩ := h
      exact ⟨p, q, rfl, rfl, fun b hb => hp b (List.mem_append_left _ hb), fun b hb => hp b (List.mem_append_right _ hb)⟩

theorem decPs_ok (hh : OwnR Z φ H w) (hf : Froze φ H w Z Z') : ∀ (l : List (Bool × Ty)) (vs : List AV) (x : denP l) (ps : List Bool), decPs H l vs = some (x, ps) → (∀ p ∈ ps, p = true) → ∀ us : Array Value, Reps Z φ vs us → Reps Z' φ' (valPs l x) us
  | [], [], x, ps, h, hp, us, hr => ⟨hr.1, fun i v u hv => by simp [valPs] at hv⟩
  | [], _ :: _, x, ps, h, hp, us, hr => by simp [decPs] at h
  | _ :: _, [], x, ps, h, hp, us, hr => by simp [decPs] at h
  | p :: l, v :: vs, x, ps, h, hp, us, hr => by
    obtain ⟨q, r, h1, h2, k1, k2⟩ := pairD_some (show pairD _ _ = some (x, ps) from h) hp
    obtain ⟨u, ws, rfl, hu, hws⟩ := reps_cons hr
    refine reps_cons_mk ?_ (decPs_ok hh hf l vs x.2 r h2 k2 ws hws)
    obtain ⟨b, t⟩ := p
    cases b with
    | false => exact decV_ok hh hf (show t.decV H v = some _ from h1) k1 hu
    | true => exact decRef_ok hh hf (show decRef H t v = some _ from h1) k1 hu
theorem decA_ok (hh : OwnR Z φ H w) (hf : Froze φ H w Z Z') {a : AT} {v : AV} {x : a.den} {ps : List Bool} (h : a.dec H v = some (x, ps)) (hp : ∀ p ∈ ps, p = true) {u : Value} (hv : Rep Z φ v u) : Rep Z' φ' (a.val x) u := by
  cases a with
  | v t => exact decV_ok hh hf (show t.decV H v = some _ from h) hp hv
  | ref t => exact decRef_ok hh hf (show decRef H t v = some _ from h) hp hv
  | clo k f c =>
    simp only [AT.dec] at h
    split at h
    · rename_i k' as bs
      split at h
      · rename_i hk
        subst hk
        obtain ⟨q, r, h1, h2, k1, k2⟩ := pairD_some h hp
        cases hv with
        | fn hx hy g1 g2 =>
          have q1 := decPs_ok (φ' := φ') hh hf f as x.1 q h1 k1 _ ⟨hx, g1⟩
          have q2 := decPs_ok (φ' := φ') hh hf c bs x.2 r h2 k2 _ ⟨hy, g2⟩
          exact .fn q1.1 q2.1 q1.2 q2.2
      · cases h
    · cases h
theorem decAs_ok (hh : OwnR Z φ H w) (hf : Froze φ H w Z Z') : ∀ (ts : List AT) (vs : List AV) (x : densA ts) (ps : List Bool), decAs H ts vs = some (x, ps) → (∀ p ∈ ps, p = true) → ∀ us : Array Value, Reps Z φ vs us → Reps Z' φ' (valsA ts x) us
  | [], [], x, ps, h, hp, us, hr => ⟨hr.1, fun i v u hv => by simp [valsA] at hv⟩
  | [], _ :: _, x, ps, h, hp, us, hr => by simp [decAs] at h
  | _ :: _, [], x, ps, h, hp, us, hr => by simp [decAs] at h
  | t :: ts, v :: vs, x, ps, h, hp, us, hr => by
    obtain ⟨q, r, h1, h2, k1, k2⟩ := pairD_some (show pairD _ _ = some (x, ps) from h) hp
    obtain ⟨u, ws, rfl, hu, hws⟩ := reps_cons hr
    exact reps_cons_mk (decA_ok hh hf h1 k1 hu) (decAs_ok hh hf ts vs x.2 r h2 k2 ws hws)
end
end Go.Lom

/- Operations that make or write lists of typed contents: what they leave, with the conditions. -/
set_option linter.constructorNameAsVariable false
set_option linter.unusedSimpArgs false
set_option linter.unusedVariables false
namespace Go.Lom
open Go.RowKit

/-- The type of contents of a Go type. -/
def prs : List (Option Ty) → Option Ty
  | [] => none
  | [x] => x
  | x :: y :: l => match x with
    | some a => match prs (y :: l) with
      | some b => some (.pr a b)
      | none => none
    | none => none
def tyOf (P : Program) : Nat → TypeId → Option Ty
  | 0, _ => none
  | d + 1, t => match P.underlying t with
    | some (.int k) => some (.i k)
    | some .bool => some .b
    | some .string => some .s
    | some (.slice e) => (tyOf P d e).map .sl
    | some (.struct fs) => prs (fs.toList.map fun f => tyOf P d f.type)
    | some (.array n e) => match Nat.ble n 4 with
      | true => prs (List.replicate n (tyOf P d e))
      | false => (tyOf P d e).map (.ar n)
    | _ => none

def fitsN (n b : Nat) : Bool := Nat.ble (n * b) 140737488355328 && Nat.ble n maxLen

section
variable {P : Program} {base : Nat → Prop} {w0 : Start} {Z Z' : ZMap} {φ φ' : PMap} {H : Heap} {nx : Nat} {w : World}

theorem froze_nil (Z : ZMap) (φ : PMap) (w : World) : Froze φ [] w Z Z := ⟨ZLe.refl _, fun b x l h => by simp [Heap.get] at h⟩
/-- Cells that say no more than others, of whatever memory. -/
def WeakS (cs cs' : List AV) : Prop := ∀ Z φ, WeakC Z Z φ φ cs cs'
theorem WeakS.refl (cs : List AV) : WeakS cs cs := fun _ _ => ⟨rfl, fun j v hj => ⟨v, hj, fun u hu => hu⟩⟩
def someWorld : World := default
theorem dec_weak {t : Ty} {cs : List AV} {x : t.den} {ps : List Bool} (h : t.dec [] cs = some (x, ps)) (hp : ∀ p ∈ ps, p) : WeakS cs (t.enc x) :=
  fun Z φ => dec_ok (w := someWorld) (fun b blk l h => by simp [Heap.get] at h) (froze_nil Z φ someWorld) t cs x ps h hp

theorem rowRel_weak {l : Loc} {s : Nat} {t : Ty} {es : List (List AV)} {xs : List t.den} (h : rowRel Z φ w l s es) (hs : s = t.sz) (hl : xs.length = es.length)
    (hw : ∀ (i : Nat) (e : List AV), es[i]? = some e → ∃ x, xs[i]? = some x ∧ WeakS e (t.enc x)) : rowRel Z φ w l t.sz (xs.map t.enc) := by
  obtain ⟨h1, h2, c, T, fz, h3, h4, h5, h6⟩ := h
  refine ⟨by rw [← hs, h1], by simp; omega, c, T, fz, h3, h4, h5, fun i e hi => ?_⟩
  have hil : i < es.length := by have := (List.getElem?_eq_some_iff.1 hi).1; simp at this; omega
  obtain ⟨x, hx, hwk⟩ := hw i _ (List.getElem?_eq_getElem hil)
  have hwk := hwk Z φ
  rw [List.getElem?_map, hx] at hi
  simp only [Option.map_some, Option.some.injEq] at hi
  subst hi
  obtain ⟨g1, g2, g3⟩ := h6 i _ (List.getElem?_eq_getElem hil)
  refine ⟨by rw [← hwk.1]; exact g1, t.enc_oneC x, fun j v hj => ?_⟩
  have hjl : j < es[i].length := by rw [hwk.1]; exact (List.getElem?_eq_some_iff.1 hj).1
  obtain ⟨u, hu, hr⟩ := g3 j _ (List.getElem?_eq_getElem hjl)
  obtain ⟨v', hv', hr'⟩ := hwk.2 j _ (List.getElem?_eq_getElem hjl)
  rw [hj] at hv'; injection hv' with hv'; subst hv'
  exact ⟨u, hu, hr' u hr⟩

/-- A block, known in another way. -/
theorem HRel.retype {b : Nat} {x y : Blk} (h : HRel base w0 Z φ (H.set b x) nx w) (hg : x.ghost = false) (hx : ∀ l, blkRel Z φ w l x → blkRel Z φ w l y) : HRel base w0 Z φ (H.set b y) nx w := by
  have look : ∀ c z, (H.set b y).get c = some z → ∃ z', (H.set b x).get c = some z' ∧ ((c = b ∧ z = y ∧ z' = x) ∨ (c ≠ b ∧ z = z')) := by
    intro c z hz
    rw [Heap.get_set] at hz ⊢
    by_cases e : c = b
    · rw [if_pos e] at hz ⊢; injection hz with hz; exact ⟨x, rfl, .inl ⟨e, hz.symm, rfl⟩⟩
    · rw [if_neg e] at hz ⊢; exact ⟨z, hz, .inr ⟨e, rfl⟩⟩
  refine ⟨h.below, h.z, h.z0, h.gl, h.fnx, fun c z hz => let ⟨z', h1, _⟩ := look c z hz; h.hnx c z' h1, h.flt, fun c z hz => ?_, fun c c' z z' l l' hne hz hz' hl hl' => ?_, fun c z l hz hl hu => ?_⟩
  · obtain ⟨z', h1, h2⟩ := look c z hz
    rcases h2 with ⟨rfl, rfl, rfl⟩ | ⟨hne, rfl⟩
    · obtain ⟨l, hl, hzl, hr⟩ := h.own c z' h1 hg
      exact .inr ⟨l, hl, hzl, hx l hr⟩
    · exact h.own' c z h1
  · obtain ⟨y1, h1, _⟩ := look c z hz
    obtain ⟨y2, h2, _⟩ := look c' z' hz'
    exact h.inj c c' y1 y2 l l' hne h1 h2 hl hl'
  · obtain ⟨y1, h1, _⟩ := look c z hz
    exact h.ob c y1 l h1 hl hu

/-- The elements of a slice, and what is read of them. -/
theorem elemsD_rows {t : Ty} {y : AV} {ys : List t.den} {ps : List Bool} (h : elemsD H t (t.dec []) y = some (ys, ps)) (hp : ∀ p ∈ ps, p) :
    ∃ news, elems H y = some news ∧ news.length = ys.length ∧ ∀ (i : Nat) (e : List AV), news[i]? = some e → ∃ x, ys[i]? = some x ∧ WeakS e (t.enc x) := by
  have rows : ∀ (es : List (List AV)) (ys : List t.den) (qs : List Bool), mapD (t.dec []) es = some (ys, qs) → (∀ q ∈ qs, q = true) → es.length = ys.length ∧ ∀ (i : Nat) (e : List AV), es[i]? = some e → ∃ x, ys[i]? = some x ∧ WeakS e (t.enc x) := by
    intro es ys qs hm hq
    obtain ⟨h1, h2⟩ := mapD_get hm
    exact ⟨h1, fun i e hi => let ⟨x, p, hx, hd, hs⟩ := h2 i e hi; ⟨x, hx, dec_weak hd fun q hq' => hq q (hs q hq')⟩⟩
  have encs : ∀ (zs : List t.den) (i : Nat) (e : List AV), (zs.map t.enc)[i]? = some e → ∃ x, zs[i]? = some x ∧ WeakS e (t.enc x) := by
    intro zs i e hi
    rw [List.getElem?_map] at hi
    cases hx : zs[i]? with
    | none => rw [hx] at hi; cases hi
    | some x => rw [hx] at hi; injection hi with hi; subst hi; exact ⟨x, rfl, WeakS.refl _⟩
  unfold elemsD at h
  split at h
  · simp only [Option.some.injEq, Prod.mk.injEq] at h; obtain ⟨rfl, rfl⟩ := h
    exact ⟨[], rfl, rfl, fun i e hi => by simp at hi⟩
  · simp only [Option.some.injEq, Prod.mk.injEq] at h; obtain ⟨rfl, rfl⟩ := h
    exact ⟨[], rfl, rfl, fun i e hi => by simp at hi⟩
  · split at h
    · rename_i ht
      subst ht
      simp only [Option.some.injEq, Prod.mk.injEq] at h; obtain ⟨rfl, rfl⟩ := h
      exact ⟨_, rfl, by simp [castL_self], encs _⟩
    · cases h
  · obtain ⟨h1, h2⟩ := rows _ _ _ h hp
    exact ⟨_, rfl, h1, h2⟩
  · rename_i b s off len cap
    split at h
    · split at h
      · rename_i t' xs hb
        split at h
        · rename_i ht
          subst ht
          simp only [Option.some.injEq, Prod.mk.injEq] at h; obtain ⟨rfl, rfl⟩ := h
          have hle : off + len ≤ xs.length := of_decide_eq_true (hp _ (List.mem_singleton.2 rfl))
          refine ⟨(seg off len xs).map t'.enc, ?_, by simp [castL_self], encs _⟩
          simp [elems, hb, asRow, seg, hle, List.map_take, List.map_drop]
        · cases h
      · rename_i s' es hb
        split at h
        · rename_i hle
          obtain ⟨h1, h2⟩ := rows _ _ _ h hp
          exact ⟨_, by simp [elems, hb, asRow, seg, hle], h1, h2⟩
        · cases h
      · cases h
    · cases h
  · cases h

theorem row_shift {l : Loc} {s off len : Nat} {es : List (List AV)} (h : rowRel Z φ w l s es) (ho : off + len ≤ es.length) : rowRel Z φ w ⟨l.B, l.ob + off * l.s, l.s, l.lim - off⟩ s (seg off len es) := by
  obtain ⟨h1, h2, c, T, fz, h3, h4, h5, h6⟩ := h
  refine ⟨h1, by simp [seg]; omega, c, T, fz, h3, ?_, h5, fun i e hi => ?_⟩
  · have : off * l.s + (l.lim - off) * l.s = l.lim * l.s := by rw [← Nat.add_mul]; congr 1; omega
    simp only; omega
  · have hil : i < len := by have := (List.getElem?_eq_some_iff.1 hi).1; simp [seg] at this; omega
    have : (seg off len es)[i]? = es[off + i]? := by simp [seg, List.getElem?_take, hil]
    rw [this] at hi
    obtain ⟨g1, g2, g3⟩ := h6 _ _ hi
    refine ⟨g1, g2, fun j v hj => ?_⟩
    obtain ⟨u, hu, hr⟩ := g3 j v hj
    refine ⟨u, ?_, hr⟩
    have e1 : l.ob + off * l.s + i * l.s + j = l.ob + (off + i) * l.s + j := by rw [Nat.add_mul]; omega
    simp only
    rw [e1]; exact hu

theorem rowRel_mono {l : Loc} {s : Nat} {es : List (List AV)} (hφ : PLe φ φ') (h : rowRel Z φ w l s es) : rowRel Z φ' w l s es :=
  (show blkRel Z φ w l (.row s es) from h).mono (ZLe.refl _) hφ rfl

/-- A name for a list of which there is no block. -/
theorem HRel.ghostNew (h : HRel base w0 Z φ H nx w) (t : Ty) : HRel base w0 Z φ (H.set nx (.lst t [])) (nx + 1) w := by
  have hfr := h.fresh (Nat.le_refl nx)
  have look : ∀ c z, (H.set nx (.lst t [])).get c = some z → (c = nx ∧ z = .lst t []) ∨ (c ≠ nx ∧ H.get c = some z) := by
    intro c z hz
    rw [Heap.get_set] at hz
    by_cases e : c = nx
    · rw [if_pos e] at hz; injection hz with hz; exact .inl ⟨e, hz.symm⟩
    · rw [if_neg e] at hz; exact .inr ⟨e, hz⟩
  refine ⟨h.below, h.z, h.z0, h.gl, fun b x hb => Nat.lt_succ_of_lt (h.fnx b x hb), fun c z hz => ?_, h.flt, fun c z hz => ?_, fun c c' z z' l l' hne hz hz' hl hl' => ?_, fun c z l hz hl hu => ?_⟩
  · rcases look c z hz with ⟨rfl, _⟩ | ⟨_, h1⟩
    · exact Nat.lt_succ_self _
    · exact Nat.lt_succ_of_lt (h.hnx c z h1)
  · rcases look c z hz with ⟨rfl, rfl⟩ | ⟨_, h1⟩
    · exact .inl ⟨rfl, hfr⟩
    · exact h.own' c z h1
  · rcases look c z hz with ⟨rfl, _⟩ | ⟨_, h1⟩
    · rw [hfr] at hl; cases hl
    · rcases look c' z' hz' with ⟨rfl, _⟩ | ⟨_, h2⟩
      · rw [hfr] at hl'; cases hl'
      · exact h.inj c c' z z' l l' hne h1 h2 hl hl'
  · rcases look c z hz with ⟨rfl, _⟩ | ⟨_, h1⟩
    · rw [hfr] at hl; cases hl
    · exact h.ob c z l h1 hl hu

theorem sub_del (H : Heap) (b : Nat) : Sub (H.del b) H := fun c x h => by
  rw [Heap.get_del] at h
  split at h
  · cases h
  · exact h

/-- A slice of a list goes on under a name of its own, and nothing else of the list. -/
theorem HRel.rename (hh : HRel base w0 Z φ H nx w) {b s off len : Nat} {cap : Option Nat} {t : Ty} {blk : Blk} {es : List (List AV)} {xs : List t.den} {v : Value} (hb : H.get b = some blk) (hrow : asRow blk = some (s, es)) (hs : s = t.sz) (hle : off + len ≤ es.length)
    (hx : xs.length = len) (hw : ∀ (i : Nat) (e : List AV), (seg off len es)[i]? = some e → ∃ x, xs[i]? = some x ∧ WeakS e (t.enc x)) (hv : Rep Z φ (.sl b s off len cap) v) :
    ∃ φ', PLe φ φ' ∧ Rep Z φ' (.sl nx t.sz 0 len none) v ∧ HRel base w0 Z φ' ((H.del b).set nx (.lst t xs)) (nx + 1) w := by
  have zero : len = 0 → ∀ ao, v = .slice ao 0 0 → ∃ φ', PLe φ φ' ∧ Rep Z φ' (.sl nx t.sz 0 len none) v ∧ HRel base w0 Z φ' ((H.del b).set nx (.lst t xs)) (nx + 1) w := by
    intro h0 ao hv0
    subst hv0
    have hx0 : xs = [] := List.eq_nil_of_length_eq_zero (by omega)
    rw [hx0, h0]
    refine ⟨φ, PLe.refl _, ?_, (hh.sub (sub_del H b)).ghostNew t⟩
    cases ao with
    | none => exact .sl0n (Nat.le_refl 0)
    | some a => exact .sl0s (cap := none) (Nat.le_refl 0) a
  cases hv with
  | sl0n hc => exact zero rfl _ rfl
  | sl0s hc a => exact zero rfl _ rfl
  | sl hl hls hc hlc hlm ha =>
    rename_i c l a
    obtain ⟨_, hr⟩ := hh.rowOf hb hrow hl
    have hseg : (seg off len es).length = len := by simp [seg]; omega
    have hr2 := rowRel_weak (row_shift hr hle) hs (by omega) hw
    have hle2 := PMap.le_set (x := ⟨l.B, l.ob + off * l.s, l.s, l.lim - off⟩) (hh.fresh (Nat.le_refl nx))
    refine ⟨φ.set nx ⟨l.B, l.ob + off * l.s, l.s, l.lim - off⟩, hle2, ?_, hh.adopt (c := nx) (Nat.le_refl _) hb hl (w' := w) rfl rfl rfl rfl (Nat.le_refl _) (fun _ _ _ => rfl) (rowRel_mono hle2 hr2)⟩
    refine .sl (PMap.set_self _ _ _) (by simp only; rw [hls, hs]) hlc hlc (by simp only; omega) ?_
    rcases ha with rfl | h0
    · left; simp only [Nat.zero_mul, Nat.add_zero]; rw [hls]
    · exact .inr h0

/-- Appended: what is left of the block of the first slice is forgotten. -/
def appT (P : Program) (t : TypeId) (x y : AV) (H : Heap) (nx : Nat) : Option (Out × List Bool) :=
  match sliceElem P t with
  | none => none
  | some e => match tyOf P 8 e with
    | none => none
    | some τ => match szOf P e, bytesOf P e, zeroCellsOf P e, elemsD H τ (τ.dec []) y with
      | some s, some by_, some z, some (ys, ps) => if s = τ.sz ∧ z.length = s then match x with
        | .nils | .emp => some ((.sl nx τ.sz 0 ys.length none, H.set nx (.lst τ ys), nx + 1), ps ++ [fitsN ys.length by_])
        | .sl b s' off len _ => if s' = τ.sz then match H.get b with
          | some (.lst τ' xs) => if h : τ' = τ then some ((.sl nx τ.sz 0 (len + ys.length) none, (H.del b).set nx (.lst τ (seg off len (castL h xs) ++ ys)), nx + 1), ps ++ [decide (off + len ≤ xs.length), fitsN (len + ys.length) by_]) else none
          | some (.row s4 es) => match mapD (τ.dec []) (seg off len es) with
            | some (xs, qs) => if off + len ≤ es.length ∧ s4 = τ.sz then some ((.sl nx τ.sz 0 (len + ys.length) none, (H.del b).set nx (.lst τ (xs ++ ys)), nx + 1), ps ++ (qs ++ [fitsN (len + ys.length) by_])) else none
            | none => none
          | _ => none
          else none
        | _ => none
        else none
      | _, _, _, _ => none

theorem fitsA_of {e : TypeId} {s n b : Nat} {z : List AV} (h1 : szOf P e = some s) (h2 : bytesOf P e = some b) (h3 : zeroCellsOf P e = some z) (h4 : z.length = s) (h5 : fitsN n b = true) : fitsA P e s n = some () := by
  unfold fitsA
  simp only [fitsN, Bool.and_eq_true, Nat.ble_eq] at h5
  simp [h1, h2, h3, h4, h5.1, h5.2]

theorem rep_forget {b s off len : Nat} {cap : Option Nat} {v : Value} (h : Rep Z φ (.sl b s off len cap) v) : Rep Z φ (.sl b s off len none) v := by
  cases h with
  | sl hl hls hc hlc hlm ha => exact .sl hl hls hlc hlc hlm ha
  | sl0n hc => exact .sl0n (Nat.le_refl 0)
  | sl0s hc a => exact .sl0s (cap := none) (Nat.le_refl 0) a

theorem append_core (hh : HRel base w0 Z φ H nx w) {t ty : TypeId} {x y r : AV} {ux uy : Value} {H' : Heap} {nx' : Nat} {ps : List Bool} (hx : Rep Z φ x ux) (hy : Rep Z φ y uy) (hr : appT P t x y H nx = some ((r, H', nx'), ps)) (hp : ∀ p ∈ ps, p) :
    ValOk base w0 Z φ r H' nx' ((Builtin.append_ #[t, t] ty #[ux, uy]).run P w) := by
  unfold appT at hr
  split at hr
  · cases hr
  rename_i e he
  split at hr
  · cases hr
  rename_i τ hτ
  split at hr
  rotate_left
  · cases hr
  rename_i s by_ z ys ps0 hs hby hz hys
  split at hr
  rotate_left
  · cases hr
  rename_i hsz
  obtain ⟨hsz, hzl⟩ := hsz
  subst hsz
  have newsOf : (∀ p ∈ ps0, p = true) → ∃ news, elems H y = some news ∧ news.length = ys.length ∧ (∀ (i : Nat) (e : List AV), news[i]? = some e → ∃ x, ys[i]? = some x ∧ WeakS e (τ.enc x)) ∧ fitsS news τ.sz = true := by
    intro hp0
    obtain ⟨news, h1, h2, h3⟩ := elemsD_rows hys hp0
    refine ⟨news, h1, h2, h3, ?_⟩
    cases news with
    | nil => rfl
    | cons e0 l =>
      obtain ⟨x0, _, hw⟩ := h3 0 e0 rfl
      simp [fitsS, (hw (fun _ => none) (fun _ => none)).1, Ty.enc_length]
  -- onto nothing
  have onNil : ∀ (x : AV) (v : Value), Rep Z φ x v → (x = .nils ∨ x = .emp) → (∀ p ∈ ps0, p = true) → fitsN ys.length by_ = true → ValOk base w0 Z φ (.sl nx τ.sz 0 ys.length none) (H.set nx (.lst τ ys)) (nx + 1) ((Builtin.append_ #[t, t] ty #[v, uy]).run P w) := by
    intro x v hx hxx hp0 hfit
    obtain ⟨news, h1, h2, h3, h4⟩ := newsOf hp0
    by_cases hn : news = []
    · have hap : aappend P t x y H nx = some (x, H, nx) := by
        unfold aappend
        rcases hxx with rfl | rfl <;> simp [he, hs, h1, hn, fitsS]
      obtain ⟨u, w', Z', φ', g1, g2, g3, g4, g5⟩ := sound_append (ty := ty) hh hx hy hap
      have hys0 : ys = [] := List.eq_nil_of_length_eq_zero (by rw [← h2, hn]; rfl)
      subst hys0
      refine ⟨u, w', Z', φ', g1, ?_, g3, g4, g5.ghostNew τ⟩
      rcases hxx with rfl | rfl
      · cases g2; exact .sl0n (Nat.le_refl 0)
      · cases g2; exact .sl0s (cap := none) (Nat.le_refl 0) _
    · have hfit' : fitsN news.length by_ = true := by rw [h2]; exact hfit
      have hap : aappend P t x y H nx = some (.sl nx τ.sz 0 news.length none, H.set nx (.row τ.sz news), nx + 1) := by
        unfold aappend
        rcases hxx with rfl | rfl <;> simp [he, hs, h1, hn, h4, fitsA_of hs hby hz hzl hfit']
      obtain ⟨u, w', Z', φ', g1, g2, g3, g4, g5⟩ := sound_append (ty := ty) hh hx hy hap
      rw [h2] at g2
      exact ⟨u, w', Z', φ', g1, g2, g3, g4, g5.retype rfl fun l hrow => rowRel_weak hrow rfl h2.symm h3⟩
  -- onto a list
  have onRow : ∀ (b off len : Nat) (cap : Option Nat) (blk : Blk) (es : List (List AV)) (xs : List τ.den), Rep Z φ (.sl b τ.sz off len cap) ux → H.get b = some blk → asRow blk = some (τ.sz, es) → off + len ≤ es.length → xs.length = len →
      (∀ (i : Nat) (e : List AV), (seg off len es)[i]? = some e → ∃ x, xs[i]? = some x ∧ WeakS e (τ.enc x)) → (∀ p ∈ ps0, p = true) → fitsN (len + ys.length) by_ = true →
      ValOk base w0 Z φ (.sl nx τ.sz 0 (len + ys.length) none) ((H.del b).set nx (.lst τ (xs ++ ys))) (nx + 1) ((Builtin.append_ #[t, t] ty #[ux, uy]).run P w) := by
    intro b off len cap blk es xs hx hb hrow hle hxl hxw hp0 hfit
    obtain ⟨news, h1, h2, h3, h4⟩ := newsOf hp0
    have hx := rep_forget hx
    by_cases hn : news = []
    · have hap : aappend P t (.sl b τ.sz off len none) y H nx = some (.sl b τ.sz off len none, H, nx) := by
        unfold aappend
        simp [he, hs, h1, hn, fitsS]
      obtain ⟨u, w', Z', φ', g1, g2, g3, g4, g5⟩ := sound_append (ty := ty) hh hx hy hap
      have hys0 : ys = [] := List.eq_nil_of_length_eq_zero (by rw [← h2, hn]; rfl)
      subst hys0
      obtain ⟨φ'', k1, k2, k3⟩ := g5.rename hb hrow rfl hle hxl hxw g2
      simp only [List.append_nil, List.length_nil, Nat.add_zero]
      exact ⟨u, w', Z', φ'', g1, k2, g3, g4.trans k1, k3⟩
    · have hfit' : fitsN (len + news.length) by_ = true := by rw [h2]; exact hfit
      have hap : aappend P t (.sl b τ.sz off len none) y H nx = some (.sl nx τ.sz 0 (len + news.length) none, (H.del b).set nx (.row τ.sz (seg off len es ++ news)), nx + 1) := by
        unfold aappend
        have : ¬ es.length < off + len := by omega
        simp [he, hs, h1, hn, h4, hb, hrow, this, fitsA_of hs hby hz hzl hfit', seg]
      obtain ⟨u, w', Z', φ', g1, g2, g3, g4, g5⟩ := sound_append (ty := ty) hh hx hy hap
      rw [h2] at g2
      have hsegl : (seg off len es).length = len := by simp [seg]; omega
      refine ⟨u, w', Z', φ', g1, g2, g3, g4, g5.retype rfl fun l hrow => rowRel_weak hrow rfl (by simp [hsegl, hxl, h2]) fun i e hi => ?_⟩
      by_cases hil : i < len
      · rw [List.getElem?_append_left (by omega)] at hi ⊢
        exact hxw i e hi
      · rw [List.getElem?_append_right (by omega), hsegl] at hi
        rw [List.getElem?_append_right (by omega), hxl]
        exact h3 _ e hi
  split at hr
  · simp only [Option.some.injEq, Prod.mk.injEq] at hr
    obtain ⟨⟨rfl, rfl, rfl⟩, rfl⟩ := hr
    exact onNil _ _ hx (.inl rfl) (fun p h => hp p (List.mem_append_left _ h)) (hp _ (List.mem_append_right _ (List.mem_singleton.2 rfl)))
  · simp only [Option.some.injEq, Prod.mk.injEq] at hr
    obtain ⟨⟨rfl, rfl, rfl⟩, rfl⟩ := hr
    exact onNil _ _ hx (.inr rfl) (fun p h => hp p (List.mem_append_left _ h)) (hp _ (List.mem_append_right _ (List.mem_singleton.2 rfl)))
  · rename_i b s' off len cap
    split at hr
    rotate_left
    · cases hr
    rename_i hs'
    subst hs'
    split at hr
    · rename_i τ' xs hb
      split at hr
      · rename_i ht
        subst ht
        simp only [Option.some.injEq, Prod.mk.injEq] at hr
        obtain ⟨⟨rfl, rfl, rfl⟩, rfl⟩ := hr
        have hle : off + len ≤ xs.length := of_decide_eq_true (hp _ (List.mem_append_right _ (by simp)))
        have hfit : fitsN (len + ys.length) by_ = true := hp _ (List.mem_append_right _ (by simp))
        refine onRow b off len cap _ _ (seg off len (castL rfl xs)) hx hb rfl (by simpa using hle) (by simp [seg, castL_self]; omega) (fun i e hi => ?_) (fun p h => hp p (List.mem_append_left _ h)) hfit
        have e1 : seg off len (xs.map τ'.enc) = (seg off len xs).map τ'.enc := by simp [seg, List.map_take, List.map_drop]
        rw [e1, List.getElem?_map] at hi
        cases hy : (seg off len xs)[i]? with
        | none => rw [hy] at hi; cases hi
        | some y => rw [hy] at hi; injection hi with hi; subst hi; exact ⟨y, hy, WeakS.refl _⟩
      · cases hr
    · rename_i s4 es hb
      split at hr
      · rename_i xs qs hm
        split at hr
        · rename_i hc
          obtain ⟨hle, rfl⟩ := hc
          simp only [Option.some.injEq, Prod.mk.injEq] at hr
          obtain ⟨⟨rfl, rfl, rfl⟩, rfl⟩ := hr
          obtain ⟨k1, k2⟩ := mapD_get hm
          have hsegl : (seg off len es).length = len := by simp [seg]; omega
          have hfit : fitsN (len + ys.length) by_ = true := hp _ (by simp)
          exact onRow b off len cap _ es xs hx hb rfl hle (by omega) (fun i e hi => let ⟨x, p, hx, hd, hq⟩ := k2 i e hi; ⟨x, hx, dec_weak hd fun q hq' => hp q (by simp [hq q hq'])⟩) (fun p h => hp p (List.mem_append_left _ h)) hfit
        · cases hr
      · cases hr
    · cases hr
  · cases hr
end
end Go.Lom

/- Operations on unknown contents: what they yield, with the conditions. No conditions of its own. -/
set_option linter.unusedSimpArgs false
set_option linter.unusedVariables false
set_option linter.constructorNameAsVariable false
namespace Go.Lom
open Go.RowKit

def optK {α : Type} (o : Option α) (K : α → Prop) : Prop := match o with | some x => K x | none => False
theorem optK_iff {α : Type} {o : Option α} {K : α → Prop} : optK o K ↔ ∃ x, o = some x ∧ K x := by cases o <;> simp [optK]
def fork (b : Bool) (p q : Prop) : Prop := match b with | true => p | false => q
theorem fork_iff {b : Bool} {p q : Prop} : fork b p q ↔ (b = true → p) ∧ (b = false → q) := by cases b <;> simp [fork]
def bsel (t p q : Bool) : Bool := match t with | true => p | false => q

/-! ### Numbers in range -/
def loK : IntKind → Int
  | .i8 => -128 | .i16 => -32768 | .i32 => -2147483648 | .i64 => -9223372036854775808
  | .u8 | .u16 | .u32 | .u64 => 0
def hiK : IntKind → Int
  | .i8 => 127 | .i16 => 32767 | .i32 => 2147483647 | .i64 => 9223372036854775807
  | .u8 => 255 | .u16 => 65535 | .u32 => 4294967295 | .u64 => 18446744073709551615
def inR (k : IntKind) : Int → Bool
  | .ofNat a => Nat.ble a (hiK k).toNat
  | .negSucc a => Nat.ble (a + 1) (-(loK k)).toNat
theorem inR_iff {k : IntKind} : ∀ {n : Int}, inR k n = true ↔ loK k ≤ n ∧ n ≤ hiK k
  | .ofNat a => by
    rw [show inR k (Int.ofNat a) = Nat.ble a (hiK k).toNat from rfl, Nat.ble_eq, show Int.ofNat a = (a : Int) from rfl]
    cases k <;> simp only [loK, hiK] <;> omega
  | .negSucc a => by cases k <;> simp only [inR, loK, hiK, Nat.ble_eq] <;> omega
theorem inR_i64 {n : Int} : inR .i64 n = true ↔ -9223372036854775808 ≤ n ∧ n ≤ 9223372036854775807 := inR_iff
theorem wrap_in {k : IntKind} {n : Int} (h : inR k n = true) : k.wrap n = n := by
  rw [inR_iff] at h
  cases k <;> simp only [loK, hiK] at h <;> simp only [IntKind.wrap, IntKind.signed, IntKind.bits, Bool.true_and, Bool.false_and] <;> simp <;> omega

/-! ### Equality of composites, as one truth value -/
def beqFs (P : Program) (r : TypeId → AV → AV → Option Bool) (xs ys : List AV) : List Field → Option Bool
  | [] => some true
  | f :: fs => if f.name = "_" then beqFs P r xs ys fs else match rd P f.type xs f.offset, rd P f.type ys f.offset with
    | some a, some b => match r f.type a b, beqFs P r xs ys fs with
      | some c, some d => some (c && d)
      | _, _ => none
    | _, _ => none
def beqIs (P : Program) (r : TypeId → AV → AV → Option Bool) (e : TypeId) (n : Nat) (xs ys : List AV) : List Nat → Option Bool
  | [] => some true
  | i :: is => match rd P e xs (i * n), rd P e ys (i * n) with
    | some a, some b => match r e a b, beqIs P r e n xs ys is with
      | some c, some d => some (c && d)
      | _, _ => none
    | _, _ => none
def abeqIn (P : Program) : Nat → TypeId → AV → AV → Option Bool
  | 0, _, _, _ => none
  | d + 1, t, x, y => match P.underlying t, x, y with
    | some (.struct fs), .agg xs, .agg ys => if P.stoodInHeld t then none else beqFs P (abeqIn P d) xs ys fs.toList
    | some (.array len e), .agg xs, .agg ys => match szOf P e with
      | some n => beqIs P (abeqIn P d) e n xs ys (List.range len)
      | none => none
    | _, x, y => aeqIn P (d + 1) t x y

theorem beqFs_ok {P : Program} {r r' : TypeId → AV → AV → Option Bool} (hr : ∀ t a b c, r t a b = some c → r' t a b = some c) {xs ys : List AV} : ∀ (fs : List Field) (b : Bool), beqFs P r xs ys fs = some b → eqFs P r' xs ys fs = some b
  | [], b, h => h
  | f :: fs, b, h => by
    unfold beqFs at h
    unfold eqFs
    by_cases hn : f.name = "_"
    · rw [if_pos hn] at h ⊢; exact beqFs_ok hr fs b h
    · rw [if_neg hn] at h ⊢
      split at h
      · rename_i x y hx hy
        split at h
        · rename_i c d hc hd
          injection h with h; subst h
          simp only [hx, hy, hr _ _ _ _ hc, Option.bind_eq_bind, Option.bind_some]
          cases c with
          | true => simpa using beqFs_ok hr fs d hd
          | false => simp
        · cases h
      · cases h
theorem beqIs_ok {P : Program} {r r' : TypeId → AV → AV → Option Bool} (hr : ∀ t a b c, r t a b = some c → r' t a b = some c) {e : TypeId} {n : Nat} {xs ys : List AV} : ∀ (is : List Nat) (b : Bool), beqIs P r e n xs ys is = some b → eqIs P r' e n xs ys is = some b
  | [], b, h => h
  | i :: is, b, h => by
    unfold beqIs at h
    unfold eqIs
    split at h
    · rename_i x y hx hy
      split at h
      · rename_i c d hc hd
        injection h with h; subst h
        simp only [hx, hy, hr _ _ _ _ hc, Option.bind_eq_bind, Option.bind_some]
        cases c with
        | true => simpa using beqIs_ok hr is d hd
        | false => simp
      · cases h
    · cases h
theorem abeqIn_ok {P : Program} : ∀ (d : Nat) (t : TypeId) (x y : AV) (b : Bool), abeqIn P d t x y = some b → aeqIn P d t x y = some b
  | 0, _, _, _, _, h => by simp [abeqIn] at h
  | d + 1, t, x, y, b, h => by
    have ih := abeqIn_ok (P := P) d
    unfold abeqIn at h
    split at h
    · rename_i fs xs ys hu
      unfold aeqIn
      rw [hu]
      simp only
      split at h
      · cases h
      · rename_i hst
        rw [if_neg hst]
        exact beqFs_ok ih _ _ h
    · rename_i len e xs ys hu
      unfold aeqIn
      rw [hu]
      simp only
      split at h
      · rename_i n hn
        rw [hn]
        exact beqIs_ok ih _ _ h
      · cases h
    · exact h

/-! ### The operations -/
abbrev QT := Option (AV × List Bool)

def qBin (P : Program) (op : BinOp) (t : TypeId) (ox oy : Operand) (x y : AV) : QT :=
  match x, y with
  | .int k a, .int k' b => if k = k' then match op with
      | .add => some (.int k (a + b), [inR k (a + b)])
      | .sub => some (.int k (a - b), [inR k (a - b)])
      | .mul => some (.int k (a * b), [inR k (a * b)])
      | .quo => some (.int k (a.tdiv b), [decide (b ≠ 0), inR k (a.tdiv b)])
      | .rem => some (.int k (a.tmod b), [decide (b ≠ 0)])
      | .shl => some (.int k (a * 2 ^ (min b.toNat k.bits)), [decide (0 ≤ b), inR k (a * 2 ^ (min b.toNat k.bits))])
      | .shr => some (.int k (a.fdiv (2 ^ (min b.toNat k.bits))), [decide (0 ≤ b)])
      | _ => none
    else none
  | .str a, .str b => match op with
    | .add => some (.str (a ++ b), [Nat.ble (a.length + b.length) 9223372036854775807])
    | _ => none
  | .agg xs, .agg ys => match op with
    | .eql => if abin.guardOk P t ox oy (.agg xs) (.agg ys) then (abeqIn P 10000 t (.agg xs) (.agg ys)).map fun b => (.bool b, []) else none
    | .neq => if abin.guardOk P t ox oy (.agg xs) (.agg ys) then (abeqIn P 10000 t (.agg xs) (.agg ys)).map fun b => (.bool (!b), []) else none
    | _ => none
  | x, y => match P.underlying t with
    | some (.array len e) => match P.underlying e with
      | some (.int k) => match arrI k x, arrI k y with
        | some xs, some ys => match op with
          | .eql => if abin.guardOk P t ox oy x y = true ∧ szOf P e = some 1 then some (.bool (decide (xs = ys)), [decide (xs.length = len), decide (ys.length = len)]) else none
          | .neq => if abin.guardOk P t ox oy x y = true ∧ szOf P e = some 1 then some (.bool (!decide (xs = ys)), [decide (xs.length = len), decide (ys.length = len)]) else none
          | _ => none
        | _, _ => none
      | _ => none
    | _ => none

theorem qBin_ok {P : Program} {op : BinOp} {t : TypeId} {ox oy : Operand} {x y r : AV} {ps : List Bool} (h : qBin P op t ox oy x y = some (r, ps)) (hp : ∀ p ∈ ps, p = true) : abin P op t ox oy x y = some r := by
  unfold qBin at h
  split at h
  · rename_i k a k' b
    split at h
    · rename_i hk
      subst hk
      split at h <;> simp only [Option.some.injEq, Prod.mk.injEq, reduceCtorEq] at h <;> obtain ⟨rfl, rfl⟩ := h
      · simp [abin, binI, wrap_in (hp _ (List.mem_singleton.2 rfl))]
      · simp [abin, binI, wrap_in (hp _ (List.mem_singleton.2 rfl))]
      · simp [abin, binI, wrap_in (hp _ (List.mem_singleton.2 rfl))]
      · have h1 : b ≠ 0 := of_decide_eq_true (hp _ (List.mem_cons_self ..))
        have h2 := wrap_in (hp (inR k (a.tdiv b)) (by simp))
        simp [abin, binI, h1, h2]
      · have h1 : b ≠ 0 := of_decide_eq_true (hp _ (List.mem_cons_self ..))
        simp [abin, binI, h1]
      · have h1 : 0 ≤ b := of_decide_eq_true (hp _ (List.mem_cons_self ..))
        have h2 := wrap_in (hp (inR k (a * 2 ^ (min b.toNat k.bits))) (by simp))
        have h3 : ¬ b < 0 := by omega
        simp only [abin, if_neg h3, h2]
      · have h1 : 0 ≤ b := of_decide_eq_true (hp _ (List.mem_cons_self ..))
        have h3 : ¬ b < 0 := by omega
        simp only [abin, if_neg h3]
    · cases h
  · rename_i a b
    split at h <;> simp only [Option.some.injEq, Prod.mk.injEq, reduceCtorEq] at h
    obtain ⟨rfl, rfl⟩ := h
    have h1 : ((a.length + b.length : Nat) : Int) ≤ 9223372036854775807 := by have := Nat.le_of_ble_eq_true (hp _ (List.mem_cons_self ..)); omega
    have h2 : ¬ ((a.length + b.length : Nat) : Int) > IntKind.i64.max := by simp [IntKind.max, IntKind.signed, IntKind.bits]; omega
    simp only [abin, binS, if_neg h2]
  · rename_i xs ys
    split at h
    · split at h
      · rename_i hg
        simp only [Option.map_eq_some_iff, Prod.mk.injEq] at h
        obtain ⟨b, hb, rfl, rfl⟩ := h
        simp [abin, hg, abeqIn_ok _ _ _ _ _ hb]
      · cases h
    · split at h
      · rename_i hg
        simp only [Option.map_eq_some_iff, Prod.mk.injEq] at h
        obtain ⟨b, hb, rfl, rfl⟩ := h
        simp [abin, hg, abeqIn_ok _ _ _ _ _ hb]
      · cases h
    · cases h
  · rename_i n1 n2 n3
    split at h
    rotate_left
    · cases h
    rename_i len e hu
    split at h
    rotate_left
    · cases h
    rename_i k he
    split at h
    rotate_left
    · cases h
    rename_i xs ys hx hy
    have main : ∀ (b : Bool), szOf P e = some 1 → xs.length = len → ys.length = len → b = decide (xs = ys) → aeqIn P 10000 t x y = some b := fun b h1 h2 h3 hb => by
      have hnotboth : ∀ as bs, x = .agg as → y = .agg bs → False := fun as bs e1 e2 => n3 as bs e1 e2
      subst hb
      unfold arrI at hx hy
      split at hx
      · split at hx
        rotate_left
        · cases hx
        rename_i k1 zs hk
        injection hx with hx; subst hx hk
        have hx2 : arrI k1 (.ar (.i k1) zs) = some zs := by simp [arrI]
        have hy2 : arrI k1 y = some ys := hy
        simp [aeqIn, hu, arEq, he, hx2, hy2, h1, h2, h3]
      · rename_i cs
        split at hy
        · split at hy
          rotate_left
          · cases hy
          rename_i k1 zs hk
          injection hy with hy; subst hy hk
          have hx2 : arrI k1 (.agg cs) = some xs := hx
          have hy2 : arrI k1 (.ar (.i k1) zs) = some zs := by simp [arrI]
          simp [aeqIn, hu, arEq, he, hx2, hy2, h1, h2, h3]
        · exact (hnotboth _ _ rfl rfl).elim
        · cases hy
      · cases hx
    have nx : ∀ k a, x ≠ .int k a := fun k a e => by rw [e] at hx; simp [arrI] at hx
    have ns : ∀ a, x ≠ .str a := fun a e => by rw [e] at hx; simp [arrI] at hx
    split at h
    · split at h
      · rename_i hg
        simp only [Option.some.injEq, Prod.mk.injEq] at h
        obtain ⟨rfl, rfl⟩ := h
        have h2 : xs.length = len := of_decide_eq_true (hp _ (by simp))
        have h3 : ys.length = len := of_decide_eq_true (hp _ (by simp))
        have hm := main _ hg.2 h2 h3 rfl
        unfold abin
        split <;> first | exact absurd rfl (nx _ _) | exact absurd rfl (ns _) | (rw [if_pos hg.1, hm]; rfl) | (rename_i e; cases e; done) | (simp_all; done)
      · cases h
    · split at h
      · rename_i hg
        simp only [Option.some.injEq, Prod.mk.injEq] at h
        obtain ⟨rfl, rfl⟩ := h
        have h2 : xs.length = len := of_decide_eq_true (hp _ (by simp))
        have h3 : ys.length = len := of_decide_eq_true (hp _ (by simp))
        have hm := main _ hg.2 h2 h3 rfl
        unfold abin
        split <;> first | exact absurd rfl (nx _ _) | exact absurd rfl (ns _) | (rw [if_pos hg.1, hm]; rfl) | (rename_i e; cases e; done) | (simp_all; done)
      · cases h
    · cases h

def qUn (op : UnOp) (x : AV) : QT :=
  match op, x with
  | .neg, .int k n => some (.int k (-n), [inR k (-n)])
  | _, _ => none
theorem qUn_ok {op : UnOp} {x r : AV} {ps : List Bool} (h : qUn op x = some (r, ps)) (hp : ∀ p ∈ ps, p = true) : aun op x = some r := by
  unfold qUn at h
  split at h
  · simp only [Option.some.injEq, Prod.mk.injEq] at h
    obtain ⟨rfl, rfl⟩ := h
    rename_i k n
    have h1 := wrap_in (hp (inR k (-n)) (by simp))
    simp [aun, h1]
  · cases h

def byteI (n : Int) : UInt8 := UInt8.ofNat n.toNat
def qConv (P : Program) (src dst : TypeId) (x : AV) (H : Heap) : QT :=
  match P.underlying src, P.underlying dst, x with
  | some _, some (.int k), .int _ n => some (.int k n, [inR k n])
  | some (.slice e), some .string, x => match P.underlying e with
    | some (.int .u8) => match elemsD H (.i .u8) ((Ty.i .u8).dec []) x with
      | some (bs, ps) => some (.str (bs.map byteI), ps)
      | none => none
    | _ => none
  | _, _, _ => none

theorem mapD_bytes : ∀ (es : List (List AV)) (bs : List Int) (ps : List Bool), mapD ((Ty.i .u8).dec []) es = some (bs, ps) → es = bs.map fun n => [.int .u8 n]
  | [], bs, ps, h => by simp only [mapD, Option.some.injEq, Prod.mk.injEq] at h; obtain ⟨rfl, _⟩ := h; rfl
  | e :: es, bs, ps, h => by
    simp only [mapD] at h
    split at h
    · rename_i x p hd
      split at h
      · rename_i xs q hm
        simp only [Option.some.injEq, Prod.mk.injEq] at h
        obtain ⟨rfl, _⟩ := h
        have hd : decI .u8 e = some (x, p) := hd
        unfold decI at hd
        split at hd
        · split at hd
          · rename_i hk
            simp only [Option.some.injEq, Prod.mk.injEq] at hd
            obtain ⟨rfl, _⟩ := hd
            subst hk
            rw [List.map_cons, ← mapD_bytes es xs q hm]
          · cases hd
        · cases hd
      · cases h
    · cases h
theorem mapM_byteOf : ∀ bs : List Int, (bs.map fun n => [AV.int .u8 n]).mapM byteOf = some (bs.map byteI)
  | [] => rfl
  | b :: bs => by
    rw [List.map_cons, List.mapM_cons, mapM_byteOf bs]
    rfl
theorem bytes_elems {H : Heap} {x : AV} {bs : List Int} {ps : List Bool} (he : elemsD H (.i .u8) ((Ty.i .u8).dec []) x = some (bs, ps)) (hp : ∀ p ∈ ps, p = true) : elems H x = some (bs.map fun n => [AV.int .u8 n]) := by
  have encs : ∀ zs : List Int, zs.map (Ty.enc (.i .u8)) = zs.map fun n => [AV.int .u8 n] := fun zs => rfl
  unfold elemsD at he
  split at he
  · simp only [Option.some.injEq, Prod.mk.injEq] at he; obtain ⟨rfl, rfl⟩ := he; rfl
  · simp only [Option.some.injEq, Prod.mk.injEq] at he; obtain ⟨rfl, rfl⟩ := he; rfl
  · split at he
    · rename_i ht
      subst ht
      simp only [Option.some.injEq, Prod.mk.injEq] at he; obtain ⟨rfl, rfl⟩ := he
      rfl
    · cases he
  · simp only [elems]; rw [mapD_bytes _ _ _ he]
  · rename_i b s off len cap
    split at he
    · split at he
      · rename_i t' xs hb
        split at he
        · rename_i ht
          subst ht
          simp only [Option.some.injEq, Prod.mk.injEq] at he; obtain ⟨rfl, rfl⟩ := he
          have hle : off + len ≤ xs.length := of_decide_eq_true (hp _ (List.mem_singleton.2 rfl))
          simp [elems, hb, asRow, seg, hle, List.map_take, List.map_drop, castL_self]
          rfl
        · cases he
      · rename_i s' es hb
        split at he
        · rename_i hle
          simp only [elems, hb, asRow, Option.bind_eq_bind, Option.bind_some]
          rw [if_pos hle, ← mapD_bytes _ _ _ he]; rfl
        · cases he
      · cases he
    · cases he
  · cases he
theorem qConv_ok {P : Program} {src dst : TypeId} {v r : AV} {H : Heap} {ps : List Bool} (h : qConv P src dst v H = some (r, ps)) (hp : ∀ p ∈ ps, p = true) : aconv P src dst v H = some r := by
  unfold qConv at h
  unfold aconv
  split at h
  · rename_i d1 k k2 n h1 h2
    simp only [Option.some.injEq, Prod.mk.injEq] at h
    obtain ⟨rfl, rfl⟩ := h
    simp [h1, h2, wrap_in (hp _ (List.mem_singleton.2 rfl))]
  · rename_i y e h1 h2
    split at h
    · rename_i h3
      split at h
      · rename_i bs ps' he
        simp only [Option.some.injEq, Prod.mk.injEq] at h
        obtain ⟨rfl, rfl⟩ := h
        have hel := bytes_elems he hp
        have e1 : ∀ u : AV, elems H u = some (bs.map fun n => [AV.int .u8 n]) → (match some (TypeDesc.slice e), some TypeDesc.string, u with
            | some _, some (.int k), .int _ n => some (AV.int k (k.wrap n))
            | some _, some .string, .str s => some (.str s)
            | some (.slice e), some .string, x => match P.underlying e with
              | some (.int .u8) => (do
                let es ← elems H x
                let bs ← es.mapM byteOf
                some (.str bs))
              | _ => none
            | _, _, _ => none) = some (.str (bs.map byteI)) := by
          intro u hu
          cases u <;> first | (simp [elems] at hu; done) | simp only [h3, hu, Option.bind_eq_bind, Option.bind_some, mapM_byteOf]
        rw [h1, h2]
        exact e1 _ hel
      · cases h
    · cases h
  · cases h

def bndI : Option AV → Int → Option Int
  | none, d => some d
  | some (.int _ n), _ => some n
  | _, _ => none
theorem bndI_ok {x : Option AV} {d : Nat} {n : Int} {most : Nat} (h : bndI x d = some n) (h0 : 0 ≤ n) (h1 : n ≤ most) : bnd x d most = some n.toNat := by
  unfold bndI at h
  split at h
  · injection h with h; subst h; simp [bnd]
  · injection h with h; subst h
    simp [bnd, asI, h0, h1]
  · cases h

def qSlice (P : Program) (t : TypeId) (x : AV) (lo hi mx : Option AV) : QT :=
  match mx with
  | some mv => match P.underlying t, x, mv, hi with
    | some (.slice e), .sl b s off len cap, .int _ m, some (.int _ h) => if szOf P e = some s then match bndI lo (0 : Nat) with
      | some l => some (.sl b s (addN off l.toNat) (h.toNat - l.toNat) (some (m.toNat - l.toNat)), [decide (0 ≤ l ∧ l ≤ h ∧ h ≤ m ∧ m ≤ cap.getD len)])
      | none => none
      else none
    | _, _, _, _ => none
  | none => match P.underlying t, x with
    | some .string, .str s => match bndI hi s.length, bndI lo (0 : Nat) with
      | some h, some l => some (.str ((s.take h.toNat).drop l.toNat), [decide (0 ≤ l ∧ l ≤ h ∧ h ≤ s.length)])
      | _, _ => none
    | some (.slice e), .rl τ xs => if szOf P e = some τ.sz then match bndI hi xs.length, bndI lo (0 : Nat) with
      | some h, some l => some (.rl τ ((xs.take h.toNat).drop l.toNat), [decide (0 ≤ l ∧ l ≤ h ∧ h ≤ xs.length)])
      | _, _ => none
      else none
    | some (.slice e), .sl b s off len cap => if szOf P e = some s then match bndI hi len, bndI lo (0 : Nat) with
      | some h, some l => some (.sl b s (addN off l.toNat) (h.toNat - l.toNat) (cap.map (· - l.toNat)), [decide (0 ≤ l ∧ l ≤ h ∧ h ≤ len ∧ len ≤ cap.getD len)])
      | _, _ => none
      else none
    | _, _ => none
theorem qSlice_ok {P : Program} {t : TypeId} {x r : AV} {lo hi mx : Option AV} {ps : List Bool} (h : qSlice P t x lo hi mx = some (r, ps)) (hp : ∀ p ∈ ps, p = true) : aslice P t x lo hi mx = some r := by
  unfold qSlice at h
  split at h
  · split at h
    · rename_i e b s off len cap k1 m k2 hn hu
      split at h
      · rename_i hs
        split at h
        · rename_i l hl
          simp only [Option.some.injEq, Prod.mk.injEq] at h
          obtain ⟨rfl, rfl⟩ := h
          have hc : 0 ≤ l ∧ l ≤ hn ∧ hn ≤ m ∧ m ≤ cap.getD len := of_decide_eq_true (hp _ (List.mem_singleton.2 rfl))
          have b1 : bnd (some (.int k2 hn)) len m.toNat = some hn.toNat := by
            simp only [bnd, asI, Option.bind_eq_bind, Option.bind_some]
            rw [if_pos ⟨by omega, by omega⟩]
          have b2 := bndI_ok (most := hn.toNat) hl hc.1 (by omega)
          have b3 : mxB (some (.int k1 m)) (cap.getD len) = some (some m.toNat) := by
            simp only [mxB, bnd, asI, Option.bind_eq_bind, Option.bind_some]
            rw [if_pos ⟨by omega, by omega⟩]; rfl
          simp [aslice, hu, hs, b1, b2, b3, newCap, addN_eq]
        · cases h
      · cases h
    · cases h
  split at h
  · rename_i s hu
    split at h
    · rename_i hn l hh hl
      simp only [Option.some.injEq, Prod.mk.injEq] at h
      obtain ⟨rfl, rfl⟩ := h
      have hc : 0 ≤ l ∧ l ≤ hn ∧ hn ≤ s.length := of_decide_eq_true (hp _ (List.mem_singleton.2 rfl))
      have b1 := bndI_ok (most := s.length) hh (by omega) hc.2.2
      have b2 := bndI_ok (most := hn.toNat) hl hc.1 (by omega)
      simp [aslice, hu, b1, b2]
    · cases h
  · rename_i e τ xs hu
    split at h
    · rename_i hs
      split at h
      · rename_i hn l hh hl
        simp only [Option.some.injEq, Prod.mk.injEq] at h
        obtain ⟨rfl, rfl⟩ := h
        have hc : 0 ≤ l ∧ l ≤ hn ∧ hn ≤ xs.length := of_decide_eq_true (hp _ (List.mem_singleton.2 rfl))
        have b1 := bndI_ok (most := xs.length) hh (by omega) hc.2.2
        have b2 := bndI_ok (most := hn.toNat) hl hc.1 (by omega)
        simp [aslice, hu, hs, mxB, b1, b2]
      · cases h
    · cases h
  · rename_i e b s off len cap hu
    split at h
    · rename_i hs
      split at h
      · rename_i hn l hh hl
        simp only [Option.some.injEq, Prod.mk.injEq] at h
        obtain ⟨rfl, rfl⟩ := h
        have hc : 0 ≤ l ∧ l ≤ hn ∧ hn ≤ len ∧ len ≤ cap.getD len := of_decide_eq_true (hp _ (List.mem_singleton.2 rfl))
        have b1 := bndI_ok (most := cap.getD len) hh (by omega) (by omega)
        have b2 := bndI_ok (most := hn.toNat) hl hc.1 (by omega)
        simp [aslice, hu, hs, mxB, b1, b2, newCap, addN_eq]
      · cases h
    · cases h
  · cases h

def qIdxA (P : Program) (t : TypeId) (x i : AV) : QT :=
  match i with
  | .int _ n => match P.underlying t, x with
    | some (.slice e), .rl τ xs => if szOf P e = some τ.sz then some (.rp (τ.enc (xs.getD n.toNat τ.dflt)) 0, [decide (0 ≤ n ∧ n < xs.length)]) else none
    | some (.slice e), .sl b s off len _ => if szOf P e = some s then some (.ptr b (addN off n.toNat) 0, [decide (0 ≤ n ∧ n < len)]) else none
    | some (.array len e), .ptr b j o => match szOf P e with
      | some s => some (.ptr b j (addN o (mulN n.toNat s)), [decide (0 ≤ n ∧ n < len)])
      | none => none
    | some (.array len e), .rp c o => match szOf P e with
      | some s => some (.rp c (addN o (mulN n.toNat s)), [decide (0 ≤ n ∧ n < len)])
      | none => none
    | _, _ => none
  | _ => none
theorem getElem?_getD {α : Type} {xs : List α} {n : Nat} (d : α) (h : n < xs.length) : xs[n]? = some (xs.getD n d) := by
  rw [List.getElem?_eq_getElem h]; simp [List.getD_eq_getElem?_getD, h]
theorem qIdxA_ok {P : Program} {t : TypeId} {x i r : AV} {ps : List Bool} (h : qIdxA P t x i = some (r, ps)) (hp : ∀ p ∈ ps, p = true) : aindexAddr P t x i = some r := by
  unfold qIdxA at h
  split at h
  rotate_left
  · cases h
  rename_i k n
  split at h
  · rename_i e τ xs hu
    split at h
    · rename_i hs
      simp only [Option.some.injEq, Prod.mk.injEq] at h
      obtain ⟨rfl, rfl⟩ := h
      have hc : 0 ≤ n ∧ n < xs.length := of_decide_eq_true (hp _ (List.mem_singleton.2 rfl))
      have hneg : ¬ n < 0 := by omega
      have hg := getElem?_getD τ.dflt (show n.toNat < xs.length by omega)
      simp only [aindexAddr, asI, Option.bind_eq_bind, Option.bind_some, if_neg hneg, hu, hs, List.getElem?_map, hg, Option.map_some, Ty.enc_length, if_true]
    · cases h
  · rename_i e b s off len cap hu
    split at h
    · rename_i hs
      simp only [Option.some.injEq, Prod.mk.injEq] at h
      obtain ⟨rfl, rfl⟩ := h
      have hc : 0 ≤ n ∧ n < len := of_decide_eq_true (hp _ (List.mem_singleton.2 rfl))
      have hneg : ¬ n < 0 := by omega
      simp [aindexAddr, asI, hneg, hu, hs, hc.2, addN_eq]
    · cases h
  · rename_i len e b j o hu
    split at h
    · rename_i s hs
      simp only [Option.some.injEq, Prod.mk.injEq] at h
      obtain ⟨rfl, rfl⟩ := h
      have hc : 0 ≤ n ∧ n < len := of_decide_eq_true (hp _ (List.mem_singleton.2 rfl))
      have hneg : ¬ n < 0 := by omega
      simp only [aindexAddr, asI, Option.bind_eq_bind, Option.bind_some, if_neg hneg, hu, if_pos hc.2, hs, Option.map_some]
    · cases h
  · rename_i len e c o hu
    split at h
    · rename_i s hs
      simp only [Option.some.injEq, Prod.mk.injEq] at h
      obtain ⟨rfl, rfl⟩ := h
      have hc : 0 ≤ n ∧ n < len := of_decide_eq_true (hp _ (List.mem_singleton.2 rfl))
      have hneg : ¬ n < 0 := by omega
      simp only [aindexAddr, asI, Option.bind_eq_bind, Option.bind_some, if_neg hneg, hu, if_pos hc.2, hs, Option.map_some]
    · cases h
  · cases h

def qIdx (P : Program) (t : TypeId) (x i : AV) : QT :=
  match i with
  | .int _ n => match P.underlying t, x with
    | some .string, .str s => some (.int .u8 (s.getD n.toNat 0).toNat, [decide (0 ≤ n ∧ n < s.length)])
    | some (.array len e), .ar τ xs => if szOf P e = some τ.sz then match rd P e (τ.enc (xs.getD n.toNat τ.dflt)) 0 with
      | some r => some (r, [decide (0 ≤ n ∧ n < len), decide (n < xs.length)])
      | none => none
      else none
    | _, _ => none
  | _ => none
theorem qIdx_ok {P : Program} {t : TypeId} {x i r : AV} {ps : List Bool} (h : qIdx P t x i = some (r, ps)) (hp : ∀ p ∈ ps, p = true) : aindex P t x i = some r := by
  unfold qIdx at h
  split at h
  rotate_left
  · cases h
  rename_i k n
  split at h
  · rename_i s hu
    simp only [Option.some.injEq, Prod.mk.injEq] at h
    obtain ⟨rfl, rfl⟩ := h
    have hc : 0 ≤ n ∧ n < s.length := of_decide_eq_true (hp _ (List.mem_singleton.2 rfl))
    have hneg : ¬ n < 0 := by omega
    have hg := getElem?_getD 0 (show n.toNat < s.length by omega)
    simp only [aindex, asI, Option.bind_eq_bind, Option.bind_some, if_neg hneg, hu, hg]
  · rename_i len e τ xs hu
    split at h
    rotate_left
    · cases h
    rename_i hs
    split at h
    rotate_left
    · cases h
    rename_i r' hr
    simp only [Option.some.injEq, Prod.mk.injEq] at h
    obtain ⟨rfl, rfl⟩ := h
    have hc : 0 ≤ n ∧ n < len := of_decide_eq_true (hp _ (by simp))
    have hc2 : n < xs.length := of_decide_eq_true (hp _ (by simp))
    have hneg : ¬ n < 0 := by omega
    have hg := getElem?_getD τ.dflt (show n.toNat < xs.length by omega)
    simp only [aindex, asI, Option.bind_eq_bind, Option.bind_some, if_neg hneg, hu]
    rw [if_pos ⟨hc.2, hs⟩, hg]
    exact hr
  · cases h

def qLoad0 (P : Program) (t : TypeId) (a : AV) (H : Heap) : QT :=
  match a with
  | .ptr b i o => match H.get b with
    | some (.lst τ xs) => match P.underlying t with
      | none => none
      | some d => match isAggD d, τ.sz with
        | false, 1 => match rd P t (τ.enc (xs.getD (i + o) τ.dflt)) 0 with
          | some r => some (r, [decide (i + o < xs.length)])
          | none => none
        | _, _ => match d with
          | .array _ _ => match i, o with
            | 0, 0 => match szOf P t with
              | some n => some (.ar τ xs, [decide (mulN xs.length τ.sz = n)])
              | none => none
            | _, _ => none
          | _ => match rd P t (τ.enc (xs.getD i τ.dflt)) o with
            | some r => some (r, [decide (i < xs.length)])
            | none => none
    | _ => none
  | _ => none
theorem ldArr_other {P : Program} {t : TypeId} {x : AV} {H : Heap} {d : TypeDesc} (hu : P.underlying t = some d) (hd : ∀ n e, d ≠ .array n e) : ldArr P t x H = none := by
  unfold ldArr
  split
  · split
    · split
      · rename_i h; rw [hu] at h; injection h with h; exact absurd h (hd _ _)
      · rfl
    · rfl
  · rfl
theorem qLoad0_ok {P : Program} {t : TypeId} {a r : AV} {H : Heap} {ps : List Bool} (h : qLoad0 P t a H = some (r, ps)) (hp : ∀ p ∈ ps, p = true) : ald P t a H = some r := by
  unfold qLoad0 at h
  split at h
  rotate_left
  · cases h
  rename_i b i o
  split at h
  rotate_left
  · cases h
  rename_i τ xs hb
  split at h
  · cases h
  rename_i d hu
  have old : (∀ n e, d ≠ .array n e) → (match rd P t (τ.enc (xs.getD i τ.dflt)) o with
            | some r => some (r, [decide (i < xs.length)])
            | none => none) = some (r, ps) → ald P t (.ptr b i o) H = some r := by
    intro hd h
    split at h
    · rename_i r' hr
      simp only [Option.some.injEq, Prod.mk.injEq] at h
      obtain ⟨rfl, rfl⟩ := h
      have hc : i < xs.length := of_decide_eq_true (hp _ (List.mem_singleton.2 rfl))
      have hg := getElem?_getD τ.dflt hc
      simp only [ald, ldArr_other hu hd, hb, asRow, Option.bind_eq_bind, Option.bind_some, List.getElem?_map, hg, Option.map_some, hr]
    · cases h
  split at h
  · rename_i hagg hsz
    split at h
    rotate_left
    · cases h
    rename_i r' hr
    simp only [Option.some.injEq, Prod.mk.injEq] at h
    obtain ⟨rfl, rfl⟩ := h
    have hc : i + o < xs.length := of_decide_eq_true (hp _ (List.mem_singleton.2 rfl))
    have hd : ∀ n e, d ≠ .array n e := fun n e h => by rw [h] at hagg; cases hagg
    have hg := getElem?_getD τ.dflt (show i < xs.length by omega)
    have rdc : ∀ (cs : List AV) (k : Nat), rd P t cs k = cs[k]? := fun cs k => by simp [rd, hu, hagg]
    rw [rdc] at hr
    have hfl : ((xs.map τ.enc).drop i).flatten[o]? = some r' := by
      rw [← List.map_drop, flat_map]
      have := flatMap_at (f := τ.enc) (s := 1) (fun x => by rw [Ty.enc_length]; exact hsz) (xs := xs.drop i) (i := o) (j := 0) (by rw [List.getElem?_drop]; exact getElem?_getD τ.dflt hc) (by omega)
      rw [Nat.mul_one, Nat.add_zero] at this
      rw [this]; exact hr
    generalize xs.getD i τ.dflt = x0 at hg
    simp only [ald, ldArr_other hu hd, hb, asRow, Option.bind_eq_bind, Option.bind_some, List.getElem?_map, hg, Option.map_some]
    rw [rdc, rdc, hfl]
    split
    · rename_i q hq
      cases o with
      | zero =>
        rw [Nat.add_zero] at hr
        have hx0 : xs.getD i τ.dflt = x0 := by rw [List.getD_eq_getElem?_getD, hg]; rfl
        rw [hx0, hq] at hr; exact hr
      | succ o => rw [List.getElem?_eq_none (by rw [Ty.enc_length, hsz]; omega)] at hq; cases hq
    · split
      · rename_i q hq
        rw [hsz, Nat.div_one, Nat.mod_one, getElem?_getD τ.dflt hc] at hq
        simp only [Option.map_some, Option.bind_some, rdc] at hq
        rw [hr] at hq; exact hq.symm
      · rfl
  · split at h
    · split at h
      · split at h
        · rename_i n hn
          simp only [Option.some.injEq, Prod.mk.injEq] at h
          obtain ⟨rfl, rfl⟩ := h
          have hc : mulN xs.length τ.sz = n := of_decide_eq_true (hp _ (List.mem_singleton.2 rfl))
          rw [mulN_eq] at hc
          simp [ald, ldArr, hb, hu, hn, hc]
        · cases h
      · cases h
    · rename_i hd
      exact old hd h

/-! A whole number out of a long row, at a place that need not be known -/
def nmA : AV → Int
  | .int _ n => n
  | _ => 0
def isIA (k : IntKind) : AV → Bool
  | .int k' _ => k' == k
  | _ => false
def selOk (k : IntKind) (c : List AV) (o : Nat) : Bool := match c[o]? with
  | some v => isIA k v
  | none => false
def selI (c : List AV) (o : Nat) : Int := (c.map nmA).getD o 0
def longRow : List AV → Bool
  | _ :: _ :: _ :: _ :: _ :: _ :: _ :: _ :: _ :: _ :: _ :: _ :: _ :: _ :: _ :: _ :: _ :: _ :: _ :: _ :: _ => true
  | _ => false
theorem sel_get {k : IntKind} {c : List AV} {o : Nat} (h : selOk k c o = true) : c[o]? = some (.int k (selI c o)) := by
  unfold selOk at h
  split at h
  · rename_i v hv
    cases v with
    | int k' n =>
      have : k' = k := by simpa [isIA] using h
      subst this
      rw [hv]
      simp [selI, List.getD_eq_getElem?_getD, hv, nmA]
    | _ => cases h
  · cases h
def qSel (P : Program) (t : TypeId) (a : AV) (H : Heap) : QT :=
  match P.underlying t with
  | some (.int k) => match a with
    | .ptr b i o => match H.get b with
      | some (.row _ es) => match es[i]? with
        | some c => if longRow c then some (.int k (selI c o), [selOk k c o]) else none
        | none => none
      | _ => none
    | .rp c o => if longRow c then some (.int k (selI c o), [selOk k c o]) else none
    | _ => none
  | _ => none
theorem qSel_ok {P : Program} {t : TypeId} {a r : AV} {H : Heap} {ps : List Bool} (h : qSel P t a H = some (r, ps)) (hp : ∀ p ∈ ps, p = true) : ald P t a H = some r := by
  unfold qSel at h
  split at h
  rotate_left
  · cases h
  rename_i k hu
  have hd : ∀ n e, (TypeDesc.int k) ≠ .array n e := fun n e h => by cases h
  have rdc : ∀ (cs : List AV) (j : Nat), rd P t cs j = cs[j]? := fun cs j => by simp [rd, hu, isAggD]
  split at h
  · rename_i b i o
    split at h
    · rename_i s es hb
      split at h
      · rename_i c hc
        split at h
        · simp only [Option.some.injEq, Prod.mk.injEq] at h
          obtain ⟨rfl, rfl⟩ := h
          have hs := sel_get (hp _ (List.mem_singleton.2 rfl))
          simp only [ald, ldArr_other hu hd, hb, asRow, Option.bind_eq_bind, Option.bind_some, hc, rdc, hs]
        · cases h
      · cases h
    · cases h
  · rename_i c o
    split at h
    · simp only [Option.some.injEq, Prod.mk.injEq] at h
      obtain ⟨rfl, rfl⟩ := h
      have hs := sel_get (hp _ (List.mem_singleton.2 rfl))
      simp only [ald, ldArr_other hu hd, rdc, hs]
    · cases h
  · cases h
def qLoad (P : Program) (t : TypeId) (a : AV) (H : Heap) : QT :=
  match qSel P t a H with
  | some r => some r
  | none => qLoad0 P t a H
theorem qLoad_ok {P : Program} {t : TypeId} {a r : AV} {H : Heap} {ps : List Bool} (h : qLoad P t a H = some (r, ps)) (hp : ∀ p ∈ ps, p = true) : ald P t a H = some r := by
  unfold qLoad at h
  split at h
  · rename_i q hq
    injection h with h; subst h
    exact qSel_ok hq hp
  · exact qLoad0_ok h hp

/-! Maps with contents -/
/-- Are two contents the same? (Contents that may be keys.) -/
def eqT : (κ : Ty) → κ.den → κ.den → Bool
  | .i _, a, b => (a : Int) == b
  | .s, a, b => (a : List UInt8) == b
  | .pr (.i _) (.i _), a, b => (a.1 : Int) == b.1 && (a.2 : Int) == b.2
  | _, _, _ => false
def isIntT (P : Program) (t : TypeId) : Bool := match P.underlying t with | some (.int _) => true | _ => false
/-- A struct of two whole numbers. -/
def twoInts (P : Program) : List Field → Bool
  | [f, g] => decide (f.name ≠ "_") && decide (g.name ≠ "_") && Nat.beq f.offset 0 && Nat.beq g.offset 1 && isIntT P f.type && isIntT P g.type
  | _ => false
def keyTy (P : Program) (kt : TypeId) (κ : Ty) : Bool :=
  match κ with
  | .i _ => (match P.underlying kt with | some (.int _) => true | _ => false)
  | .s => (match P.underlying kt with | some .string => true | _ => false)
  | .pr (.i _) (.i _) => (match P.underlying kt with | some (.struct fs) => !P.stoodInHeld kt && twoInts P fs.toList | _ => false)
  | _ => false
def keyD : (κ : Ty) → AV → Option κ.den
  | .i k, x => (match x with | .int k' n => if k' = k then some n else none | _ => none)
  | .s, x => (match x with | .str s => some s | _ => none)
  | .b, x => (match x with | .bool b => some b | _ => none)
  | .pr (.i j) (.i k), x => (match x with | .agg cs => (match cs with | [y, z] => (match y with | .int j' m => (match z with | .int k' n => if j' = j ∧ k' = k then some (m, n) else none | _ => none) | _ => none) | _ => none) | _ => none)
  | _, _ => none
theorem keyD_val : ∀ {κ : Ty} {x : AV} {k : κ.den}, keyD κ x = some k → x = κ.val k
  | .i k, x, n, h => by
    cases x <;> simp only [keyD, reduceCtorEq] at h
    split at h
    · rename_i e; injection h with h; subst e h; rfl
    · cases h
  | .s, x, n, h => by
    cases x <;> simp only [keyD, reduceCtorEq, Option.some.injEq] at h
    subst h; rfl
  | .b, x, n, h => by
    cases x <;> simp only [keyD, reduceCtorEq, Option.some.injEq] at h
    subst h; rfl
  | .sl _, x, n, h => by simp [keyD] at h
  | .pr a c, x, n, h => by
    cases a <;> cases c <;> try (simp [keyD] at h; done)
    simp only [keyD] at h
    repeat' (split at h <;> try (cases h; done))
    rename_i e
    obtain ⟨rfl, rfl⟩ := e
    injection h with h; subst h; rfl
  | .ar _ _, x, n, h => by simp [keyD] at h
theorem isIntT_some {P : Program} {t : TypeId} (h : isIntT P t = true) : ∃ q, P.underlying t = some (.int q) := by
  unfold isIntT at h
  split at h
  · rename_i q hu; exact ⟨q, hu⟩
  · cases h
theorem keyEq_pr {P : Program} {kt : TypeId} {j k : IntKind} (h : keyTy P kt (.pr (.i j) (.i k)) = true) (a b : Int × Int) : keyEq P kt (.agg [.int j a.1, .int k a.2]) (.agg [.int j b.1, .int k b.2]) = some (a.1 == b.1 && a.2 == b.2) ∧ keyOk P 10000 kt (.agg [.int j a.1, .int k a.2]) = true := by
  simp only [keyTy] at h
  split at h
  rotate_left
  · cases h
  rename_i fs hu
  rw [Bool.and_eq_true] at h
  obtain ⟨hst, h2⟩ := h
  have hst : P.stoodInHeld kt = false := by simpa using hst
  unfold twoInts at h2
  split at h2
  rotate_left
  · cases h2
  rename_i f g hfg
  simp only [Bool.and_eq_true, decide_eq_true_eq] at h2
  obtain ⟨⟨⟨⟨⟨n1, n2⟩, o1⟩, o2⟩, i1⟩, i2⟩ := h2
  have o1 := Nat.eq_of_beq_eq_true o1
  have o2 := Nat.eq_of_beq_eq_true o2
  obtain ⟨q1, u1⟩ := isIntT_some i1
  obtain ⟨q2, u2⟩ := isIntT_some i2
  have rd1 : ∀ x y : AV, rd P f.type [x, y] f.offset = some x := fun x y => by simp [rd, u1, isAggD, o1]
  have rd2 : ∀ x y : AV, rd P g.type [x, y] g.offset = some y := fun x y => by simp [rd, u2, isAggD, o2]
  have e1 : aeqIn P 9999 f.type (.int j a.1) (.int j b.1) = some (a.1 == b.1) := by unfold aeqIn; rw [u1]; simp
  have e2 : aeqIn P 9999 g.type (.int k a.2) (.int k b.2) = some (a.2 == b.2) := by unfold aeqIn; rw [u2]; simp
  refine ⟨?_, ?_⟩
  · unfold keyEq aeqIn
    rw [hu]
    simp only [hst, Bool.false_eq_true, if_false, hfg, eqFs, n1, n2, rd1, rd2, Option.bind_eq_bind, Option.bind_some, e1, e2]
    cases a.1 == b.1 <;> cases a.2 == b.2 <;> rfl
  · unfold keyOk
    rw [hu]
    simp only [hfg, List.all_cons, List.all_nil, rd1, rd2, Bool.and_true, Bool.and_eq_true, Bool.or_eq_true]
    refine ⟨.inr ?_, .inr ?_⟩
    · unfold keyOk; rw [u1]
    · unfold keyOk; rw [u2]
theorem keyEq_ty {P : Program} {kt : TypeId} : ∀ {κ : Ty}, keyTy P kt κ = true → ∀ a b : κ.den, keyEq P kt (κ.val a) (κ.val b) = some (eqT κ a b) ∧ keyOk P 10000 kt (κ.val a) = true ∧ (eqT κ a b = true → a = b) ∧ (eqT κ a b = true → sameK (κ.val b) (κ.val a) = true)
  | .i k, h, a, b => by
    simp only [keyTy] at h
    split at h
    · rename_i q hu
      refine ⟨?_, ?_, fun e => ?_, fun e => ?_⟩
      · simp [keyEq, aeqIn, hu, Ty.val, eqT]
      · simp [keyOk, hu]
      · simpa [eqT] using e
      · have e : a = b := by simpa [eqT] using e
        subst e; simp [sameK, sameK1, Ty.val]
    · cases h
  | .s, h, a, b => by
    simp only [keyTy] at h
    split at h
    · rename_i hu
      refine ⟨?_, ?_, fun e => ?_, fun e => ?_⟩
      · simp [keyEq, aeqIn, hu, Ty.val, eqT]
      · simp [keyOk, hu]
      · simpa [eqT] using e
      · have e : a = b := by simpa [eqT] using e
        subst e; simp [sameK, sameK1, Ty.val]
    · cases h
  | .b, h, _, _ => by simp [keyTy] at h
  | .sl _, h, _, _ => by simp [keyTy] at h
  | .pr x y, h, a, b => by
    cases x <;> cases y <;> try (simp [keyTy] at h; done)
    rename_i j k
    obtain ⟨h1, h2⟩ := keyEq_pr h a b
    have he : eqT (.pr (.i j) (.i k)) a b = true → a = b := fun e => by
      have e : ((a.1 : Int) == b.1 && (a.2 : Int) == b.2) = true := e
      simp only [Bool.and_eq_true, beq_iff_eq] at e
      exact Prod.ext e.1 e.2
    refine ⟨h1, h2, he, fun e => ?_⟩
    have := he e
    subst this
    show sameK (.agg [.int j a.1, .int k a.2]) (.agg [.int j a.1, .int k a.2]) = true
    simp [sameK, sameK1]
  | .ar _ _, h, _, _ => by simp [keyTy] at h
/-- Where a key stands, and what it holds. -/
def tmFind (κ : Ty) {β : Type} (k : κ.den) : List (κ.den × β) → Nat → Option (Nat × β)
  | [], _ => none
  | (x, v) :: l, i => if eqT κ k x = true then some (i, v) else tmFind κ k l (i + 1)
def tmGet (κ : Ty) {β : Type} (l : List (κ.den × β)) (k : κ.den) : Option β := (tmFind κ k l 0).map (·.2)
def tmPut (κ : Ty) {β : Type} (l : List (κ.den × β)) (k : κ.den) (v : β) : List (κ.den × β) := match tmFind κ k l 0 with
  | some (i, _) => l.set i (k, v)
  | none => l ++ [(k, v)]
theorem findK_ty {P : Program} {kt : TypeId} {κ ν : Ty} (h : keyTy P kt κ = true) (k : κ.den) : ∀ (l : List (κ.den × ν.den)) (i : Nat), findK P kt (κ.val k) (encM κ ν l) i = some ((tmFind κ k l i).map fun p => (p.1, ν.val p.2))
  | [], i => rfl
  | (x, v) :: l, i => by
    have ih := findK_ty h k l (i + 1)
    simp only [encM, List.map_cons] at ih ⊢
    simp only [findK, (keyEq_ty h k x).1, Option.bind_eq_bind, Option.bind_some, tmFind]
    split
    · rfl
    · exact ih
def lookV (ok : Bool) (ν : Ty) (o : Option ν.den) (z : ν.den) : AV := match ok with
  | true => .tup [ν.val (o.getD z), .bool o.isSome]
  | false => ν.val (o.getD z)
def qLook (P : Program) (t : TypeId) (x k : AV) (ok : Bool) (H : Heap) : QT :=
  match x with
  | .mp b => match H.get b with
    | some (.tm κ ν l) => match mapT P t with
      | some (kt, et) => match keyTy P kt κ with
        | true => match keyD κ k, (zeroOf P et).bind (keyD ν) with
          | some key, some z => some (lookV ok ν (tmGet κ l key) z, [])
          | _, _ => none
        | false => none
      | none => none
    | _ => none
  | _ => none
theorem qLook_ok {P : Program} {t : TypeId} {x k r : AV} {ok : Bool} {H : Heap} {ps : List Bool} (h : qLook P t x k ok H = some (r, ps)) : alookup P t x k ok H = some r := by
  unfold qLook at h
  split at h
  rotate_left
  · cases h
  rename_i b
  split at h
  rotate_left
  · cases h
  rename_i κ ν l hb
  split at h
  rotate_left
  · cases h
  rename_i kt et hmt
  split at h
  rotate_left
  · cases h
  rename_i hkt
  split at h
  rotate_left
  · cases h
  rename_i key z hk hz
  simp only [Option.some.injEq, Prod.mk.injEq] at h
  obtain ⟨rfl, _⟩ := h
  have hk := keyD_val hk
  subst hk
  simp only [Option.bind_eq_some_iff] at hz
  obtain ⟨zv, hz1, hz2⟩ := hz
  have hz2 := keyD_val hz2
  subst hz2
  have hfk := findK_ty (ν := ν) hkt key l 0
  have hko := (keyEq_ty hkt key key).2.1
  simp only [alookup, alookup0, hmt, entriesOf, hb, asMp, hko, hfk, Option.bind_eq_bind, Option.bind_some]
  unfold tmGet lookV
  cases tmFind κ key l 0 with
  | none => cases ok <;> simp [hz1]
  | some p => cases ok <;> simp

def qT (P : Program) (op : Op) (F : Fr) (H : Heap) : QT :=
  match op with
  | .binOp o t x y _ => qBin P o t x y (ev F x) (ev F y)
  | .unOp o _ x => qUn o (ev F x)
  | .convert s d x => qConv P s d (ev F x) H
  | .slice t x lo hi mx => qSlice P t (ev F x) (lo.map (ev F)) (hi.map (ev F)) (mx.map (ev F))
  | .indexAddr t x i => qIdxA P t (ev F x) (ev F i)
  | .index t x i => qIdx P t (ev F x) (ev F i)
  | .load t a => qLoad P t (ev F a) H
  | .lookup t x k ok => qLook P t (ev F x) (ev F k) ok H
  | _ => none
theorem qT_ok {P : Program} {op : Op} {F : Fr} {H : Heap} {r : AV} {ps : List Bool} (h : qT P op F H = some (r, ps)) (hp : ∀ p ∈ ps, p = true) : aq P op F H = some r := by
  unfold qT at h
  split at h
  · exact qBin_ok h hp
  · exact qUn_ok h hp
  · exact qConv_ok h hp
  · exact qSlice_ok h hp
  · exact qIdxA_ok h hp
  · exact qIdx_ok h hp
  · exact qLoad_ok h hp
  · exact qLook_ok h
  · cases h

def pickK (t : Bool) (x y : AV) (K : AV → Prop) : Prop :=
  match x, y with
  | .bool p, .bool q => K (.bool (bsel t p q))
  | _, _ => fork t (K x) (K y)
theorem pickK_ok {t : Bool} {x y : AV} {K : AV → Prop} (h : pickK t x y K) : K (if t then x else y) := by
  unfold pickK at h
  split at h
  · cases t <;> exact h
  · cases t <;> exact h
/-- A key that is not there. -/
def lookN (P : Program) (t : TypeId) (ok : Bool) : Option AV := do
  let (_, et) ← mapT P t
  let z ← zeroOf P et
  some (if ok then .tup [z, .bool false] else z)
/-- A look into a map with given keys: which of them is it? -/
def lookKs (P : Program) (t : TypeId) (ok : Bool) (es : List (AV × AV)) (ik : IntKind) (i : Int) : List (AV × AV) → (AV → Prop) → Prop
  | [], K => optK (lookN P t ok) K
  | e :: l, K => match e.1 with
    | .int jk j => match decide (jk = ik) with
      | true => fork (i == j) (optK (alookupR P t es (.int ik j) ok) K) (lookKs P t ok es ik i l K)
      | false => False
    | _ => False
theorem findU_none {P : Program} {kt : TypeId} {k : AV} : ∀ {es : List (AV × AV)}, (∀ e ∈ es, keyEq P kt k e.1 = some false) → findU P kt k es = some none
  | [], _ => rfl
  | (x, v) :: es, h => by
    have h1 := h (x, v) (List.mem_cons_self ..)
    have h2 := findU_none (P := P) (kt := kt) (k := k) (es := es) fun e he => h e (List.mem_cons_of_mem _ he)
    simp only at h1
    simp [findU, h1, h2]
theorem lookKs_ok {P : Program} {t kt et : TypeId} {ok : Bool} {es : List (AV × AV)} {ik : IntKind} {i : Int} {K : AV → Prop} (hm : mapT P t = some (kt, et)) (hk : keyTy P kt (.i ik) = true) :
    ∀ {l : List (AV × AV)}, (∀ e ∈ es, e ∈ l ∨ ∃ j, e.1 = .int ik j ∧ i ≠ j) → lookKs P t ok es ik i l K → ∃ r, alookupR P t es (.int ik i) ok = some r ∧ K r
  | [], he, h => by
    unfold lookKs at h
    obtain ⟨r, hr, hK⟩ := optK_iff.1 h
    refine ⟨r, ?_, hK⟩
    have hko : keyOk P 10000 kt (.int ik i) = true := (keyEq_ty (κ := .i ik) hk i i).2.1
    have hf : findU P kt (.int ik i) es = some none := findU_none fun e hx => by
      rcases he e hx with h1 | ⟨j, h1, h2⟩
      · cases h1
      · rw [h1]
        have := (keyEq_ty (κ := .i ik) hk i j).1
        have hne : eqT (.i ik) i j = false := by simpa [eqT] using h2
        rw [hne] at this
        exact this
    unfold lookN at hr
    simp only [hm, Option.bind_eq_bind, Option.bind_some] at hr
    unfold alookupR
    simp only [hm, hko, hf, Option.bind_eq_bind, Option.bind_some]
    simpa using hr
  | e :: l, he, h => by
    unfold lookKs at h
    split at h
    · rename_i jk j hj
      split at h
      rotate_left
      · exact h.elim
      rename_i hjk
      have hjk := of_decide_eq_true hjk
      subst hjk
      rw [fork_iff] at h
      cases hb : (i == j) with
      | true =>
        have : i = j := by simpa using hb
        subst this
        exact optK_iff.1 (h.1 hb)
      | false =>
        have hne : i ≠ j := by simpa using hb
        refine lookKs_ok hm hk (fun e' hx => ?_) (h.2 hb)
        rcases he e' hx with h1 | h1
        · rcases List.mem_cons.1 h1 with h2 | h2
          · exact .inr ⟨j, by rw [h2, hj], hne⟩
          · exact .inl h2
        · exact .inr h1
    · exact h.elim
def lookK (P : Program) (t : TypeId) (es : List (AV × AV)) (k : AV) (ok : Bool) (D : Prop) (K : AV → Prop) : Prop :=
  match k with
  | .int ik i => match mapT P t with
    | some (kt, _) => match keyTy P kt (.i ik) with
      | true => lookKs P t ok es ik i es K
      | false => D
    | none => D
  | _ => D
theorem lookK_ok {P : Program} {t : TypeId} {es : List (AV × AV)} {k : AV} {ok : Bool} {D : Prop} {K : AV → Prop} (h : lookK P t es k ok D K) : D ∨ ∃ r, alookupR P t es k ok = some r ∧ K r := by
  unfold lookK at h
  split at h
  · split at h
    · rename_i kt et hm
      split at h
      · rename_i hk
        exact .inr (lookKs_ok hm hk (fun e he => .inl he) h)
      · exact .inl h
    · exact .inl h
  · exact .inl h
/-- What a quiet operation asks, and what follows it. -/
def xq0 (P : Program) (op : Op) (F : Fr) (H : Heap) (K : AV → Prop) : Prop :=
  match qT P op F H with
  | some (r, ps) => allP ps (K r)
  | none => optK (aq P op F H) K
theorem xq0_ok {P : Program} {op : Op} {F : Fr} {H : Heap} {K : AV → Prop} (h : xq0 P op F H K) : ∃ r, aq P op F H = some r ∧ K r := by
  unfold xq0 at h
  split at h
  · rename_i r ps hq
    rw [allP_iff] at h
    exact ⟨r, qT_ok hq h.1, h.2⟩
  · exact optK_iff.1 h
def xq (P : Program) (op : Op) (F : Fr) (H : Heap) (K : AV → Prop) : Prop :=
  match op with
  | .pick c a b => match ev F c with
    | .bool t => pickK t (ev F a) (ev F b) K
    | _ => False
  | .lookup t x k ok => match ev F x with
    | .rm es => lookK P t es (ev F k) ok (xq0 P (.lookup t x k ok) F H K) K
    | _ => xq0 P (.lookup t x k ok) F H K
  | op => xq0 P op F H K
theorem xq_ok {P : Program} {op : Op} {F : Fr} {H : Heap} {K : AV → Prop} (h : xq P op F H K) : ∃ r, aq P op F H = some r ∧ K r := by
  unfold xq at h
  split at h
  · rename_i c a b
    split at h
    · rename_i t ht
      exact ⟨_, by simp [aq, ht, asB], pickK_ok h⟩
    · exact h.elim
  · rename_i t x k ok
    split at h
    · rename_i es hx
      rcases lookK_ok h with h | ⟨r, hr, hK⟩
      · exact xq0_ok h
      · exact ⟨r, by simp only [aq, alookup, hx]; exact hr, hK⟩
    · exact xq0_ok h
  · exact xq0_ok h
end Go.Lom

/- Effects on unknown contents; an operation; calls: what they ask, and what follows. No conditions of its own. -/
set_option linter.unusedSimpArgs false
set_option linter.unusedVariables false
set_option linter.constructorNameAsVariable false
namespace Go.Lom
open Go.RowKit

abbrev ET := Option (Out × List Bool)

def lstStore (P : Program) (t : TypeId) (b i o : Nat) (v : AV) (τ : Ty) (xs : List τ.den) (H : Heap) (nx : Nat) : ET :=
  match cellsOf v, szOf P t with
  | some cs, some n => if cs.length = n ∧ o + n ≤ τ.sz then match τ.dec [] (splice (τ.enc (xs.getD i τ.dflt)) o cs) with
    | some (y, ps) => some ((.undef, H.set b (.lst τ (xs.set i y)), nx), ps ++ [decide (i < xs.length)])
    | none => none
    else none
  | _, _ => none
/-- All of an array's variable. -/
def arrStore (P : Program) (t : TypeId) (b i o : Nat) (τ : Ty) (ys : List τ.den) (m : Nat) (H : Heap) (nx : Nat) : ET :=
  match i, o with
  | 0, 0 => match szOf P t with
    | some n => some ((.undef, H.set b (.lst τ ys), nx), [decide (mulN ys.length τ.sz = n), decide (ys.length = m)])
    | none => none
  | _, _ => none
def storeT (P : Program) (t : TypeId) (a v : AV) (H : Heap) (nx : Nat) : ET :=
  match a with
  | .ptr b i o => match H.get b with
    | some (.lst τ xs) => match v with
      | .ar τ' ys => if h : τ' = τ then arrStore P t b i o τ (castL h ys) xs.length H nx else none
      | v => match τ.sz with
        | 1 => lstStore P t b (i + o) 0 v τ xs H nx
        | _ => lstStore P t b i o v τ xs H nx
    | some (.row s es) => match v with
      | .ar τ ys => if s = τ.sz then arrStore P t b i o τ ys es.length H nx else none
      | _ => none
    | _ => none
  | _ => none
def boxT (x : AV) (H : Heap) (nx : Nat) : ET :=
  match x with
  | .ar τ xs => some ((.ptr nx 0 0, H.set nx (.lst τ xs), nx + 1), [])
  | _ => none
def arrSliceT (P : Program) (t : TypeId) (x : AV) (lo hi mx : Option AV) (H : Heap) (nx : Nat) : ET :=
  match mx, x, P.underlying t with
  | none, .ptr b 0 0, some (.array n e) => match H.get b with
    | some (.lst τ xs) => if szOf P e = some τ.sz then match bndI hi n, bndI lo (0 : Nat) with
      | some h, some l => some ((.sl b τ.sz l.toNat (h.toNat - l.toNat) (some (n - l.toNat)), H, nx), [decide (0 ≤ l ∧ l ≤ h ∧ h ≤ n), decide (xs.length = n)])
      | _, _ => none
      else none
    | _ => none
  | _, _, _ => none
def makeT (P : Program) (t : TypeId) (l c : AV) (H : Heap) (nx : Nat) : ET :=
  match l, c, sliceElem P t with
  | .int _ n, .int _ m, some e => match tyOf P 8 e, szOf P e, bytesOf P e, zeroCellsOf P e with
    | some τ, some s, some by_, some z => match τ.dec [] z with
      | some (d, ps) => if z.length = s ∧ s = τ.sz then some ((.sl nx τ.sz 0 n.toNat (some m.toNat), H.set nx (.lst τ (List.replicate m.toNat d)), nx + 1), ps ++ [decide (0 ≤ n ∧ n ≤ m ∧ (by_ : Int) * m ≤ 281474976710656 ∧ m ≤ 281474976710656)]) else none
      | none => none
    | _, _, _, _ => none
  | _, _, _ => none
def buildT (P : Program) (t : TypeId) (len : Nat) (parts : List (Nat × AV)) (H : Heap) (nx : Nat) : ET :=
  match sliceElem P t, aliteral P t len parts with
  | some e, some (s, es) => match tyOf P 8 e with
    | some τ => match mapD (τ.dec []) es with
      | some (xs, ps) => if s = τ.sz then some ((.sl nx τ.sz 0 len (some len), H.set nx (.lst τ xs), nx + 1), ps) else none
      | none => none
    | none => none
  | _, _ => none
def callT (P : Program) (c : Call) (F : Fr) (H : Heap) (nx : Nat) : ET :=
  match c.callee, c.args.toList, c.argTypes.toList with
  | .builtin .append, [x, y], [t, t'] => if t = t' then appT P t (ev F x) (ev F y) H nx else none
  | _, _, _ => none
/-- '[]byte(s)'. -/
def strTo (P : Program) (d : TypeId) (v : AV) : Bool := match v with
  | .str _ => match P.underlying d with
    | some (.slice _) => true
    | _ => false
  | _ => false
def strT (P : Program) (src dst : TypeId) (x : AV) (H : Heap) (nx : Nat) : ET :=
  match x, astrBytes P src dst x H nx with
  | .str s, some _ => some ((.sl nx 1 0 s.length none, H.set nx (.lst (.i .u8) (s.map fun b => (b.toNat : Int))), nx + 1), [])
  | _, _ => none
/-- A map with contents is turned. -/
def mupT (P : Program) (t : TypeId) (m k v : AV) (H : Heap) (nx : Nat) : ET :=
  match m with
  | .mp b => match H.get b with
    | some (.tm κ ν l) => match mapT P t with
      | some (kt, et) => match keyTy P kt κ with
        | true => match keyD κ k, keyD ν v with
          | some key, some x => some ((.undef, H.set b (.tm κ ν (tmPut κ l key x)), nx), [])
          | _, _ => none
        | false => none
      | none => none
    | _ => none
  | _ => none
def eT (P : Program) (op : Op) (F : Fr) (H : Heap) (nx : Nat) : ET :=
  match op with
  | .store t a v => storeT P t (ev F a) (ev F v) H nx
  | .box _ x => boxT (ev F x) H nx
  | .slice t x lo hi mx => arrSliceT P t (ev F x) (lo.map (ev F)) (hi.map (ev F)) (mx.map (ev F)) H nx
  | .makeSlice t l c => makeT P t (ev F l) (ev F c) H nx
  | .buildSlice t len ps => buildT P t len (ps.toList.map fun p => (p.1, ev F p.2)) H nx
  | .call c => callT P c F H nx
  | .convert s d x => strT P s d (ev F x) H nx
  | .mapUpdate t m k v => mupT P t (ev F m) (ev F k) (ev F v) H nx
  | .insert t m k v => mupT P t (ev F m) (ev F k) (ev F v) H nx
  | _ => none

section
variable {P : Program} {base : Nat → Prop} {w0 : Start} {Z : ZMap} {φ : PMap} {H : Heap} {nx : Nat} {w : World}

theorem lstStore_core (hh : HRel base w0 Z φ H nx w) {t : TypeId} {b i o : Nat} {v r : AV} {ux uv : Value} {τ : Ty} {xs : List τ.den} {H' : Heap} {nx' : Nat} {ps : List Bool} (hb : H.get b = some (.lst τ xs)) (hx : Rep Z φ (.ptr b i o) ux) (hv : Rep Z φ v uv) (hr : lstStore P t b i o v τ xs H nx = some ((r, H', nx'), ps)) (hp : ∀ p ∈ ps, p = true) :
    ∃ w', (Instr.storeAt t ux uv).run P w = .ok () w' ∧ r = .undef ∧ HRel base w0 Z φ H' nx' w' := by
  unfold lstStore at hr
  split at hr
  rotate_left
  · cases hr
  rename_i cs n hcs hn
  split at hr
  rotate_left
  · cases hr
  rename_i hc
  split at hr
  rotate_left
  · cases hr
  rename_i y ps0 hd
  simp only [Option.some.injEq, Prod.mk.injEq] at hr
  obtain ⟨⟨rfl, rfl, rfl⟩, rfl⟩ := hr
  have hi : i < xs.length := of_decide_eq_true (hp _ (List.mem_append_right _ (List.mem_singleton.2 rfl)))
  have hg := getElem?_getD τ.dflt hi
  have has : astore P t (.ptr b i o) v H nx = some (.undef, H.set b (.row τ.sz ((xs.map τ.enc).set i (splice (τ.enc (xs.getD i τ.dflt)) o cs))), nx) := by
    simp only [astore, hb, asRow, Option.bind_eq_bind, Option.bind_some, List.getElem?_map, hg, Option.map_some, hcs, hn, Ty.enc_length, spliceF_eq]
    rw [if_pos hc]
  obtain ⟨w', h1, h2, h3⟩ := sound_store hh hx hv has
  refine ⟨w', h1, h2, h3.retype rfl fun l hrow => rowRel_weak hrow rfl (by simp) fun j e hj => ?_⟩
  rw [List.getElem?_set] at hj
  by_cases hij : i = j
  · subst hij
    rw [if_pos rfl, if_pos (by simpa using hi)] at hj
    injection hj with hj; subst hj
    refine ⟨y, by rw [List.getElem?_set, if_pos rfl, if_pos hi], dec_weak hd fun p h => hp p (List.mem_append_left _ h)⟩
  · rw [if_neg hij, List.getElem?_map] at hj
    cases hx : xs[j]? with
    | none => rw [hx] at hj; cases hj
    | some z =>
      rw [hx] at hj; injection hj with hj; subst hj
      exact ⟨z, by rw [List.getElem?_set, if_neg hij, hx], WeakS.refl _⟩

theorem arrStore_core (hh : HRel base w0 Z φ H nx w) {t : TypeId} {b i o s : Nat} {blk : Blk} {es : List (List AV)} {τ : Ty} {ys : List τ.den} {r : AV} {ux uv : Value} {H' : Heap} {nx' : Nat} {ps : List Bool} (hb : H.get b = some blk) (hrow : asRow blk = some (s, es)) (hs : s = τ.sz)
    (hx : Rep Z φ (.ptr b i o) ux) (hv : Rep Z φ (.ar τ ys) uv) (hr : arrStore P t b i o τ ys es.length H nx = some ((r, H', nx'), ps)) (hp : ∀ p ∈ ps, p = true) :
    ∃ w', (Instr.storeAt t ux uv).run P w = .ok () w' ∧ r = .undef ∧ HRel base w0 Z φ H' nx' w' := by
  unfold arrStore at hr
  split at hr
  rotate_left
  · cases hr
  split at hr
  rotate_left
  · cases hr
  rename_i n hn
  simp only [Option.some.injEq, Prod.mk.injEq] at hr
  obtain ⟨⟨rfl, rfl, rfl⟩, rfl⟩ := hr
  have h1 : mulN ys.length τ.sz = n := of_decide_eq_true (hp _ (by simp))
  have h2 : ys.length = es.length := of_decide_eq_true (hp _ (by simp))
  rw [mulN_eq] at h1
  subst hs
  generalize hva : AV.ar τ ys = va at hv
  cases hv <;> cases hva
  rename_i us hagg
  have hreps := hagg.reps
  cases hx with
  | ptr hf =>
  rename_i l
  have hone : (ys.flatMap τ.enc).all oneC = true := flatMap_all τ.enc_oneC ys
  have hlen : (ys.flatMap τ.enc).length = es.length * τ.sz := by rw [flatMap_len τ.enc_length, h2]
  obtain ⟨g1, g2⟩ := flat_store (P := P) (i := 0) (o := 0) (cs := ys.flatMap τ.enc) (us := us.toList) hh hb hrow hf (by simpa using hreps.1) (oneCells hreps hone) hone (fun j a u h1 h2 => hreps.2 j a u h1 (by simpa using h2)) (by omega)
  refine ⟨_, ?_, rfl, g2.retype rfl fun l' hrow' => rowRel_weak hrow' rfl (by simp [chunk_eq, h2]) fun j e hj => ?_⟩
  · unfold Instr.storeAt
    refine run_bind' (x := (⟨l.B, l.ob + 0 * l.s + 0, none⟩ : Addr)) (w' := w) rfl ?_
    unfold storeVar
    refine run_bind' (run_szOf hn w) ?_
    rw [if_neg (by show ¬ us.size ≠ n; rw [hreps.1, flatMap_len τ.enc_length, h1]; simp)]
    exact g1
  · obtain ⟨hz, hs, hlim, c, T, fz, hw, hsz, _, he⟩ := hh.rowOf hb hrow hf
    have hfl := flat_len (s := τ.sz) (es := es) fun e he' => by
      obtain ⟨m, hm⟩ := List.mem_iff_getElem?.1 he'
      rw [(he m e hm).1, hs]
    have hsp : splice es.flatten (0 * τ.sz + 0) (ys.flatMap τ.enc) = ys.flatMap τ.enc := by
      apply List.ext_getElem?
      intro k
      rw [splice_get]
      by_cases hk : k < (ys.flatMap τ.enc).length
      · rw [if_pos ⟨by omega, by omega, by omega⟩]; congr 1; omega
      · rw [if_neg (by omega), List.getElem?_eq_none (by omega), List.getElem?_eq_none (by omega)]
    rw [hsp] at hj
    obtain ⟨k1, k2, k3⟩ := chunk_get (by rw [hlen]) hj
    have hy := List.getElem?_eq_getElem (show j < ys.length by omega)
    refine ⟨_, hy, ?_⟩
    have : e = τ.enc ys[j] := by
      apply List.ext_getElem?
      intro k
      by_cases hk : k < τ.sz
      · rw [k3 k hk, flatMap_at τ.enc_length hy hk]
      · rw [List.getElem?_eq_none (by omega), List.getElem?_eq_none (by rw [Ty.enc_length]; omega)]
    rw [this]; exact WeakS.refl _
theorem storeT_core (hh : HRel base w0 Z φ H nx w) {t : TypeId} {x v r : AV} {ux uv : Value} {H' : Heap} {nx' : Nat} {ps : List Bool} (hx : Rep Z φ x ux) (hv : Rep Z φ v uv) (hr : storeT P t x v H nx = some ((r, H', nx'), ps)) (hp : ∀ p ∈ ps, p = true) :
    ∃ w', (Instr.storeAt t ux uv).run P w = .ok () w' ∧ r = .undef ∧ HRel base w0 Z φ H' nx' w' := by
  unfold storeT at hr
  split at hr
  rotate_left
  · cases hr
  rename_i b i o
  split at hr
  · rename_i τ xs hb
    split at hr
    · split at hr
      · rename_i τ' ys ht
        subst ht
        refine arrStore_core hh hb rfl rfl hx hv (es := xs.map τ'.enc) ?_ hp
        rw [List.length_map]; exact hr
      · cases hr
    · split at hr
      · rename_i hsz
        refine lstStore_core hh hb (i := i + o) (o := 0) ?_ hv hr hp
        cases hx with
        | ptr hf =>
          rename_i l
          have hls : l.s = 1 := by rw [← (hh.rowOf hb rfl hf).2.1, hsz]
          have e : l.ob + i * l.s + o = l.ob + (i + o) * l.s + 0 := by rw [hls]; omega
          rw [e]; exact .ptr hf
      · exact lstStore_core hh hb hx hv hr hp
  · rename_i s es hb
    split at hr
    · split at hr
      · rename_i hs
        exact arrStore_core hh hb rfl hs hx hv hr hp
      · cases hr
    · cases hr
  · cases hr

theorem boxT_core (hh : HRel base w0 Z φ H nx w) {t : TypeId} {x r : AV} {u : Value} {H' : Heap} {nx' : Nat} {ps : List Bool} (hx : Rep Z φ x u) (hr : boxT x H nx = some ((r, H', nx'), ps)) :
    ValOk base w0 Z φ r H' nx' ((Instr.box t u).run P w) := by
  unfold boxT at hr
  split at hr
  rotate_left
  · cases hr
  rename_i τ xs
  simp only [Option.some.injEq, Prod.mk.injEq] at hr
  obtain ⟨⟨rfl, rfl, rfl⟩, rfl⟩ := hr
  cases hx with
  | ar hagg =>
  rename_i us
  have hreps := hagg.reps
  have hlen : (xs.flatMap τ.enc).length = xs.length * τ.sz := flatMap_len τ.enc_length xs
  have hnew := row_new (c := us) (e := t) (s := τ.sz) (es := xs.map τ.enc) (lim := xs.length) (fz := (0, 0)) hh (by simp) (by rw [hreps.1, hlen]; exact Nat.le_refl _) (fun x _ => by simp) fun i el hi => by
    rw [List.getElem?_map] at hi
    cases hx : xs[i]? with
    | none => rw [hx] at hi; cases hi
    | some y =>
      rw [hx] at hi
      simp only [Option.map_some, Option.some.injEq] at hi
      subst hi
      refine ⟨τ.enc_length y, τ.enc_oneC y, fun j v hj => ?_⟩
      have hjs : j < τ.sz := by have := (List.getElem?_eq_some_iff.1 hj).1; rw [Ty.enc_length] at this; exact this
      have hv := flatMap_at τ.enc_length hx hjs
      rw [hj] at hv
      have hlt : i * τ.sz + j < us.size := by rw [hreps.1]; exact (List.getElem?_eq_some_iff.1 hv).1
      exact ⟨_, Array.getElem?_eq_getElem hlt, hreps.2 _ v _ hv (Array.getElem?_eq_getElem hlt)⟩
  refine ⟨.pointer (some ⟨w.heap.size, 0, none⟩), _, Z, _, run_bind' (show (newVar t (Value.agg us)).run P w = .ok ⟨w.heap.size, 0, none⟩ _ from rfl) rfl, ?_, ZLe.refl _, PMap.le_set (hh.fresh (Nat.le_refl _)), hnew.retype rfl fun l h => h⟩
  have := Rep.ptr (Z := Z) (φ := φ.set nx ⟨w.heap.size, 0, τ.sz, xs.length⟩) (b := nx) (i := 0) (o := 0) (PMap.set_self _ _ _)
  simpa using this

theorem arrSliceT_core (hh : HRel base w0 Z φ H nx w) {t : TypeId} {x r : AV} {u : Value} {lo hi mx : Option AV} {ulo uhi umx : Option Value} (hx : Rep Z φ x u) (rlo : RepO Z φ lo ulo) (rhi : RepO Z φ hi uhi) (rmx : RepO Z φ mx umx) {H' : Heap} {nx' : Nat} {ps : List Bool}
    (hr : arrSliceT P t x lo hi mx H nx = some ((r, H', nx'), ps)) (hp : ∀ p ∈ ps, p = true) : ValOk base w0 Z φ r H' nx' ((Instr.sliceAt t u ulo uhi umx).run P w) := by
  unfold arrSliceT at hr
  split at hr
  rotate_left
  · cases hr
  rename_i b n e hu
  cases umx with
  | some _ => exact rmx.elim
  | none =>
  split at hr
  rotate_left
  · cases hr
  rename_i τ xs hb
  split at hr
  rotate_left
  · cases hr
  rename_i hs
  split at hr
  rotate_left
  · cases hr
  rename_i h l hh1 hl1
  simp only [Option.some.injEq, Prod.mk.injEq] at hr
  obtain ⟨⟨rfl, rfl, rfl⟩, rfl⟩ := hr
  have hc : 0 ≤ l ∧ l ≤ h ∧ h ≤ n := of_decide_eq_true (hp _ (by simp))
  have hn : xs.length = n := of_decide_eq_true (hp _ (by simp))
  have b1 := bndI_ok (most := n) hh1 (by omega) hc.2.2
  have b2 := bndI_ok (most := h.toNat) hl1 hc.1 (by omega)
  cases hx with
  | ptr hf =>
  rename_i lc
  have hbo := run_bounds2 (P := P) (isSlice := false) (len := n) (cap := n) b1 b2 rlo rhi (Nat.le_refl _) w
  have hrun : (Instr.sliceAt t (.pointer (some ⟨lc.B, lc.ob + 0 * lc.s + 0, none⟩)) ulo uhi none).run P w = .ok (.slice (some (if n = l.toNat then ⟨lc.B, lc.ob + 0 * lc.s + 0, none⟩ else (⟨lc.B, lc.ob + 0 * lc.s + 0, none⟩ : Addr).add (l.toNat * τ.sz))) (h.toNat - l.toNat) (n - l.toNat)) w := by
    simp [Instr.sliceAt, Instr.sureAddr, Sem.run_bind, run_underlying' hu, run_szOf hs, hbo, go_sem]
  obtain ⟨hz, hrow⟩ := hh.ownAt hb hf
  obtain ⟨hsl, hlim, _⟩ := hrow
  rw [List.length_map] at hlim
  refine ⟨_, w, Z, φ, hrun, .sl hf hsl.symm (show n - l.toNat = n - l.toNat from rfl) (by omega) (by omega) ?_, ZLe.refl _, PLe.refl _, hh⟩
  by_cases hnl : n = l.toNat
  · right; omega
  · left; rw [if_neg hnl]; simp [Addr.add, hsl]

theorem makeT_core (hh : HRel base w0 Z φ H nx w) {t : TypeId} {x y : AV} {ux uy : Value} {r : AV} {H' : Heap} {nx' : Nat} {ps : List Bool} (hx : Rep Z φ x ux) (hy : Rep Z φ y uy) (hr : makeT P t x y H nx = some ((r, H', nx'), ps)) (hp : ∀ p ∈ ps, p = true) :
    ValOk base w0 Z φ r H' nx' ((Instr.makeSlice t ux uy).run P w) := by
  unfold makeT at hr
  split at hr
  rotate_left
  · cases hr
  rename_i k1 n k2 m e he
  split at hr
  rotate_left
  · cases hr
  rename_i τ s by_ z hτ hs hby hz
  split at hr
  rotate_left
  · cases hr
  rename_i d ps0 hd
  split at hr
  rotate_left
  · cases hr
  rename_i hzl
  obtain ⟨hzl, rfl⟩ := hzl
  simp only [Option.some.injEq, Prod.mk.injEq] at hr
  obtain ⟨⟨rfl, rfl, rfl⟩, rfl⟩ := hr
  have hc : 0 ≤ n ∧ n ≤ m ∧ (by_ : Int) * m ≤ 281474976710656 ∧ m ≤ 281474976710656 := of_decide_eq_true (hp _ (List.mem_append_right _ (List.mem_singleton.2 rfl)))
  have ham : amakeSlice P t (.int k1 n) (.int k2 m) H nx = some (.sl nx τ.sz 0 n.toNat (some m.toNat), H.set nx (.row τ.sz (List.replicate m.toNat z)), nx + 1) := by
    simp only [amakeSlice, he, hs, hby, hz, asI, Option.bind_eq_bind, Option.bind_some]
    rw [if_pos ⟨hzl, hc.1, hc.2.1, hc.2.2.1, hc.2.2.2⟩]
  obtain ⟨v, w', Z', φ', h1, h2, h3, h4, h5⟩ := sound_makeSlice hh hx hy ham
  refine ⟨v, w', Z', φ', h1, h2, h3, h4, h5.retype rfl fun l hrow => rowRel_weak hrow rfl (by simp) fun j e hj => ?_⟩
  rw [List.getElem?_replicate] at hj
  split at hj
  · rename_i hjm
    injection hj with hj; subst hj
    exact ⟨d, by rw [List.getElem?_replicate, if_pos hjm], dec_weak hd fun p h => hp p (List.mem_append_left _ h)⟩
  · cases hj

theorem buildT_core (hh : HRel base w0 Z φ H nx w) {t : TypeId} {len : Nat} {ps : List (Nat × AV)} {qs : Array (Nat × Value)} {r : AV} {H' : Heap} {nx' : Nat} {cs : List Bool} (hl : qs.size = ps.length)
    (hps : ∀ (i : Nat) (p : Nat × AV) (q : Nat × Value), ps[i]? = some p → qs[i]? = some q → p.1 = q.1 ∧ Rep Z φ p.2 q.2) (hr : buildT P t len ps H nx = some ((r, H', nx'), cs)) (hp : ∀ p ∈ cs, p = true) :
    ValOk base w0 Z φ r H' nx' ((Instr.buildSlice t len qs).run P w) := by
  unfold buildT at hr
  split at hr
  rotate_left
  · cases hr
  rename_i e s es he hlit
  split at hr
  rotate_left
  · cases hr
  rename_i τ hτ
  split at hr
  rotate_left
  · cases hr
  rename_i xs ps0 hm
  split at hr
  rotate_left
  · cases hr
  rename_i hs
  subst hs
  simp only [Option.some.injEq, Prod.mk.injEq] at hr
  obtain ⟨⟨rfl, rfl, rfl⟩, rfl⟩ := hr
  have hab : abuildSlice P t len ps H nx = some (.sl nx τ.sz 0 len (some len), H.set nx (.row τ.sz es), nx + 1) := by
    simp only [abuildSlice, hlit, Option.bind_eq_bind, Option.bind_some]
  obtain ⟨v, w', Z', φ', h1, h2, h3, h4, h5⟩ := sound_buildSlice hh hl hps hab
  obtain ⟨k1, k2⟩ := mapD_get hm
  refine ⟨v, w', Z', φ', h1, h2, h3, h4, h5.retype rfl fun l hrow => rowRel_weak hrow rfl k1.symm fun j e hj => ?_⟩
  obtain ⟨x, p, hx, hd, hq⟩ := k2 j e hj
  exact ⟨x, hx, dec_weak hd fun q hq' => hp q (hq q hq')⟩

theorem strT_core (hh : HRel base w0 Z φ H nx w) {src dst : TypeId} {x r : AV} {u : Value} {H' : Heap} {nx' : Nat} {ps : List Bool} (hx : Rep Z φ x u) (hr : strT P src dst x H nx = some ((r, H', nx'), ps)) :
    ValOk base w0 Z φ r H' nx' ((convert src dst u).run P w) := by
  unfold strT at hr
  split at hr
  · rename_i s o ho
    simp only [Option.some.injEq, Prod.mk.injEq] at hr
    obtain ⟨⟨rfl, rfl, rfl⟩, rfl⟩ := hr
    have hs : astrBytes P src dst (.str s) H nx = some (.sl nx 1 0 s.length none, H.set nx (.row 1 (bytesL s)), nx + 1) := by
      unfold astrBytes at ho ⊢
      split at ho
      · rename_i e s' h1 h2 h3
        split at ho
        · rename_i h4
          injection h3 with h3; subst h3
          simp only [h1, h2, h4]
        · cases ho
      · cases ho
    obtain ⟨v, w', Z', φ', h1, h2, h3, h4, h5⟩ := sound_strBytes hh hx hs
    refine ⟨v, w', Z', φ', h1, h2, h3, h4, h5.retype rfl fun l hrow => ?_⟩
    have e : (s.map fun b => (b.toNat : Int)).map (Ty.i .u8).enc = bytesL s := by simp [bytesL, Ty.enc]
    show rowRel _ _ _ _ 1 _
    rw [e]; exact hrow
  · cases hr

theorem tmFind_spec {κ : Ty} {β : Type} {k : κ.den} : ∀ {l : List (κ.den × β)} {i j : Nat} {v : β}, tmFind κ k l i = some (j, v) → i ≤ j ∧ ∃ x, l[j - i]? = some (x, v) ∧ eqT κ k x = true
  | [], i, j, v, h => by cases h
  | (x, y) :: l, i, j, v, h => by
    simp only [tmFind] at h
    split at h
    · rename_i e
      simp only [Option.some.injEq, Prod.mk.injEq] at h
      obtain ⟨rfl, rfl⟩ := h
      exact ⟨Nat.le_refl _, x, by simp, e⟩
    · obtain ⟨h1, z, h2, h3⟩ := tmFind_spec h
      exact ⟨by omega, z, by rw [show j - i = (j - (i + 1)) + 1 by omega]; simpa using h2, h3⟩
theorem mupT_core (hh : HRel base w0 Z φ H nx w) {t : TypeId} {m k v r : AV} {um uk uv : Value} {H' : Heap} {nx' : Nat} {ps : List Bool} (hm : Rep Z φ m um) (hk : Rep Z φ k uk) (hv : Rep Z φ v uv) (hr : mupT P t m k v H nx = some ((r, H', nx'), ps)) :
    ∃ w', (Instr.mapUpdate t um uk uv).run P w = .ok () w' ∧ r = .undef ∧ HRel base w0 Z φ H' nx' w' := by
  unfold mupT at hr
  split at hr
  rotate_left
  · cases hr
  rename_i b
  split at hr
  rotate_left
  · cases hr
  rename_i κ ν l hb
  split at hr
  rotate_left
  · cases hr
  rename_i kt et hmt
  split at hr
  rotate_left
  · cases hr
  rename_i hkt
  split at hr
  rotate_left
  · cases hr
  rename_i key x hkey hx
  simp only [Option.some.injEq, Prod.mk.injEq] at hr
  obtain ⟨⟨rfl, rfl, rfl⟩, rfl⟩ := hr
  have hkey := keyD_val hkey
  have hx := keyD_val hx
  subst hkey hx
  have hup : amapUpdate P t (.mp b) (κ.val key) (ν.val x) H nx = some (.undef, H.set b (.mp (encM κ ν (tmPut κ l key x))), nx) := by
    have hfk := findK_ty (ν := ν) hkt key l 0
    have hko := (keyEq_ty hkt key key).2.1
    simp only [amapUpdate, hmt, hb, asMp, hko, hfk, Option.bind_eq_bind, Option.bind_some]
    unfold tmPut
    cases hf : tmFind κ key l 0 with
    | none => simp [encM]
    | some p =>
      obtain ⟨j, y⟩ := p
      obtain ⟨_, z, hz, he⟩ := tmFind_spec hf
      have hz : l[j]? = some (z, y) := by simpa using hz
      have hs := (keyEq_ty hkt key z).2.2.2 he
      simp [encM, List.getElem?_map, hz, hs, List.map_set]
  obtain ⟨w', h1, h2, h3⟩ := sound_mapUpdate hh hm hk hv hup
  exact ⟨w', h1, h2, h3.retype rfl fun l' h => h⟩

theorem eT_ok {o : Oper} {F : Fr} {r : AV} {H' : Heap} {nx' : Nat} {ps : List Bool} (hr : eT P o.op F H nx = some ((r, H', nx'), ps)) (hp : ∀ p ∈ ps, p = true) : isVar o.op = false ∧ AeOk P o F H nx r H' nx' := by
  obtain ⟨d, op, t, p, af, g⟩ := o
  simp only at hr
  cases op <;> try (cases hr; done)
  case store t a v =>
    have hr : storeT P t (ev F a) (ev F v) H nx = some ((r, H', nx'), ps) := hr
    refine ⟨rfl, fun base w0 Z φ w ρ hh hrep => ?_⟩
    have q1 : Rep Z φ (ev F a) (ρ a) := hrep a (by simp [Op.operands])
    have q2 : Rep Z φ (ev F v) (ρ v) := hrep v (by simp [Op.operands])
    exact outUnit (storeT_core hh q1 q2 hr hp)
  case box bt x =>
    have hr : boxT (ev F x) H nx = some ((r, H', nx'), ps) := hr
    refine ⟨rfl, fun base w0 Z φ w ρ hh hrep => ?_⟩
    have q1 : Rep Z φ (ev F x) (ρ x) := hrep x (by simp [Op.operands])
    exact (boxT_core hh q1 hr).out
  case slice st x lo hi mx =>
    have hr : arrSliceT P st (ev F x) (lo.map (ev F)) (hi.map (ev F)) (mx.map (ev F)) H nx = some ((r, H', nx'), ps) := hr
    refine ⟨rfl, fun base w0 Z φ w ρ hh hrep => ?_⟩
    have q1 : Rep Z φ (ev F x) (ρ x) := hrep x (by simp [Op.operands])
    have q2 : RepO Z φ (lo.map (ev F)) (lo.map ρ) := by
      cases lo with
      | none => trivial
      | some y => exact hrep y (by simp [Op.operands])
    have q3 : RepO Z φ (hi.map (ev F)) (hi.map ρ) := by
      cases hi with
      | none => trivial
      | some y => exact hrep y (by simp [Op.operands])
    have q4 : RepO Z φ (mx.map (ev F)) (mx.map ρ) := by
      cases mx with
      | none => trivial
      | some y => exact hrep y (by simp [Op.operands])
    exact (arrSliceT_core hh q1 q2 q3 q4 hr hp).out
  case mapUpdate t m k v =>
    have hr : mupT P t (ev F m) (ev F k) (ev F v) H nx = some ((r, H', nx'), ps) := hr
    refine ⟨rfl, fun base w0 Z φ w ρ hh hrep => ?_⟩
    exact outUnit (mupT_core hh (hrep m (by simp [Op.operands])) (hrep k (by simp [Op.operands])) (hrep v (by simp [Op.operands])) hr)
  case insert t m k v =>
    have hr : mupT P t (ev F m) (ev F k) (ev F v) H nx = some ((r, H', nx'), ps) := hr
    refine ⟨rfl, fun base w0 Z φ w ρ hh hrep => ?_⟩
    exact outUnit (mupT_core hh (hrep m (by simp [Op.operands])) (hrep k (by simp [Op.operands])) (hrep v (by simp [Op.operands])) hr)
  case convert s d x =>
    have hr : strT P s d (ev F x) H nx = some ((r, H', nx'), ps) := hr
    refine ⟨rfl, fun base w0 Z φ w ρ hh hrep => ?_⟩
    have q1 : Rep Z φ (ev F x) (ρ x) := hrep x (by simp [Op.operands])
    exact (strT_core hh q1 hr).out
  case makeSlice t l c =>
    have hr : makeT P t (ev F l) (ev F c) H nx = some ((r, H', nx'), ps) := hr
    refine ⟨rfl, fun base w0 Z φ w ρ hh hrep => ?_⟩
    have q1 : Rep Z φ (ev F l) (ρ l) := hrep l (by simp [Op.operands])
    have q2 : Rep Z φ (ev F c) (ρ c) := hrep c (by simp [Op.operands])
    have q3 := makeT_core hh q1 q2 hr hp
    exact q3.out
  case buildSlice t len qs =>
    have hr : buildT P t len (qs.toList.map fun p => (p.1, ev F p.2)) H nx = some ((r, H', nx'), ps) := hr
    refine ⟨rfl, fun base w0 Z φ w ρ hh hrep => ?_⟩
    have hps : ∀ (i : Nat) (p : Nat × AV) (q : Nat × Value), (qs.toList.map fun p => (p.1, ev F p.2))[i]? = some p → (qs.map fun (i, x) => (i, ρ x))[i]? = some q → p.1 = q.1 ∧ Rep Z φ p.2 q.2 := by
      intro i p q h1 h2
      rw [List.getElem?_map] at h1
      rw [Array.getElem?_map] at h2
      cases hq : qs[i]? with
      | none => simp [hq] at h2
      | some y =>
        simp [hq] at h1 h2
        subst h1 h2
        refine ⟨rfl, hrep y.2 ?_⟩
        have : y ∈ qs := Array.mem_of_getElem? hq
        simp only [Op.operands, List.mem_map, Array.mem_toList_iff]
        exact ⟨y, this, rfl⟩
    have q3 := buildT_core (P := P) hh (by simp) hps hr hp
    exact q3.out
  case call c =>
    replace hr : callT P c F H nx = some ((r, H', nx'), ps) := hr
    obtain ⟨callee, args, ats⟩ := c
    unfold callT at hr
    split at hr
    · rename_i x y t1 t2 hcal hx ht
      simp only at hcal hx ht
      subst hcal
      have e1 : args = #[x, y] := by apply Array.ext'; simpa using hx
      have e2 : ats = #[t1, t2] := by apply Array.ext'; simpa using ht
      subst e1 e2
      split at hr
      · rename_i htt
        subst htt
        refine ⟨rfl, fun base w0 Z φ w ρ hh hrep => ?_⟩
        have q1 : Rep Z φ (ev F x) (ρ x) := hrep x (by simp [Op.operands, Call.operands])
        have q2 : Rep Z φ (ev F y) (ρ y) := hrep y (by simp [Op.operands, Call.operands])
        obtain ⟨v, w', Z', φ', h1, h2, h3, h4, h5⟩ := append_core (ty := t) hh q1 q2 hr hp
        refine ⟨.value v, w', Z', φ', ?_, .inl ⟨v, rfl, h2⟩, h3, h4, h5⟩
        refine run_builtin fun _ => ?_
        rw [show (#[x, y] : Array Operand).map ρ = #[ρ x, ρ y] from by simp]
        exact run_bind' h1 rfl
      · cases hr
    · cases hr
end

/-! ### One operation -/
structure CallX where
  go : Tgt → List AV → Heap → Nat → (AE → Heap → Nat → Prop) → Prop
  /-- Sums may go around. -/
  wr : Bool := false
  /-- Lists that are turned get names. -/
  nm : Bool := false
instance : CoeFun CallX (fun _ => Tgt → List AV → Heap → Nat → (AE → Heap → Nat → Prop) → Prop) := ⟨CallX.go⟩
/-- A sum that may go around. -/
def wrapA (k : IntKind) (n : Int) : Int := k.wrap n
def wrapV (wr : Bool) (op : BinOp) (x y : AV) : Option AV :=
  match wr, op, x, y with
  | true, .add, .int k a, .int k' b => if k = k' then some (.int k (wrapA k (a + b))) else none
  | _, _, _, _ => none
theorem wrapV_ok {P : Program} {wr : Bool} {op : BinOp} {t : TypeId} {ox oy : Operand} {x y r : AV} (h : wrapV wr op x y = some r) : abin P op t ox oy x y = some r := by
  unfold wrapV at h
  split at h
  · split at h
    · rename_i hk; injection h with h; subst h; subst hk; simp [abin, binI, wrapA]
    · cases h
  · cases h
def CallXOk (P : Program) (call : CallX) : Prop := ∀ k avs H nx R, call k avs H nx R → SCallT P k avs H nx R

def retK (K : AV → Heap → Nat → Prop) (QP : AV → Heap → Nat → Prop) : AE → Heap → Nat → Prop := fun x H nx =>
  match x with
  | .ret v => K v H nx
  | .panic v => QP v H nx

/-- What an effect asks, and what follows it. -/
def xe (P : Program) (op : Op) (F : Fr) (H : Heap) (nx : Nat) (K : AV → Heap → Nat → Prop) : Prop :=
  match eT P op F H nx with
  | some ((r, H', nx'), ps) => allP ps (K r H' nx')
  | none => match ae P op F H nx with
    | some (r, H', nx') => K r H' nx'
    | none => False
def isEff : Op → Bool
  | .alloc _ | .box .. | .buildSlice .. | .store .. | .makeMap .. | .makeSlice .. | .mapUpdate .. | .insert .. => true
  | .call { callee := .builtin .append, .. } => true
  | _ => false
def isEffF (F : Fr) : Op → Bool
  | .slice _ x _ _ _ => match ev F x with
    | .ptr _ _ _ => true
    | _ => false
  | op => isEff op
/-- The list in a block gets a name. -/
def nameAt : Heap → Nat → (Heap → Prop) → Prop
  | [], _, K => K []
  | (c, x) :: H, b, K => match Nat.beq c b with
    | true => match x with
      | .lst τ xs => ∀ ys : List τ.den, ys = xs → K ((c, .lst τ ys) :: H)
      | x => K ((c, x) :: H)
    | false => nameAt H b fun H' => K ((c, x) :: H')
theorem nameAt_ok : ∀ {H : Heap} {b : Nat} {K : Heap → Prop}, nameAt H b K → K H
  | [], _, K, h => h
  | (c, x) :: H, b, K, h => by
    unfold nameAt at h
    split at h
    · split at h
      · exact h _ rfl
      · exact h
    · exact nameAt_ok (K := fun H' => K ((c, x) :: H')) h
def nameIf (nm : Bool) (o : Option Nat) (H : Heap) (K : Heap → Prop) : Prop :=
  match nm with
  | true => match o with
    | some b => nameAt H b K
    | none => K H
  | false => K H
theorem nameIf_ok {nm : Bool} {o : Option Nat} {H : Heap} {K : Heap → Prop} (h : nameIf nm o H K) : K H := by
  unfold nameIf at h
  split at h
  · split at h
    · exact nameAt_ok h
    · exact h
  · exact h
/-- The block of the list that an operation turns. -/
def nmB (F : Fr) (r : AV) : Op → Option Nat
  | .store _ a _ => match ev F a with
    | .ptr b _ _ => some b
    | _ => none
  | .call { callee := .builtin .append, .. } => match r with
    | .sl b _ _ _ _ => some b
    | _ => none
  | _ => none
/-- A slice that may be nil. -/
def unkLen : AV → Option Nat
  | .rl _ xs => some xs.length
  | .sl _ _ _ len _ => some len
  | .rs xs => some xs.length
  | _ => none
/-- A comparison with the nil slice. -/
def eqNil (P : Program) (t : TypeId) (x y : AV) : Option Nat :=
  match P.underlying t with
  | some (.slice _) => match x, y with
    | x, .nils => unkLen x
    | .nils, y => unkLen y
    | _, _ => none
  | _ => none
def xop (P : Program) (call : CallX) (o : Oper) (F : Fr) (H : Heap) (nx : Nat) (df : List ADef) (K : AV → Heap → Nat → List ADef → Prop) (QP : AV → Heap → Nat → Prop) : Prop :=
  match o.op with
  | .panic x => match ev F x with
    | .iface t v => QP (.iface t v) H nx
    | _ => False
  | .defer c => match c.callee with
    | .value f => match calleeOf (ev F f) with
      | some (k, first, cap) => req (funcOk P k) (K .undef H nx (.call k (first ++ c.args.toList.map (ev F) ++ cap) :: df))
      | none => False
    | _ => False
  | .call { callee := .value f, args, .. } => match ev F f with
    | .yf b => call (.y b) (args.toList.map (ev F)) H nx (retK (fun v H' nx' => K v H' nx' df) QP)
    | fv => match calleeOf fv with
      | some (k, first, cap) => req (funcOk P k) (call (.f k) (first ++ args.toList.map (ev F) ++ cap) H nx (retK (fun v H' nx' => K v H' nx' df) QP))
      | none => False
  | .binOp op t x y p => match eqNil P t (ev F x) (ev F y), op with
    | some n, .eql => ∀ b : Bool, (b = true → n = 0) → K (.bool b) H nx df
    | some n, .neq => ∀ b : Bool, (b = true → n = 0) → K (.bool (!b)) H nx df
    | _, _ => match wrapV call.wr op (ev F x) (ev F y) with
      | some r => K r H nx df
      | none => xq P (.binOp op t x y p) F H (fun r => K r H nx df)
  | .convert s d x => match strTo P d (ev F x) with
    | true => xe P (.convert s d x) F H nx (fun r H' nx' => nameIf call.nm (nmB F r (.convert s d x)) H' fun G => K r G nx' df)
    | false => xq P (.convert s d x) F H (fun r => K r H nx df)
  | op => match isEffF F op with
    | true => xe P op F H nx (fun r H' nx' => nameIf call.nm (nmB F r op) H' fun G => K r G nx' df)
    | false => xq P op F H (fun r => K r H nx df)

theorem unkLen_rep {Z : ZMap} {φ : PMap} {x : AV} {n : Nat} {u : Value} (h : unkLen x = some n) (hx : Rep Z φ x u) : (∃ ao m c, u = .slice ao m c ∧ (ao = none → n = 0)) ∧ ∀ P t ox oy, abin.guardOk P t ox oy x .nils = true ∧ abin.guardOk P t ox oy .nils x = true := by
  have rsK : ∀ (xs : List (List AV)) (v : Value), Rep Z φ (.rs xs) v → ∃ ao m c, v = .slice ao m c ∧ (ao = none → xs.length = 0) := fun xs v h => by
    cases h with
    | rs us hn hc ha h0 h1 h2 => exact ⟨_, _, _, rfl, fun h => nomatch h⟩
    | rs0 => exact ⟨_, _, _, rfl, fun _ => rfl⟩
  unfold unkLen at h
  split at h
  · injection h with h; subst h
    cases hx with
    | rl hr =>
      obtain ⟨ao, m, c, e, h0⟩ := rsK _ _ hr
      exact ⟨⟨ao, m, c, e, fun ha => by have := h0 ha; simpa using this⟩, fun _ _ _ _ => ⟨rfl, rfl⟩⟩
  · injection h with h; subst h
    refine ⟨?_, fun _ _ _ _ => ⟨rfl, rfl⟩⟩
    cases hx with
    | sl a b c d e f => exact ⟨_, _, _, rfl, fun h => nomatch h⟩
    | sl0n a => exact ⟨_, _, _, rfl, fun _ => rfl⟩
    | sl0s a b => exact ⟨_, _, _, rfl, fun _ => rfl⟩
  · injection h with h; subst h
    exact ⟨rsK _ _ hx, fun _ _ _ _ => ⟨rfl, rfl⟩⟩
  · cases h
def negIf (op : BinOp) (b : Bool) : Bool := match op with
  | .eql => b
  | _ => !b
theorem equalIn_nil {P : Program} {d : Nat} {t e : TypeId} (hu : P.underlying t = some (.slice e)) (ao : Option Addr) (m c : Nat) (w : World) :
    (Op.equalIn (d + 1) t (.slice ao m c) (.slice none 0 0)).run P w = .ok ao.isNone w ∧ (Op.equalIn (d + 1) t (.slice none 0 0) (.slice ao m c)).run P w = .ok ao.isNone w := by
  cases ao <;> simp [Op.equalIn, run_underlying' hu, Sem.run_bind, go_sem]
theorem eqNil_ok {P : Program} {op : BinOp} (hop : op = .eql ∨ op = .neq) {t : TypeId} {ox oy : Operand} {x y : AV} {u v : Value} {n : Nat} {w : World} {Z : ZMap} {φ : PMap} (h : eqNil P t x y = some n) (hx : Rep Z φ x u) (hy : Rep Z φ y v) :
    ∃ b : Bool, (b = true → n = 0) ∧ (do eqGuard op t ox oy u v; Go.binOp op t u v : Sem Value).run P w = .ok (.bool (negIf op b)) w := by
  unfold eqNil at h
  split at h
  rotate_left
  · cases h
  rename_i e hu
  have fin : ∀ (b : Bool), (abin.guardOk P t ox oy x y = true) → (∃ a1 m1 c1 a2 m2 c2, u = .slice a1 m1 c1 ∧ v = .slice a2 m2 c2 ∧ (Op.equalIn 10000 t u v).run P w = .ok b w) → (do eqGuard op t ox oy u v; Go.binOp op t u v : Sem Value).run P w = .ok (.bool (negIf op b)) w := by
    intro b hg ⟨a1, m1, c1, a2, m2, c2, e1, e2, he⟩
    refine run_bind' (run_eqGuard hx hy hg hop) ?_
    subst e1 e2
    rcases hop with rfl | rfl
    · exact run_bind' (show (Op.equal t (.slice a1 m1 c1) (.slice a2 m2 c2)).run P w = .ok b w from he) rfl
    · exact run_bind' (show (Op.equal t (.slice a1 m1 c1) (.slice a2 m2 c2)).run P w = .ok b w from he) rfl
  split at h
  · rename_i x0
    obtain ⟨⟨ao, m, c, rfl, h0⟩, hg⟩ := unkLen_rep h hx
    cases hy
    refine ⟨ao.isNone, fun hb => h0 (by simpa using hb), fin _ (hg P t ox oy).1 ⟨_, _, _, _, _, _, rfl, rfl, ?_⟩⟩
    exact (equalIn_nil (d := 9999) hu ao m c w).1
  · obtain ⟨⟨ao, m, c, rfl, h0⟩, hg⟩ := unkLen_rep h hy
    cases hx
    refine ⟨ao.isNone, fun hb => h0 (by simpa using hb), fin _ (hg P t ox oy).2 ⟨_, _, _, _, _, _, rfl, rfl, ?_⟩⟩
    exact (equalIn_nil (d := 9999) hu ao m c w).2
  · cases h

theorem xop_ok {P : Program} {call : CallX} (hc : CallXOk P call) {o : Oper} {F : Fr} {H : Heap} {nx : Nat} {df : List ADef} {K : AV → Heap → Nat → List ADef → Prop} {QP : AV → Heap → Nat → Prop} (h : xop P call o F H nx df K QP) : SOpR P o F H nx df K QP := by
  have plainB : ∀ b : Bool, (match b with
    | true => xe P o.op F H nx (fun r H' nx' => nameIf call.nm (nmB F r o.op) H' fun G => K r G nx' df)
    | false => xq P o.op F H (fun r => K r H nx df)) → (∃ r, aq P o.op F H = some r ∧ K r H nx df) ∨ (∃ r H' nx', ae P o.op F H nx = some (r, H', nx') ∧ K r H' nx' df) ∨ (isVar o.op = false ∧ AeK P o F H nx fun r H' nx' => K r H' nx' df) := by
    intro b h
    split at h
    · unfold xe at h
      split at h
      · rename_i r H' nx' ps he
        rw [allP_iff] at h
        obtain ⟨h1, h2⟩ := eT_ok he h.1
        exact .inr (.inr ⟨h1, h2.toK (nameIf_ok h.2)⟩)
      · split at h
        · rename_i r H' nx' he
          exact .inr (.inl ⟨r, H', nx', he, nameIf_ok h⟩)
        · exact h.elim
    · obtain ⟨r, h1, h2⟩ := xq_ok h
      exact .inl ⟨r, h1, h2⟩
  have plain := plainB (isEffF F o.op)
  obtain ⟨dst, op, ty, pos, after, guard⟩ := o
  unfold xop at h
  unfold SOpR
  simp only at h plain plainB ⊢
  split at h
  · exact h
  · rename_i c
    simp only
    split at h
    · rename_i f hf
      simp only [hf]
      split at h
      · rename_i k first cap hco
        rw [req_iff] at h
        exact ⟨k, first, cap, hco, h.1, h.2⟩
      · exact h.elim
    · exact h.elim
  · rename_i f args ats
    split at h
    · rename_i b hb
      refine .inr ⟨b, hb, SYield.mono (hc (.y b) _ _ _ _ h) fun x H' nx' hx => ?_⟩
      cases x <;> exact hx
    · split at h
      · rename_i k first cap hco
        rw [req_iff] at h
        refine .inl ⟨k, first, cap, hco, h.1, SCall.mono (hc (.f k) _ _ _ _ h.2) fun x H' nx' hx => ?_⟩
        cases x <;> exact hx
      · exact h.elim
  · rename_i op t x y p0
    have quiet : xq P (.binOp op t x y p0) F H (fun r => K r H nx df) → (∃ r, aq P (.binOp op t x y p0) F H = some r ∧ K r H nx df) ∨ (∃ r H' nx', ae P (.binOp op t x y p0) F H nx = some (r, H', nx') ∧ K r H' nx' df) ∨ (isVar (.binOp op t x y p0) = false ∧ AeK P ⟨dst, .binOp op t x y p0, ty, pos, after, guard⟩ F H nx fun r H' nx' => K r H' nx' df) := fun h => by
      obtain ⟨r, h1, h2⟩ := xq_ok h
      exact .inl ⟨r, h1, h2⟩
    have unk : ∀ n, eqNil P t (ev F x) (ev F y) = some n → (op = .eql ∨ op = .neq) → (∀ b : Bool, (b = true → n = 0) → K (.bool (negIf op b)) H nx df) → (isVar (.binOp op t x y p0) = false ∧ AeK P ⟨dst, .binOp op t x y p0, ty, pos, after, guard⟩ F H nx fun r H' nx' => K r H' nx' df) := fun n hn hop hk => by
      refine ⟨rfl, fun base w0 Z φ w ρ hH hr => ?_⟩
      have q1 : Rep Z φ (ev F x) (ρ x) := hr x (by simp [Op.operands])
      have q2 : Rep Z φ (ev F y) (ρ y) := hr y (by simp [Op.operands])
      obtain ⟨b, hb, hrun⟩ := eqNil_ok (ox := x) (oy := y) (w := w) hop hn q1 q2
      exact ⟨_, H, nx, ⟨_, w, Z, φ, run_bind' hrun rfl, .inl ⟨_, rfl, .bool _⟩, ZLe.refl _, PLe.refl _, hH⟩, hk b hb⟩
    split at h
    · rename_i hn; exact .inr (.inr (unk _ hn (.inl rfl) h))
    · rename_i hn; exact .inr (.inr (unk _ hn (.inr rfl) h))
    · split at h
      · rename_i r hw
        exact .inl ⟨r, by simp only [aq]; exact wrapV_ok hw, h⟩
      · exact quiet h
  · exact plainB _ h
  · rename_i h1 h2 h3 h4 h5
    cases op with
    | convert s d x => exact (h5 s d x rfl).elim
    | binOp op t x y p0 => exact (h4 op t x y p0 rfl).elim
    | panic x => exact (h1 x rfl).elim
    | defer c => exact (h2 c rfl).elim
    | call c =>
      obtain ⟨callee, args, ats⟩ := c
      cases callee with
      | value f => exact (h3 f args ats rfl).elim
      | invoke _ _ => exact plain h
      | builtin _ => exact plain h
    | _ => exact plain h
end Go.Lom

/- Code on unknown contents: what it asks, and what follows: sound. No conditions of its own. -/
set_option linter.unusedSimpArgs false
set_option linter.unusedVariables false
set_option linter.constructorNameAsVariable false
namespace Go.Lom
open Go.RowKit

def gate (want b : Bool) (p q : Prop) : Prop :=
  match want, b with
  | true, true => p
  | false, false => p
  | _, _ => q

/-- The operations of a region, in the order of the text. -/
def xops (P : Program) (N : Nat) (call : CallX) (ops : Array Oper) : List Oper → (AX → St → Prop) → St → Prop
  | [], K, σ => K .normal σ
  | o :: rest, K, σ => req (dstOk N o)
    (let run : St → Prop := fun σ => xop P call o σ.fr σ.H σ.nx σ.df (fun r H nx df => xops P N call ops rest K ⟨σ.fr.put o.dst r, H, nx, df⟩) (fun v H nx => K (.panic v) ⟨σ.fr, H, nx, σ.df⟩)
     let pass : St → Prop := fun σ => xops P N call ops rest K { σ with fr := σ.fr.put o.dst skipV }
     match o.guard with
     | none => run σ
     | some (j, want) => match (ops[j]?).bind (·.dst) with
       | some d => match σ.fr.get d with
         | .bool b => fork b (gate want true (run { σ with fr := (d, .bool true) :: σ.fr }) (pass { σ with fr := (d, .bool true) :: σ.fr })) (gate want false (run { σ with fr := (d, .bool false) :: σ.fr }) (pass { σ with fr := (d, .bool false) :: σ.fr }))
         | .tup [] => pass σ
         | _ => False
       | none => False)

section
variable {P : Program} {N n0 : Nat} {call : CallX} {ops : Array Oper} {Q : AX → St → Prop}

theorem fr_lit {base : Nat → Prop} {w0 : Start} {Z : ZMap} {φ : PMap} {σ : St} {a : Act} {w : World} {d : Nat} {b : Bool} (hs : SRel P base w0 Z φ N σ a w) (hd : σ.fr.get d = .bool b) : SRel P base w0 Z φ N { σ with fr := (d, .bool b) :: σ.fr } a w := by
  refine ⟨fun t => ?_, hs.size, hs.df, hs.heap⟩
  simp only [Fr.get]
  by_cases ht : t = d
  · subst ht; rw [if_pos rfl, ← hd]; exact hs.fr t
  · rw [if_neg ht]; exact hs.fr t

theorem xops_ok {ro : Option Nat} (hro : OpsRo ro ops) (hc : CallXOk P call) : ∀ (l : List Oper) (k : Nat), (∀ j, l[j]? = ops[k + j]?) → ∀ (σ : St), xops P N call ops l Q σ →
    ∀ base w0 Z φ a w, SRel P base w0 Z φ N σ a w → opsW ro P ops (Lift P base w0 N n0 Z φ Q) (List.range' k l.length) a w
  | [], k, _, σ, h, base, w0, Z, φ, a, w, hs => ⟨Z, φ, .normal, σ, ZLe.refl _, PLe0.refl _ _, trivial, hs, h⟩
  | o :: l, k, hl, σ, h, base, w0, Z, φ, a, w, hs => by
    have h0 : ops[k]? = some o := by simpa using (hl 0).symm
    have ih := xops_ok hro hc l (k + 1) (fun j => by have := hl (j + 1); simpa [Nat.add_assoc, Nat.add_comm 1 j] using this)
    simp only [List.length_cons, List.range'_succ, opsW, h0]
    simp only [xops] at h
    rw [req_iff] at h
    obtain ⟨hd, h⟩ := h
    have step : ∀ σ : St, SRel P base w0 Z φ N σ a w → xop P call o σ.fr σ.H σ.nx σ.df (fun r H nx df => xops P N call ops l Q ⟨σ.fr.put o.dst r, H, nx, df⟩) (fun v H nx => Q (.panic v) ⟨σ.fr, H, nx, σ.df⟩) →
        opW ro P o a w (opsW ro P ops (Lift P base w0 N n0 Z φ Q) (List.range' (k + 1) l.length)) (Lift P base w0 N n0 Z φ Q) := fun σ hs hop =>
      wp_op (hro.at h0) (K := xops P N call ops l Q) hd (xop_ok hc hop) hs fun Z' φ' σ' a' w' hZ hφ hs' hk => opsW_mono (fun e a w hl => hl.mono hZ hφ.to0 fun _ _ h => h) (ih σ' hk base w0 Z' φ' a' w' hs')
    have pass : ∀ σ : St, SRel P base w0 Z φ N σ a w → xops P N call ops l Q { σ with fr := σ.fr.put o.dst skipV } → opsW ro P ops (Lift P base w0 N n0 Z φ Q) (List.range' (k + 1) l.length) (a.put o.dst Go.undef) w := fun σ hs hx => by
      have hlt := dstOk_lt hd hs.size
      refine ih _ hx base w0 Z φ _ w ⟨hs.fr.put hlt (rep_skip _ _), ?_, ?_, hs.heap⟩
      · cases hdst : o.dst <;> simp [Act.put, hs.size]
      · have : (a.put o.dst Go.undef).defers = a.defers := by cases hdst : o.dst <;> simp [Act.put]
        rw [this]; exact hs.df
    cases hg : o.guard with
    | none =>
      rw [hg] at h
      have hw : Region.wanted o (yielded ops a.tmps) = true := by simp [Region.wanted, hg]
      rw [if_pos hw]
      exact step σ hs h
    | some p =>
      obtain ⟨j, want⟩ := p
      rw [hg] at h
      simp only at h
      split at h
      rotate_left
      · exact h.elim
      rename_i d hdj
      have gv : ∀ b, σ.fr.get d = .bool b → guardV ops σ.fr j = some (some b) := fun b hb => by simp [guardV, hdj, hb, yieldOf]
      split at h
      · rename_i b hb
        have hy := guard_yielded hs.fr hs.size (gv b hb)
        rw [fork_iff] at h
        have wt : ∀ c, b = c → (Region.wanted o (yielded ops a.tmps) = true ↔ c = want) := fun c hbc => by
          subst hbc
          simp only [Region.wanted, hg, hy]
          cases b <;> cases want <;> simp
        cases hbv : b with
        | true =>
          have hlit := fr_lit hs (by rw [hb, hbv])
          have h := h.1 hbv
          cases want with
          | true => rw [if_pos ((wt true hbv).2 rfl)]; exact step _ hlit h
          | false => rw [if_neg (fun e => by cases (wt true hbv).1 e)]; exact pass _ hlit h
        | false =>
          have hlit := fr_lit hs (by rw [hb, hbv])
          have h := h.2 hbv
          cases want with
          | true => rw [if_neg (fun e => by cases (wt false hbv).1 e)]; exact pass _ hlit h
          | false => rw [if_pos ((wt false hbv).2 rfl)]; exact step _ hlit h
      · rename_i hb
        have hgv : guardV ops σ.fr j = some none := by simp [guardV, hdj, hb, yieldOf]
        have hy := guard_yielded hs.fr hs.size hgv
        have hw : ¬ Region.wanted o (yielded ops a.tmps) = true := by simp [Region.wanted, hg, hy]
        rw [if_neg hw]
        exact pass σ hs h
      · exact h.elim

theorem swp_xops (hc : CallXOk P call) {id : Nat} {σ : St} (h : xops P N call ops ops.toList Q σ) : SWp P N n0 (.region id ops false) Q σ := by
  intro ro base w0 Z φ a w hro hs
  refine wpIn_region (opsW_in _ _ _ ?_)
  have := xops_ok (n0 := n0) (Q := Q) hro.region hc ops.toList 0 (fun j => by simp) σ h base w0 Z φ a w hs
  rw [List.range_eq_range']
  simpa using this
end

/-! ### Regions that draw their order -/
def xlate (wr : Bool) (P : Program) (op : Op) (F : Fr) (H : Heap) (K : AV → Prop) : Prop :=
  match op with
  | .buildSlice t len ps => optK (lateV P (.buildSlice t len ps) F H) K
  | .binOp op t x y p => match wrapV wr op (ev F x) (ev F y) with
    | some r => K r
    | none => xq P (.binOp op t x y p) F H K
  | op => xq P op F H K
theorem xlate_ok {wr : Bool} {P : Program} {op : Op} {F : Fr} {H : Heap} {K : AV → Prop} (h : xlate wr P op F H K) : ∃ r, lateV P op F H = some r ∧ K r := by
  unfold xlate at h
  split at h
  · exact optK_iff.1 h
  · rename_i op t x y p
    split at h
    · rename_i r hw
      exact ⟨r, by simp only [lateV, aq]; exact wrapV_ok hw, h⟩
    · obtain ⟨r, h1, h2⟩ := xq_ok h
      exact ⟨r, h1, h2⟩
  · rename_i hb _
    obtain ⟨r, h1, h2⟩ := xq_ok h
    rcases lateV_cases P F F H H op with (⟨t, len, ps, rfl⟩ | ⟨t, l, c, rfl⟩) | ⟨h3, _⟩
    · exact (hb t len ps rfl).elim
    · cases h1
    · exact ⟨r, by rw [h3]; exact h1, h2⟩

def holdsV (o : Option Nat) (F : Fr) (r : AV) : Prop := match o with
  | some d => F.get d = r
  | none => True
def xstab (P : Program) (ops : Array Oper) (ms : List Nat) (i : Nat) (F : Fr) (H : Heap) : List Nat → Prop → Prop
  | [], K => K
  | p :: l, K => match preB ms p i with
    | true => xstab P ops ms i F H l K
    | false => (match ops[p]? with
      | some o => xq P o.op F H (holdsV o.dst F)
      | none => True) ∧ xstab P ops ms i F H l K
theorem xstab_ok {P : Program} {ops : Array Oper} {ms : List Nat} {i : Nat} {F : Fr} {H : Heap} {K : Prop} : ∀ (l : List Nat), xstab P ops ms i F H l K → (∀ p ∈ l, preB ms p i = false → stable P ops F H p) ∧ K
  | [], h => ⟨fun p hp => by simp at hp, h⟩
  | p :: l, h => by
    unfold xstab at h
    split at h
    · rename_i hpre
      obtain ⟨h1, h2⟩ := xstab_ok l h
      refine ⟨fun q hq hqp => ?_, h2⟩
      rcases List.mem_cons.1 hq with rfl | hq
      · rw [hpre] at hqp; cases hqp
      · exact h1 q hq hqp
    · obtain ⟨h0, h⟩ := h
      obtain ⟨h1, h2⟩ := xstab_ok l h
      refine ⟨fun q hq hqp => ?_, h2⟩
      rcases List.mem_cons.1 hq with rfl | hq
      · unfold stable
        split at h0
        · rename_i o ho
          rw [ho]
          obtain ⟨r, hr, hs⟩ := xq_ok h0
          exact ⟨r, hr, fun d hd => by rw [hd] at hs; exact hs⟩
        · rename_i ho; rw [ho]; trivial
      · exact h1 q hq hqp

def consIf (b : Bool) (i : Nat) (l : List Nat) : List Nat := match b with
  | true => i :: l
  | false => l
theorem consIf_eq (b : Bool) (i : Nat) (l : List Nat) : consIf b i l = if b then i :: l else l := by cases b <;> rfl
def setLit (d : Nat) (b : Bool) : Fr → Fr
  | [] => []
  | (t, v) :: l => match Nat.beq t d with
    | true => (t, match v with | .bool _ => .bool b | v => v) :: l
    | false => (t, v) :: setLit d b l
theorem setLit_eq {d : Nat} {b : Bool} : ∀ {F : Fr}, F.get d = .bool b → setLit d b F = F
  | [], _ => rfl
  | (t, v) :: l, h => by
    unfold setLit
    simp only [Fr.get] at h
    split
    · rename_i e
      have e := Nat.eq_of_beq_eq_true e
      rw [if_pos e.symm] at h
      subst h
      rfl
    · rename_i e
      have e : ¬ d = t := fun e' => by subst e'; simp at e
      rw [if_neg e] at h
      rw [setLit_eq h]
def slotOf (ops : Array Oper) (j : Nat) : Nat := match (ops[j]?).bind (·.dst) with
  | some d => d
  | none => 0
theorem setLit_guard {ops : Array Oper} {F : Fr} {j : Nat} {b : Bool} (h : guardV ops F j = some (some b)) : setLit (slotOf ops j) b F = F := by
  unfold guardV at h
  unfold slotOf
  split at h
  · rename_i d hd
    rw [hd]
    refine setLit_eq ?_
    unfold yieldOf at h
    split at h <;> simp_all
  · simp at h
def xreg (P : Program) (N : Nat) (call : CallX) (ops : Array Oper) (ms : List Nat) (K : AX → St → Prop) : List Nat → List Nat → List Nat → St → Prop
  | [], seen, pend, σ => K .normal σ
  | i :: rest, seen, pend, σ => match ops[i]? with
    | none => False
    | some o => req (dstOk N o)
      (let run : St → Prop := fun σ => match freeB ops ms seen o with
        | true => xlate call.wr P o.op σ.fr σ.H (fun r => xreg P N call ops ms K rest (i :: seen) (consIf (readsQ o.op) i pend) { σ with fr := σ.fr.put o.dst r })
        | false => xop P call o σ.fr σ.H σ.nx σ.df (fun r H nx df => xstab P ops ms i (σ.fr.put o.dst r) H pend (xreg P N call ops ms K rest (i :: seen) pend ⟨σ.fr.put o.dst r, H, nx, df⟩)) (fun v H nx => K (.panic v) ⟨forget ops σ.fr, H, nx, σ.df⟩)
       let pass : St → Prop := fun σ => xreg P N call ops ms K rest (i :: seen) pend { σ with fr := σ.fr.put o.dst skipV }
       match o.guard with
       | none => run σ
       | some (j, want) => match guardV ops σ.fr j with
         | some none => pass σ
         | some (some b) => fork b (gate want true (run { σ with fr := setLit (slotOf ops j) true σ.fr }) (pass { σ with fr := setLit (slotOf ops j) true σ.fr })) (gate want false (run { σ with fr := setLit (slotOf ops j) false σ.fr }) (pass { σ with fr := setLit (slotOf ops j) false σ.fr }))
         | none => False)

theorem SOpR.mono {P : Program} {o : Oper} {F : Fr} {H : Heap} {nx : Nat} {df : List ADef} {K K' : AV → Heap → Nat → List ADef → Prop} {QP : AV → Heap → Nat → Prop} (hk : ∀ r H nx df, K r H nx df → K' r H nx df) (h : SOpR P o F H nx df K QP) : SOpR P o F H nx df K' QP := by
  obtain ⟨dst, op, ty, pos, after, guard⟩ := o
  have plain : ∀ op : Op, ((∃ r, aq P op F H = some r ∧ K r H nx df) ∨ (∃ r H' nx', ae P op F H nx = some (r, H', nx') ∧ K r H' nx' df) ∨ (isVar op = false ∧ AeK P ⟨dst, op, ty, pos, after, guard⟩ F H nx fun r H' nx' => K r H' nx' df)) →
      ((∃ r, aq P op F H = some r ∧ K' r H nx df) ∨ (∃ r H' nx', ae P op F H nx = some (r, H', nx') ∧ K' r H' nx' df) ∨ (isVar op = false ∧ AeK P ⟨dst, op, ty, pos, after, guard⟩ F H nx fun r H' nx' => K' r H' nx' df)) := by
    rintro op (⟨r, h1, h2⟩ | ⟨r, H', nx', h1, h2⟩ | ⟨h0, h1⟩)
    · exact .inl ⟨r, h1, hk _ _ _ _ h2⟩
    · exact .inr (.inl ⟨r, H', nx', h1, hk _ _ _ _ h2⟩)
    · exact .inr (.inr ⟨h0, fun base w0 Z φ w ρ hH hr => let ⟨r, H', nx', h2, h3⟩ := h1 base w0 Z φ w ρ hH hr; ⟨r, H', nx', h2, hk _ _ _ _ h3⟩⟩)
  cases op with
  | panic x => exact h
  | defer c =>
    obtain ⟨callee, args, ats⟩ := c
    cases callee with
    | value f =>
      obtain ⟨k, first, cap, h1, h2, h3⟩ := h
      exact ⟨k, first, cap, h1, h2, hk _ _ _ _ h3⟩
    | invoke _ _ => exact h
    | builtin _ => exact h
  | call c =>
    obtain ⟨callee, args, ats⟩ := c
    cases callee with
    | value f =>
      rcases h with ⟨k, first, cap, h1, h2, h3⟩ | ⟨b, h1, h2⟩
      · exact .inl ⟨k, first, cap, h1, h2, h3.mono fun x H' nx' hx => by cases x with
        | ret v => exact hk _ _ _ _ hx
        | panic v => exact hx⟩
      · exact .inr ⟨b, h1, h2.mono fun x H' nx' hx => by cases x with
        | ret v => exact hk _ _ _ _ hx
        | panic v => exact hx⟩
    | invoke _ _ => exact plain _ h
    | builtin _ => exact plain _ h
  | _ => exact plain _ h

theorem xreg_ok {P : Program} {N : Nat} {call : CallX} (hc : CallXOk P call) {ops : Array Oper} {ms : List Nat} {K : AX → St → Prop} : ∀ (l seen pend : List Nat) (σ : St), xreg P N call ops ms K l seen pend σ → VReg P N ops ms K l seen pend σ
  | [], seen, pend, σ, h => h
  | i :: l, seen, pend, σ, h => by
    unfold xreg at h
    unfold VReg
    split at h
    · exact h.elim
    rename_i o ho
    rw [ho]
    simp only
    rw [req_iff] at h
    refine ⟨h.1, ?_⟩
    have h := h.2
    simp only at h
    have run : (match freeB ops ms seen o with
        | true => xlate call.wr P o.op σ.fr σ.H (fun r => xreg P N call ops ms K l (i :: seen) (consIf (readsQ o.op) i pend) { σ with fr := σ.fr.put o.dst r })
        | false => xop P call o σ.fr σ.H σ.nx σ.df (fun r H nx df => xstab P ops ms i (σ.fr.put o.dst r) H pend (xreg P N call ops ms K l (i :: seen) pend ⟨σ.fr.put o.dst r, H, nx, df⟩)) (fun v H nx => K (.panic v) ⟨forget ops σ.fr, H, nx, σ.df⟩)) →
        (if freeB ops ms seen o then ∃ r, lateV P o.op σ.fr σ.H = some r ∧ VReg P N ops ms K l (i :: seen) (if readsQ o.op then i :: pend else pend) { σ with fr := σ.fr.put o.dst r }
        else SOpR P o σ.fr σ.H σ.nx σ.df (fun r H nx df => (∀ p ∈ pend, preB ms p i = false → stable P ops (σ.fr.put o.dst r) H p) ∧ VReg P N ops ms K l (i :: seen) pend ⟨σ.fr.put o.dst r, H, nx, df⟩)
          (fun v H nx => K (.panic v) ⟨forget ops σ.fr, H, nx, σ.df⟩)) := by
      intro hr
      split at hr
      · rename_i hf
        rw [if_pos hf]
        obtain ⟨r, h1, h2⟩ := xlate_ok hr
        refine ⟨r, h1, ?_⟩
        rw [← consIf_eq]
        exact xreg_ok hc l _ _ _ h2
      · rename_i hf
        rw [if_neg (by rw [hf]; simp)]
        exact (xop_ok hc hr).mono fun r H nx df hx => let ⟨h1, h2⟩ := xstab_ok _ hx; ⟨h1, xreg_ok hc l _ _ _ h2⟩
    have pass : xreg P N call ops ms K l (i :: seen) pend { σ with fr := σ.fr.put o.dst skipV } → VReg P N ops ms K l (i :: seen) pend { σ with fr := σ.fr.put o.dst skipV } := fun h => xreg_ok hc l _ _ _ h
    cases hg : o.guard with
    | none => rw [hg] at h; exact run h
    | some p =>
      obtain ⟨j, want⟩ := p
      rw [hg] at h
      simp only at h ⊢
      split at h
      · rename_i hgv
        exact ⟨none, hgv, (fun e => nomatch e), fun _ => pass h⟩
      · rename_i b hgv
        have hlit := setLit_guard hgv
        refine ⟨some b, hgv, fun e => ?_, fun e => ?_⟩
        · injection e with e; subst e
          cases b <;> (simp only [hlit] at h; exact run h)
        · have e : b ≠ want := fun e' => e (by rw [e'])
          cases b <;> cases want <;> first | exact absurd rfl e | (simp only [hlit] at h; exact pass h)
      · exact h.elim

/-! ### Code -/
def nLoops : Code → Nat
  | .seq a b => nLoops a + nLoops b
  | .cond _ a b => nLoops a + nLoops b
  | .block _ c => nLoops c
  | .scope c => nLoops c
  | .loop c => nLoops c + 1
  | _ => 0
/-- The bodies of the loops, in the order of the text. -/
def loopsOf : Code → List Code
  | .seq a b => loopsOf a ++ loopsOf b
  | .cond _ a b => loopsOf a ++ loopsOf b
  | .block _ c => loopsOf c
  | .scope c => loopsOf c
  | .loop c => c :: loopsOf c
  | _ => []
theorem loopsOf_length : ∀ c : Code, (loopsOf c).length = nLoops c := by
  intro c
  induction c <;> simp_all [loopsOf, nLoops]

def litSlot (c : Operand) (b : Bool) (σ : St) : St :=
  match c with
  | .tmp d => { σ with fr := (d, .bool b) :: σ.fr }
  | _ => σ

abbrev LoopX := Nat → St → (AX → St → Prop) → Prop
/-- What follows a range over a function, by the jump that a round left. -/
def afterX (K : AX → St → Prop) : Option Code → St → Prop
  | none, σ => K .normal σ
  | some .ret, σ => K .ret σ
  | some (.exit id), σ => K (.exit id) σ
  | _, _ => False
def rangedX (K : AX → St → Prop) (fr : Fr) (nx : Nat) (df : List ADef) : AE → Heap → Nat → Prop := fun x H' nx' => match x with
  | .ret _ => match H'.get (nx + 1) with
    | some (.lp .busy _ _ _ _ _ _) => False
    | some (.lp _ pend _ _ _ _ _) => afterX K pend ⟨fr, H'.del (nx + 1), nx', .mark nx :: df⟩
    | _ => False
  | .panic _ => False
def xrange (P : Program) (N : Nat) (call : CallX) (g : Operand) (ps : Array Tmp) (asg body : Code) (K : AX → St → Prop) (σ : St) : Prop :=
  match calleeOf (ev σ.fr g) with
  | some (k, first, cap) => req (funcOk P k) (call (.f k) (first ++ [.yf (σ.nx + 1)] ++ cap) ((σ.H.set σ.nx .dfs).set (σ.nx + 1) (.lp .ready none σ.fr N ps.toList asg body)) (σ.nx + 2) (rangedX K σ.fr σ.nx σ.df))
  | none => False
theorem afterX_ok {K : AX → St → Prop} {p : Option Code} {σ : St} (h : afterX K p σ) : afterQ K p σ := by
  unfold afterX at h
  split at h <;> first | exact h | exact h.elim
theorem xrange_ok {P : Program} {N n0 : Nat} {call : CallX} (hc : CallXOk P call) {g : Operand} {ps : Array Tmp} {asg body : Code} {K : AX → St → Prop} {σ : St} (h : xrange P N call g ps asg body K σ) : SWp P N n0 (.rangeFunc g ps asg body) K σ := by
  unfold xrange at h
  split at h
  · rename_i k first cap hg
    rw [req_iff] at h
    refine swp_range hg h.1 (SCall.mono (hc (.f k) _ _ _ _ h.2) fun x H' nx' hx => ?_)
    unfold rangedX at hx
    cases x with
    | panic v => exact hx.elim
    | ret v =>
      simp only at hx ⊢
      split at hx
      · exact hx.elim
      · rename_i st pend F M qs c1 c2 hne hget
        exact ⟨st, pend, F, M, qs, c1, c2, hget, fun e => hne e, afterX_ok hx⟩
      · exact hx.elim
  · exact h.elim
def xc (P : Program) (N : Nat) (call : CallX) (lf : LoopX) : Code → Nat → (AX → St → Prop) → St → Prop
  | .skip, _, K, σ => K .normal σ
  | .region _ ops draw, _, K, σ => match draw with
    | true => req (P.follows .mixedOrders && regOk ops (masks ops.toList []) (orderOf ops) [] && earlyOk P N ops) (xreg P N call ops (masks ops.toList []) K (orderOf ops) [] [] σ)
    | false => xops P N call ops ops.toList K σ
  | .seq a b, j, K, σ => xc P N call lf a j (AX.then (xc P N call lf b (j + nLoops a) K) K) σ
  | .cond c a b, j, K, σ => match ev σ.fr c with
    | .bool t => fork t (xc P N call lf a j K (litSlot c true σ)) (xc P N call lf b (j + nLoops a) K (litSlot c false σ))
    | _ => False
  | .block id c, j, K, σ => xc P N call lf c j (AX.inBlock id K) σ
  | .loop _, j, K, σ => lf j σ K
  | .scope c, j, K, σ => xc P N call lf c j K σ
  | .label _, _, K, σ => K .normal σ
  | .exit id, _, K, σ => K (.exit id) σ
  | .ret, _, K, σ => K .ret σ
  | .rangeFunc g ps asg body, _, K, σ => xrange P N call g ps asg body K σ
  | _, _, _, _ => False

def LoopsOk (P : Program) (N n0 : Nat) (lf : LoopX) (j : Nat) (l : List Code) : Prop := ∀ i c, l[i]? = some c → ∀ σ Q, lf (j + i) σ Q → SWp P N n0 (.loop c) Q σ

theorem LoopsOk.left {P : Program} {N n0 : Nat} {lf : LoopX} {j : Nat} {a b : List Code} (h : LoopsOk P N n0 lf j (a ++ b)) : LoopsOk P N n0 lf j a := fun i c hi => h i c (by rw [List.getElem?_append_left (List.getElem?_eq_some_iff.1 hi).1]; exact hi)
theorem LoopsOk.right {P : Program} {N n0 : Nat} {lf : LoopX} {j : Nat} {a b : List Code} (h : LoopsOk P N n0 lf j (a ++ b)) : LoopsOk P N n0 lf (j + a.length) b := fun i c hi σ Q hq => h (a.length + i) c (by rw [List.getElem?_append_right (by omega)]; simpa using hi) σ Q (by rw [← Nat.add_assoc]; exact hq)

theorem swp_lit {P : Program} {N n0 : Nat} {c : Operand} {b : Bool} {x : Code} {Q : AX → St → Prop} {σ : St} (hc : ev σ.fr c = .bool b) (h : SWp P N n0 x Q (litSlot c b σ)) : SWp P N n0 x Q σ := by
  cases c with
  | tmp d => exact fun ro base w0 Z φ a w hro hs => h ro base w0 Z φ a w hro (fr_lit hs hc)
  | _ => exact h

theorem xc_ok {P : Program} {N n0 : Nat} {call : CallX} {lf : LoopX} (hc : CallXOk P call) : ∀ (c : Code) (j : Nat) (K : AX → St → Prop) (σ : St), LoopsOk P N n0 lf j (loopsOf c) → xc P N call lf c j K σ → SWp P N n0 c K σ
  | .skip, j, K, σ, hl, h => swp_skip h
  | .region id ops draw, j, K, σ, hl, h => by
    simp only [xc] at h
    cases draw with
    | true =>
      simp only [req_iff, Bool.and_eq_true] at h
      exact swp_draw h.1.1.1 (orderOf ops) h.1.1.2 h.1.2 (xreg_ok hc _ _ _ _ h.2)
    | false => exact swp_xops hc h
  | .seq a b, j, K, σ, hl, h => by
    simp only [xc] at h
    refine swp_seq ((xc_ok hc a j _ σ hl.left h).mono fun x τ hx => ?_)
    cases x with
    | normal => exact xc_ok hc b _ K τ (by have := hl.right; rwa [loopsOf_length] at this) hx
    | exit i => exact hx
    | ret => exact hx
    | panic v => exact hx
  | .cond c a b, j, K, σ, hl, h => by
    simp only [xc] at h
    split at h
    · rename_i t ht
      rw [fork_iff] at h
      exact swp_cond ht (fun e => swp_lit (by rw [ht, e]) (xc_ok hc a j K _ hl.left (h.1 e))) fun e => swp_lit (by rw [ht, e]) (xc_ok hc b _ K _ (by have := hl.right; rwa [loopsOf_length] at this) (h.2 e))
    · exact h.elim
  | .block id c, j, K, σ, hl, h => swp_block (xc_ok hc c j _ σ hl h)
  | .loop c, j, K, σ, hl, h => hl 0 c rfl σ K h
  | .scope c, j, K, σ, hl, h => swp_scope (xc_ok hc c j K σ hl h)
  | .label l, j, K, σ, hl, h => swp_label h
  | .exit id, j, K, σ, hl, h => swp_exit h
  | .ret, j, K, σ, hl, h => swp_ret h
  | .goto _, _, _, _, _, h => h.elim
  | .rangeFunc _ _ _ _, _, _, _, _, h => xrange_ok hc h
  | .refuse _, _, _, _, _, h => h.elim

/-! ### Calls -/
def xres1 (P : Program) (F : Fr) (H : Heap) : ResultVar → Option (AV × List Bool)
  | .tmp t => some (F.get t, [])
  | .cell a t => match qLoad P t (F.get a) H with
    | some q => some q
    | none => match ald P t (F.get a) H with
      | some r => some (r, [])
      | none => none
def xresL (P : Program) (F : Fr) (H : Heap) : List ResultVar → Option (List AV × List Bool)
  | [] => some ([], [])
  | r :: l => match xres1 P F H r with
    | some (v, ps) => match xresL P F H l with
      | some (vs, qs) => some (v :: vs, ps ++ qs)
      | none => none
    | none => none
theorem xres1_ok {P : Program} {F : Fr} {H : Heap} {r : ResultVar} {v : AV} {ps : List Bool} (h : xres1 P F H r = some (v, ps)) (hp : ∀ p ∈ ps, p = true) : ares1 P F H r = some v := by
  unfold xres1 at h
  split at h
  · simp only [Option.some.injEq, Prod.mk.injEq] at h
    obtain ⟨rfl, rfl⟩ := h; rfl
  · split at h
    · rename_i q hq
      injection h with h; subst h
      exact qLoad_ok hq hp
    · split at h
      · rename_i r hr
        simp only [Option.some.injEq, Prod.mk.injEq] at h
        obtain ⟨rfl, rfl⟩ := h
        exact hr
      · cases h
theorem xresL_ok {P : Program} {F : Fr} {H : Heap} : ∀ {l : List ResultVar} {vs : List AV} {ps : List Bool}, xresL P F H l = some (vs, ps) → (∀ p ∈ ps, p = true) → l.mapM (ares1 P F H) = some vs
  | [], vs, ps, h, hp => by
    simp only [xresL, Option.some.injEq, Prod.mk.injEq] at h
    obtain ⟨rfl, rfl⟩ := h; rfl
  | r :: l, vs, ps, h, hp => by
    unfold xresL at h
    split at h
    · rename_i v qs hr
      split at h
      · rename_i us rs hl
        simp only [Option.some.injEq, Prod.mk.injEq] at h
        obtain ⟨rfl, rfl⟩ := h
        have h1 := xres1_ok hr fun p hp' => hp p (List.mem_append_left _ hp')
        have h2 := xresL_ok hl fun p hp' => hp p (List.mem_append_right _ hp')
        rw [List.mapM_cons, h1, h2]; rfl
      · cases h
    · cases h
def xretK (P : Program) (fn : Func) (R : AE → Heap → Nat → Prop) (F : Fr) (H : Heap) (nx : Nat) : Prop := match xresL P F H fn.results.toList with
  | some (vs, ps) => allP ps (R (.ret (tupOf vs)) H nx)
  | none => False
theorem xretK_ok {P : Program} {fn : Func} {R : AE → Heap → Nat → Prop} {F : Fr} {H : Heap} {nx : Nat} (h : xretK P fn R F H nx) : ∃ v, ares P fn F H = some v ∧ R (.ret v) H nx := by
  unfold xretK at h
  split at h
  · rename_i vs ps hx
    obtain ⟨h1, h2⟩ := (allP_iff _ _).1 h
    refine ⟨_, ?_, h2⟩
    unfold ares
    rw [xresL_ok hx h1]; rfl
  · exact h.elim
/-! A deferred call, that may recover -/
def xcs (P : Program) (N : Nat) (call : CallX) : Code → AMode → (AX → AMode → St → Prop) → St → Prop
  | .region id ops false, m, K, σ => match ops.any fun o => isRecover o.op with
    | true => match runOpsS P N ops ops.toList m σ with
      | some (x, m', τ) => K x m' τ
      | none => False
    | false => xc P N call (fun _ _ _ => False) (.region id ops false) 0 (fun x τ => K x m τ) σ
  | .seq a b, m, K, σ => xcs P N call a m (fun x m' τ => match x with
    | .normal => xcs P N call b m' K τ
    | x => K x m' τ) σ
  | .cond c a b, m, K, σ => match ev σ.fr c with
    | .bool t => fork t (xcs P N call a m K (litSlot c true σ)) (xcs P N call b m K (litSlot c false σ))
    | _ => False
  | c, m, K, σ => xc P N call (fun _ _ _ => False) c 0 (fun x τ => K x m τ) σ
theorem swpS_mono {P : Program} {N : Nat} {c : Code} {Q Q' : AX → AMode → St → Prop} {m : AMode} {σ : St} (h : SWpS P N c Q m σ) (hq : ∀ x n τ, Q x n τ → Q' x n τ) : SWpS P N c Q' m σ :=
  fun base w0 Z φ a w c0 cs hs hM => wpS_mono (h base w0 Z φ a w c0 cs hs hM) fun e a cs' w hl =>
    let ⟨Z', φ', x, n, τ, u, h1, h2, h3, h4, h5, h6, h7⟩ := hl
    ⟨Z', φ', x, n, τ, u, h1, h2, h3, h4, h5, h6, hq _ _ _ h7⟩
theorem swpS_lit {P : Program} {N : Nat} {c : Operand} {b : Bool} {x : Code} {Q : AX → AMode → St → Prop} {m : AMode} {σ : St} (hc : ev σ.fr c = .bool b) (h : SWpS P N x Q m (litSlot c b σ)) : SWpS P N x Q m σ := by
  cases c with
  | tmp d => exact fun base w0 Z φ a w c0 cs hs hM => h base w0 Z φ a w c0 cs (fr_lit hs hc) hM
  | _ => exact h
theorem xcs_ok {P : Program} {N : Nat} {call : CallX} (hc : CallXOk P call) : ∀ (c : Code) (m : AMode) (K : AX → AMode → St → Prop) (σ : St), xcs P N call c m K σ → SWpS P N c K m σ := by
  have dflt : ∀ (c : Code) (m : AMode) (K : AX → AMode → St → Prop) (σ : St), xc P N call (fun _ _ _ => False) c 0 (fun x τ => K x m τ) σ → SWpS P N c K m σ := fun c m K σ h =>
    swpS_mono (swpS_of (m := m) (xc_ok (n0 := σ.nx) hc c 0 _ σ (fun i c hi σ Q h => h.elim) h)) fun x n τ ⟨h1, h2⟩ => by subst h2; exact h1
  intro c
  induction c with
  | region id ops draw =>
    intro m K σ h
    cases draw with
    | true => exact dflt _ m K σ h
    | false =>
      simp only [xcs] at h
      split at h
      rotate_left
      · exact dflt _ m K σ h
      split at h
      rotate_left
      · exact h.elim
      rename_i x m' τ hrun
      intro base w0 Z φ a w c0 cs hs hM
      refine wpSIn_region ?_
      have := runOpsS_sound ops.toList 0 (fun j => by simp) m σ hrun base w0 Z φ a w c0 cs hs hM
      rw [List.range_eq_range']
      refine wpOpsS_mono (fun e a cs' w hl => ?_) (by simpa using this)
      obtain ⟨Z', φ', y, n, ρ, u, h1, h2, h3, h4, h5, h6, rfl, rfl, rfl⟩ := hl
      exact ⟨Z', φ', y, n, ρ, u, h1, h2, h3, h4, h5, h6, h⟩
  | seq ca cb iha ihb =>
    intro m K σ h
    simp only [xcs] at h
    intro base w0 Z φ a w c0 cs hs hM
    refine wpSIn_seq ?_
    refine wpS_mono (iha m _ σ h base w0 Z φ a w c0 cs hs hM) fun e a' cs' w' hl => ?_
    obtain ⟨Z', φ', z, m2, σ2, u, h1, h2, h3, h4, h5, h6, h7⟩ := hl
    cases z with
    | normal =>
      cases e <;> try exact h3.elim
      subst h5
      exact wpS_mono (ihb m2 K σ2 h7 base w0 Z' φ' a' w' { c0 with mode := u } cs h4 h6) fun e a cs' w hl => LiftS.mono h1 h2 hl
    | exit i => cases e <;> try exact h3.elim
                exact ⟨Z', φ', .exit i, m2, σ2, u, h1, h2, h3, h4, h5, h6, h7⟩
    | ret => cases e <;> try exact h3.elim
             exact ⟨Z', φ', .ret, m2, σ2, u, h1, h2, h3, h4, h5, h6, h7⟩
    | panic v => cases e <;> try exact h3.elim
                 exact ⟨Z', φ', .panic v, m2, σ2, u, h1, h2, h3, h4, h5, h6, h7⟩
  | cond cd ca cb iha ihb =>
    intro m K σ h
    simp only [xcs] at h
    split at h
    · rename_i t ht
      rw [fork_iff] at h
      intro base w0 Z φ a w c0 cs hs hM
      refine wpSIn_cond (ev_bool hs.heap.gl hs.fr ht) ?_
      cases t with
      | true => simp only [if_true]; exact swpS_lit ht (iha m K _ (h.1 rfl)) base w0 Z φ a w c0 cs hs hM
      | false => simp only [Bool.false_eq_true, if_false]; exact swpS_lit ht (ihb m K _ (h.2 rfl)) base w0 Z φ a w c0 cs hs hM
    · exact h.elim
  | skip => intro m K σ h; exact dflt _ m K σ h
  | block _ _ _ => intro m K σ h; exact dflt _ m K σ h
  | loop _ _ => intro m K σ h; exact dflt _ m K σ h
  | rangeFunc _ _ _ _ _ _ => intro m K σ h; exact dflt _ m K σ h
  | exit _ => intro m K σ h; exact dflt _ m K σ h
  | scope _ _ => intro m K σ h; exact dflt _ m K σ h
  | label _ => intro m K σ h; exact dflt _ m K σ h
  | goto _ => intro m K σ h; exact dflt _ m K σ h
  | ret => intro m K σ h; exact dflt _ m K σ h
  | refuse _ => intro m K σ h; exact dflt _ m K σ h

def xfinD (P : Program) (fn : Func) (R : AE → AMode → Heap → Nat → Prop) : AX → AMode → St → Prop := fun x m σ => match σ.df with
  | [] => match x with
    | .normal => xretK P fn (fun e H nx => R e m H nx) σ.fr σ.H σ.nx
    | .ret => xretK P fn (fun e H nx => R e m H nx) σ.fr σ.H σ.nx
    | .panic v => R (.panic v) m σ.H σ.nx
    | .exit _ => False
  | _ => False
def xcallD (P : Program) (call : CallX) (k : FuncId) (avs : List AV) (m : AMode) (H : Heap) (nx : Nat) (R : AE → AMode → Heap → Nat → Prop) : Prop :=
  match P.funcs[k]? with
  | none => False
  | some fn => match fn.body with
    | none => False
    | some c => xcs P (avs.length + (fn.ntmps - avs.length)) call c m (xfinD P fn R) ⟨fr0 avs, H, nx, []⟩
theorem xcallD_ok {P : Program} {call : CallX} (hc : CallXOk P call) {k : FuncId} {avs : List AV} {m : AMode} {H : Heap} {nx : Nat} {R : AE → AMode → Heap → Nat → Prop} (h : xcallD P call k avs m H nx R) : SCallD P k avs m H nx R := by
  unfold xcallD at h
  split at h
  · exact h.elim
  rename_i fn hf
  split at h
  · exact h.elim
  rename_i c hb
  intro base w0 Z φ w us u hH hr hM
  refine callsDIn_of_wpSIn (F := Wf none) hf hb trivial fun c0 cs hu => ?_
  refine wpS_mono (xcs_ok hc c m _ _ h base w0 Z φ _ w c0 cs ⟨frZeroRel hr _, by simp [hr.1], DfRel.nil _ _ _ _, hH⟩ (by rw [hu]; exact hM)) fun e' a cs' w' hl => ?_
  obtain ⟨Z', φ', y, m2, σ2, u2, h1, h2, h3, h4, h5, h6, h7⟩ := hl
  unfold xfinD at h7
  split at h7
  rotate_left
  · exact h7.elim
  rename_i hdf
  have nodf : a.defers = [] := by
    have := h4.df
    rw [hdf] at this
    exact this.eq_nil
  cases y with
  | normal =>
    cases e' <;> try exact h3.elim
    obtain ⟨v, hv, hR⟩ := xretK_ok h7
    obtain ⟨q, hq, hrq⟩ := run_results h4.heap h4.fr hv
    exact ⟨nodf, u2, h5, q, hq, Z', φ', .ret v, m2, σ2.H, σ2.nx, h1, h2, hrq, h6, h4.heap, hR⟩
  | ret =>
    cases e' <;> try exact h3.elim
    obtain ⟨v, hv, hR⟩ := xretK_ok h7
    obtain ⟨q, hq, hrq⟩ := run_results h4.heap h4.fr hv
    exact ⟨nodf, u2, h5, q, hq, Z', φ', .ret v, m2, σ2.H, σ2.nx, h1, h2, hrq, h6, h4.heap, hR⟩
  | panic v =>
    cases e' <;> try exact h3.elim
    exact ⟨nodf, u2, h5, Z', φ', .panic v, m2, σ2.H, σ2.nx, h1, h2, h3, h6, h4.heap, h7⟩
  | exit i => exact h7.elim
theorem SCallD.mono {P : Program} {k : FuncId} {avs : List AV} {m : AMode} {H : Heap} {nx : Nat} {R R' : AE → AMode → Heap → Nat → Prop} (h : SCallD P k avs m H nx R) (hr : ∀ x n G q, R x n G q → R' x n G q) : SCallD P k avs m H nx R' :=
  fun base w0 Z φ w us u hH hr1 hM => (h base w0 Z φ w us u hH hr1 hM).mono fun e u' w' ⟨Z', φ', x, m', H', nx', g1, g2, g3, g4, g5, g6⟩ => ⟨Z', φ', x, m', H', nx', g1, g2, g3, g4, g5, hr _ _ _ _ g6⟩

/-- What is asked as the function is left. -/
def xleave (P : Program) (call : CallX) (fn : Func) (F : Fr) (R : AE → Heap → Nat → Prop) : List ADef → AMode → Heap → Nat → Prop
  | [], m, H, nx => match m with
    | .ret => xretK P fn R F H nx
    | .panic v => R (.panic v) H nx
    | .recd _ => False
  | .many :: ds, m, H, nx => xleave P call fn F R ds m H nx
  | .mark b :: ds, m, H, nx => match H.get b with
    | some .dfs => xleave P call fn F R ds m (H.del b) nx
    | _ => False
  | .call f args :: ds, m, H, nx => xcallD P call f args m H nx fun x m' H' nx' =>
      match x with
      | .ret _ => xleave P call fn F R ds (settleA m') H' nx'
      | .panic v => match m' with
        | .ret => xleave P call fn F R ds (.panic v) H' nx'
        | _ => False
theorem xleave_ok {P : Program} {call : CallX} (hc : CallXOk P call) {fn : Func} {F : Fr} {R : AE → Heap → Nat → Prop} : ∀ (ds : List ADef) (m : AMode) (H : Heap) (nx : Nat), xleave P call fn F R ds m H nx → LeavesA P fn F R ds m H nx
  | [], m, H, nx, h => by
    unfold LeavesA
    cases m with
    | ret => exact xretK_ok h
    | panic v => exact h
    | recd v => exact h.elim
  | .many :: ds, m, H, nx, h => by
    unfold xleave at h
    unfold LeavesA
    exact xleave_ok hc ds _ _ _ h
  | .mark b :: ds, m, H, nx, h => by
    unfold xleave at h
    split at h
    · rename_i hb
      unfold LeavesA
      exact ⟨hb, xleave_ok hc ds _ _ _ h⟩
    · exact h.elim
  | .call f args :: ds, m, H, nx, h => by
    unfold xleave at h
    unfold LeavesA
    refine (xcallD_ok hc h).mono fun x n G q hx => ?_
    cases x with
    | ret v => exact xleave_ok hc ds _ _ _ hx
    | panic v =>
      cases n with
      | ret => exact xleave_ok hc ds _ _ _ hx
      | panic _ => exact hx.elim
      | recd _ => exact hx.elim
def xbody (P : Program) (call : CallX) (fn : Func) (R : AE → Heap → Nat → Prop) : AX → St → Prop := fun x σ =>
  match x with
  | .normal => xleave P call fn σ.fr R σ.df .ret σ.H σ.nx
  | .ret => xleave P call fn σ.fr R σ.df .ret σ.H σ.nx
  | .panic v => xleave P call fn σ.fr R σ.df (.panic v) σ.H σ.nx
  | .exit _ => False
theorem xbody_ok {P : Program} {call : CallX} (hc : CallXOk P call) {fn : Func} {R : AE → Heap → Nat → Prop} {x : AX} {σ : St} (h : xbody P call fn R x σ) : BodyQ P fn R x σ := by
  cases x with
  | normal => exact xleave_ok hc _ _ _ _ h
  | ret => exact xleave_ok hc _ _ _ _ h
  | panic v => exact xleave_ok hc _ _ _ _ h
  | exit i => exact h.elim


structure Tab where
  fn : FuncId → Option (List AV → Heap → Nat → (AE → Heap → Nat → Prop) → Prop)
  lp : FuncId → Nat → LoopX
  wr : Bool := false
  nm : Bool := false
structure TabOk (P : Program) (T : Tab) : Prop where
  fn : ∀ k c, T.fn k = some c → ∀ avs H nx R, c avs H nx R → SCall P k avs H nx R
  lp : ∀ k fn c, P.funcs[k]? = some fn → fn.body = some c → ∀ n0, LoopsOk P fn.ntmps n0 (T.lp k n0) 0 (loopsOf c)

/-- A call whose code is walked through. -/
def xinl (P : Program) (call : CallX) (lp : FuncId → Nat → LoopX) : FuncId → List AV → Heap → Nat → (AE → Heap → Nat → Prop) → Prop := fun k avs H nx R =>
  match P.funcs[k]? with
  | none => False
  | some fn => match fn.body with
    | none => False
    | some c => req (Nat.ble avs.length fn.ntmps) (xc P fn.ntmps call (lp k nx) c 0 (xbody P call fn R) ⟨fr0 avs, H, nx, []⟩)
theorem xinl_ok {P : Program} {call : CallX} {lp : FuncId → Nat → LoopX} (hc : CallXOk P call) {k : FuncId} (hl : ∀ fn c, P.funcs[k]? = some fn → fn.body = some c → ∀ n0, LoopsOk P fn.ntmps n0 (lp k n0) 0 (loopsOf c)) {avs : List AV} {H : Heap} {nx : Nat} {R : AE → Heap → Nat → Prop} (h : xinl P call lp k avs H nx R) : SCall P k avs H nx R := by
  unfold xinl at h
  split at h
  · exact h.elim
  rename_i fn hf
  split at h
  · exact h.elim
  rename_i c hb
  rw [req_iff] at h
  have hle : avs.length ≤ fn.ntmps := Nat.le_of_ble_eq_true h.1
  refine scall_of hf hb ?_
  have e : avs.length + (fn.ntmps - avs.length) = fn.ntmps := by omega
  rw [e]
  exact (xc_ok hc c 0 _ _ (hl fn c hf hb nx) h.2).mono fun x σ hx => xbody_ok hc hx

/-! ### Rounds -/
def noLoop : LoopX := fun _ _ _ => False
theorem noLoop_ok {P : Program} {N n0 j : Nat} {l : List Code} : LoopsOk P N n0 noLoop j l := fun i c hi σ Q h => h.elim
def roundK (R : AE → Heap → Nat → Prop) : Option (AE × Heap × Nat) → Prop
  | some (e, H, nx) => R e H nx
  | none => False
def xround2 (P : Program) (N : Nat) (call : CallX) (b : Nat) (body : Code) (R : AE → Heap → Nat → Prop) : AX → St → Prop
  | .normal, σ => match σ.H.get b with
    | some (.lp .ready pend F' N' ps' asg' body') => xc P N call noLoop body 0 (fun x τ => roundK R (roundOut τ.H b τ.nx x)) ⟨σ.fr, σ.H.set b (.lp .busy pend F' N' ps' asg' body'), σ.nx, σ.df⟩
    | _ => False
  | _, _ => False
def xround (P : Program) (call : CallX) (b : Nat) (avs : List AV) (H : Heap) (nx : Nat) (R : AE → Heap → Nat → Prop) : Prop :=
  match H.get b with
  | some (.lp .ready _ F N ps asg body) => req (plainB asg && plainB body && Nat.beq avs.length ps.length && ps.all (fun p => Nat.blt p N))
    (xc P N call noLoop asg 0 (xround2 P N call b body R) ⟨params F ps avs, H, nx, []⟩)
  | _ => False
theorem xround_ok {P : Program} {call : CallX} (hc : CallXOk P call) {b : Nat} {avs : List AV} {H : Heap} {nx : Nat} {R : AE → Heap → Nat → Prop} (h : xround P call b avs H nx R) : SYield P b avs H nx R := by
  intro base w0 Z φ w us l hH hr hl
  unfold xround at h
  split at h
  rotate_left
  · exact h.elim
  rename_i pend0 F N ps asg body hget
  rw [req_iff] at h
  obtain ⟨hchk, h⟩ := h
  simp only [Bool.and_eq_true, List.all_eq_true] at hchk
  obtain ⟨⟨⟨hpa, hpb⟩, hlen⟩, hlt⟩ := hchk
  have hlen := Nat.eq_of_beq_eq_true hlen
  have hlt : ∀ p ∈ ps, p < N := fun p hp => by have := hlt p hp; exact Nat.le_of_ble_eq_true this
  obtain ⟨hz, r, hr0, e1, e2, e3, e4, e5, e6, e7⟩ := hH.ownAt hget hl
  have hus : us.size = ps.length := by rw [hr.1, hlen]
  refine ⟨r, hr0, by rw [e4, hus]; simp, ?_⟩
  have hz1 : (r.params.zip us).foldl (fun tmps (t, a) => tmps.setIfInBounds t a) r.tmps = (ps.zip us.toList).foldl (fun tmps (t, a) => tmps.setIfInBounds t a) r.tmps := by
    rw [← Array.foldl_toList, Array.toList_zip, e4]
  refine roundIn_of_wpIn trivial ?_
  rw [hz1, e5, e6]
  have hF := params_rel ps avs us.toList F r.tmps hlen (by simpa using hus) (fun i v u a c => hr.2 i v u a (by simpa using c)) (fun p hp => by rw [e3]; exact hlt p hp) e7
  refine wpIn_mono ((xc_ok (n0 := nx) hc asg 0 _ ⟨params F ps avs, H, nx, []⟩ noLoop_ok h) (some l.B) base w0 Z φ { tmps := _, defers := [] } w (.inr hpa) ⟨hF, by rw [foldl_params_size]; exact e3, DfRel.nil _ _ _ _, hH⟩) fun ex a1 w1 hl1 => ?_
  obtain ⟨Z1, φ1, x1, σ1, g1, g2, g3, g4, g5⟩ := hl1
  unfold xround2 at g5
  split at g5
  rotate_left
  · exact g5.elim
  rename_i hx1 _
  split at g5
  rotate_left
  · exact g5.elim
  rename_i pend1 F' N' ps' asg' body' hget1
  cases ex <;> try exact g3.elim
  have gp : PLe φ φ1 := fun c y hy => g2 c y (hH.fnx c y hy) hy
  have hl1 := gp _ _ hl
  obtain ⟨r1, hr1, f1, f2, f3, f4, f5, f6, f7, hH1⟩ := g4.heap.turn (st' := .busy) (pend' := pend1) hget1 hl1
  refine ⟨_, run_beginRound hr1 f1, ?_⟩
  have hrec : ({ r1 with state := .busy } : Loop) = { r1 with state := .busy, pending := pend1 } := by rw [← f2]
  rw [hrec]
  refine wpIn_mono ((xc_ok (n0 := σ1.nx) hc body 0 _ ⟨σ1.fr, _, σ1.nx, σ1.df⟩ noLoop_ok g5) (some l.B) base w0 Z1 φ1 a1 _ (.inr hpb) ⟨g4.fr, g4.size, g4.df, hH1⟩) fun ex a2 w2 hl2 => ?_
  obtain ⟨Z2, φ2, x2, σ2, k1, k2, k3, k4, k5⟩ := hl2
  have gp2 : PLe φ1 φ2 := fun c y hy => k2 c y (g4.heap.fnx c y hy) hy
  have hl2 := gp2 _ _ hl1
  unfold roundOut at k5
  split at k5
  · rename_i st3 pend3 F3 N3 ps3 asg3 body3 hget3
    cases x2 with
    | normal =>
      cases ex <;> try exact k3.elim
      obtain ⟨r2, hr2, _, _, _, _, _, _, _, hH2⟩ := k4.heap.turn (st' := .ready) (pend' := none) hget3 hl2
      exact ⟨_, _, run_endRound none hr2, Z2, φ2, .ret (.bool true), _, _, g1.trans k1, gp.trans gp2, .bool _, hH2, k5⟩
    | ret =>
      cases ex <;> try exact k3.elim
      obtain ⟨r2, hr2, _, _, _, _, _, _, _, hH2⟩ := k4.heap.turn (st' := .done) (pend' := some .ret) hget3 hl2
      exact ⟨_, _, run_endRound (some .ret) hr2, Z2, φ2, .ret (.bool false), _, _, g1.trans k1, gp.trans gp2, .bool _, hH2, k5⟩
    | exit id =>
      cases ex <;> try exact k3.elim
      have k3 : id = _ := k3
      subst k3
      obtain ⟨r2, hr2, _, _, _, _, _, _, _, hH2⟩ := k4.heap.turn (st' := .done) (pend' := some (.exit id)) hget3 hl2
      exact ⟨_, _, run_endRound (some (.exit id)) hr2, Z2, φ2, .ret (.bool false), _, _, g1.trans k1, gp.trans gp2, .bool _, hH2, k5⟩
    | panic v => exact k5.elim
  · exact k5.elim

def xcall (P : Program) (T : Tab) : Nat → CallX
  | 0 => ⟨fun _ _ _ _ _ => False, T.wr, T.nm⟩
  | n + 1 => ⟨fun t avs H nx R => match t with
    | .f k => match T.fn k with
      | some c => c avs H nx R
      | none => xinl P (xcall P T n) T.lp k avs H nx R
    | .y b => xround P (xcall P T n) b avs H nx R, T.wr, T.nm⟩
theorem xcall_ok {P : Program} {T : Tab} (hT : TabOk P T) : ∀ n, CallXOk P (xcall P T n)
  | 0 => fun k avs H nx R h => False.elim h
  | n + 1 => fun t avs H nx R h => by
    unfold xcall at h
    dsimp only at h
    split at h
    · split at h
      · rename_i c hk
        exact hT.fn _ c hk avs H nx R h
      · exact xinl_ok (xcall_ok hT n) (fun fn c hf hb => hT.lp _ fn c hf hb) h
    · exact xround_ok (xcall_ok hT n) h
end Go.Lom

/- Functions of typed contents: contracts, how they are proved and how they are used. No conditions of its own. -/
set_option linter.unusedSimpArgs false
set_option linter.unusedVariables false
set_option linter.constructorNameAsVariable false
namespace Go.Lom
open Go.RowKit

/-- A heap's blocks, frozen. -/
noncomputable def frz (Z : ZMap) (φ : PMap) (H : Heap) (w : World) : ZMap := fun B =>
  match Z B with
  | some o => some o
  | none => open Classical in if ∃ b x l, H.get b = some x ∧ φ b = some l ∧ l.B = B then w.heap[B]? else none

def selN (l : List Nat) (H : Heap) : Heap := H.filter fun p => l.contains p.1
def dropN (l : List Nat) (H : Heap) : Heap := H.filter fun p => !l.contains p.1
theorem get_filter (f : Nat → Bool) : ∀ (H : Heap) (b : Nat), Heap.get (H.filter fun p => f p.1) b = if f b = true then H.get b else none
  | [], b => by simp [Heap.get]
  | (c, x) :: H, b => by
    have ih := get_filter f H b
    rw [List.filter_cons]
    split
    · rename_i hf
      simp only [Heap.get]
      by_cases hb : b = c
      · subst hb; simp only [if_true]; rw [if_pos hf]
      · rw [if_neg hb, if_neg hb]; exact ih
    · rename_i hf
      rw [ih]
      simp only [Heap.get]
      by_cases hb : b = c
      · subst hb; rw [if_neg hf, if_neg hf]
      · rw [if_neg hb]
theorem get_selN (l : List Nat) (H : Heap) (b : Nat) : (selN l H).get b = if l.contains b = true then H.get b else none := get_filter (fun b => l.contains b) H b
theorem get_dropN (l : List Nat) (H : Heap) (b : Nat) : (dropN l H).get b = if l.contains b = true then none else H.get b := by
  have := get_filter (fun b => !l.contains b) H b
  unfold dropN
  rw [this]
  cases l.contains b <;> simp

section
variable {base : Nat → Prop} {w0 : Start} {Z Z' : ZMap} {φ φ' : PMap} {H : Heap} {nx : Nat} {w w' : World}

theorem frz_le (Z : ZMap) (φ : PMap) (H : Heap) (w : World) : ZLe Z (frz Z φ H w) := fun B o h => by unfold frz; rw [h]
theorem frz_own {b : Nat} {x : Blk} {l : Loc} (hb : H.get b = some x) (hl : φ b = some l) (hz : Z l.B = none) : frz Z φ H w l.B = w.heap[l.B]? := by
  unfold frz
  rw [hz]
  simp only
  rw [if_pos ⟨b, x, l, hb, hl, rfl⟩]
theorem frz_froze (h : HRel base w0 Z φ H nx w) : Froze φ H w Z (frz Z φ H w) := ⟨frz_le _ _ _ _, fun b x l hb hl => frz_own hb hl (h.ownAt hb hl).1⟩
theorem frz_cases (B : Nat) : frz Z φ H w B = Z B ∨ (Z B = none ∧ (∃ b x l, H.get b = some x ∧ φ b = some l ∧ l.B = B) ∧ frz Z φ H w B = w.heap[B]?) := by
  unfold frz
  cases hz : Z B with
  | some o => exact .inl rfl
  | none =>
    simp only
    split
    · rename_i hc; exact .inr ⟨trivial, hc, rfl⟩
    · exact .inl rfl
theorem frz_z (h : HRel base w0 Z φ H nx w) : ∀ B o, frz Z φ H w B = some o → w.heap[B]? = some o := fun B o hB => by
  rcases frz_cases (Z := Z) (φ := φ) (H := H) (w := w) B with h1 | ⟨_, _, h1⟩
  · rw [h1] at hB; exact h.z B o hB
  · rw [h1] at hB; exact hB

/-- All is frozen, nothing is kept. -/
theorem HRel.frozen (h : HRel base w0 Z φ H nx w) {φ0 : PMap} (h0 : ∀ b x, φ0 b = some x → b < 0) : HRel base w0 (frz Z φ H w) φ0 [] 0 w := by
  refine ⟨h.below, frz_z h, fun B hB hu => ?_, h.gl.mono (frz_le _ _ _ _), h0, fun b x hb => by simp [Heap.get] at hb, fun b l hb => by have := h0 b l hb; omega, fun b x hb => by simp [Heap.get] at hb, fun b b' x x' l l' _ hb => by simp [Heap.get] at hb, fun b x l hb => by simp [Heap.get] at hb⟩
  rcases frz_cases (Z := Z) (φ := φ) (H := H) (w := w) B with h1 | ⟨_, ⟨b, x, l, hb, hl, rfl⟩, _⟩
  · rw [h1]; exact h.z0 B hB hu
  · have := h.ob b x l hb hl hu; omega

/-- Where nothing of memory was ever turned. -/
theorem HRel.start0 {Zf : ZMap} (gl : GlobOk Zf) (hz : ∀ B o, Zf B = some o → w.heap[B]? = some o) : HRel (fun _ => True) ⟨w, Zf⟩ Zf (fun _ => none) [] 0 w := by
  refine ⟨KeptW.refl _ _, hz, fun _ _ _ => rfl, gl, ?_, ?_, ?_, ?_, ?_, ?_⟩
  · intro b x h; exact nomatch h
  · intro b x h; simp [Heap.get] at h
  · intro b l h; exact nomatch h
  · intro b x h; simp [Heap.get] at h
  · intro b b' x x' l l' _ h; simp [Heap.get] at h
  · intro b x l h; simp [Heap.get] at h

/-- The same heap in a later world in which all of its blocks are as they were. -/
theorem HRel.later (h : HRel base w0 Z φ H nx w) (hk : KeptW (fun _ => True) w w') : HRel base w0 Z φ H nx w' := by
  have hb : ∀ B, B < w.heap.size → w'.heap[B]? = w.heap[B]? := fun B hB => hk.block B hB trivial
  refine ⟨⟨hk.os.trans h.below.os, hk.tape.trans h.below.tape, hk.output.trans h.below.output, Nat.le_trans h.below.size hk.size, fun B hB hu => by rw [hb B (Nat.lt_of_lt_of_le hB h.below.size)]; exact h.below.block B hB hu⟩,
    fun B o hB => ?_, h.z0, h.gl, h.fnx, h.hnx, fun b l hl => Nat.lt_of_lt_of_le (h.flt b l hl) hk.size, fun b x hx => ?_, h.inj, h.ob⟩
  · have := h.z B o hB
    have hlt : B < w.heap.size := by
      rcases Nat.lt_or_ge B w.heap.size with hlt | hge
      · exact hlt
      · rw [Array.getElem?_eq_none hge] at this; cases this
    rw [hb B hlt]; exact this
  · rcases h.own' b x hx with hg | ⟨l, hl, hz, hr⟩
    · exact .inl hg
    · exact .inr ⟨l, hl, hz, hr.mono (ZLe.refl _) (PLe.refl _) (hb l.B (h.flt _ _ hl))⟩
end

/-! ### Contents without lists -/
def Ty.flat : Ty → Bool
  | .i _ | .b | .s => true
  | .sl _ => false
  | .pr x y => x.flat && y.flat
  | .ar _ t => t.flat
theorem enc_flat {Z Z' : ZMap} {φ φ' : PMap} : ∀ (t : Ty), t.flat = true → ∀ (x : t.den) (j : Nat) (v : AV) (u : Value), (t.enc x)[j]? = some v → Rep Z φ v u → Rep Z' φ' v u
  | .i k, _, n, j, v, u, hj, h => by
    cases j <;> simp [Ty.enc] at hj
    subst hj; cases h; exact .int _ _
  | .b, _, n, j, v, u, hj, h => by
    cases j <;> simp [Ty.enc] at hj
    subst hj; cases h; exact .bool _
  | .s, _, n, j, v, u, hj, h => by
    cases j <;> simp [Ty.enc] at hj
    subst hj; cases h; exact .str _
  | .sl t, hf, _, _, _, _, _, _ => by cases hf
  | .pr a b, hf, p, j, v, u, hj, h => by
    simp only [Ty.flat, Bool.and_eq_true] at hf
    simp only [Ty.enc] at hj
    by_cases hlt : j < (a.enc p.1).length
    · rw [List.getElem?_append_left hlt] at hj
      exact enc_flat a hf.1 p.1 j v u hj h
    · rw [List.getElem?_append_right (by omega)] at hj
      exact enc_flat b hf.2 p.2 _ v u hj h
  | .ar n t, hf, xs, j, v, u, hj, h => by
    simp only [Ty.enc] at hj
    obtain ⟨y, _, i, hi⟩ := flatMap_cell _ j v hj
    exact enc_flat t hf y i v u hi h
theorem val_flat {Z Z' : ZMap} {φ φ' : PMap} (t : Ty) (hf : t.flat = true) (x : t.den) {u : Value} (h : Rep Z φ (t.val x) u) : Rep Z' φ' (t.val x) u := by
  cases t with
  | i k => exact enc_flat (.i k) hf x 0 _ u rfl h
  | b => exact enc_flat .b hf x 0 _ u rfl h
  | s => exact enc_flat .s hf x 0 _ u rfl h
  | sl t => cases hf
  | pr a b =>
    simp only [Ty.val] at h ⊢
    cases h with
    | agg hl h => exact .agg hl fun i v u a b => enc_flat _ hf _ i v u a (h i v u a b)
  | ar n t =>
    have h := Rep.ofAr (show Rep Z φ (.ar t x) u from h)
    apply Rep.toAr
    generalize hc : AV.agg (x.flatMap t.enc) = a at h
    cases h <;> cases hc
    rename_i us hl h
    refine .agg hl fun i v u a b => ?_
    obtain ⟨y, _, k, hk⟩ := flatMap_cell _ i v a
    exact enc_flat t hf y k v u hk (h i v u a b)

/-! ### Contracts -/
/-- The values of a result. -/
def untup (n : Nat) (v : AV) : List AV :=
  match n with
  | 1 => [v]
  | _ => match v with
    | .tup vs => vs
    | _ => [.undef]
def resK (rs : List Ty) (K : dens rs → Prop) : AE → Heap → Nat → Prop := fun x H _ =>
  match x with
  | .ret v => match decVs H rs (untup rs.length v) with
    | some (r, ps) => allP ps (K r)
    | none => False
  | .panic _ => False

abbrev Spec (as : List AT) (rs : List Ty) := densA as → (dens rs → Prop) → Prop
def PCok (P : Program) (k : FuncId) (as : List AT) (rs : List Ty) (spec : Spec as rs) : Prop :=
  ∀ x K, spec x K → SCall P k (valsA as x) [] 0 fun e H nx => H = [] ∧ nx = 0 ∧ ∃ r, e = .ret (tupOf (vals rs r)) ∧ K r

theorem vals_length : ∀ (ts : List Ty) (x : dens ts), (vals ts x).length = ts.length
  | [], _ => rfl
  | t :: ts, x => by simp [vals, vals_length ts]
theorem vals_get (ts : List Ty) (x : dens ts) (h : ts.length ≠ 1) : tupOf (vals ts x) = .tup (vals ts x) := by
  have := vals_length ts x
  unfold tupOf
  split
  · rename_i v hv; rw [hv] at this; simp at this; omega
  · rfl

/-- The values of a result, one by one or as a tuple. -/
theorem rep_tup {Z Z' : ZMap} {φ φ' : PMap} {rs : List Ty} {r : dens rs} {v : AV} {u : Value} {vs : List AV} (hv : vs = untup rs.length v) (hr : Rep Z φ v u)
    (hall : ∀ us, Reps Z φ vs us → Reps Z' φ' (vals rs r) us) (hne : rs.length ≠ 1 → ∃ ws, v = .tup ws) : Rep Z' φ' (tupOf (vals rs r)) u := by
  by_cases h1 : rs.length = 1
  · match rs, h1 with
    | [t], _ =>
      have hv : vs = [v] := hv
      have := hall #[u] ⟨by rw [hv]; rfl, fun i x y hx hy => by
        rw [hv] at hx
        cases i <;> simp at hx hy
        subst hx hy; exact hr⟩
      exact this.2 0 _ u rfl rfl
  · obtain ⟨ws, rfl⟩ := hne h1
    have hv : vs = ws := by
      rw [hv]; unfold untup
      split
      · rename_i h; exact absurd h h1
      · rfl
    subst hv
    rw [vals_get rs r h1]
    cases hr with
    | tup hl h => 
      have := hall _ ⟨hl, h⟩
      exact .tup this.1 this.2

theorem untup_tup {rs : List Ty} {v : AV} {H : Heap} {r : dens rs} {ps : List Bool} (h : decVs H rs (untup rs.length v) = some (r, ps)) : rs.length ≠ 1 → ∃ ws, v = .tup ws := by
  intro hne
  have hl : (untup rs.length v).length = rs.length := by
    have key : ∀ (ts : List Ty) (vs : List AV) (x : dens ts) (qs : List Bool), decVs H ts vs = some (x, qs) → vs.length = ts.length := by
      intro ts
      induction ts with
      | nil => intro vs x qs hd; cases vs <;> simp [decVs] at hd ⊢
      | cons t ts ih =>
        intro vs x qs hd
        cases vs with
        | nil => simp [decVs] at hd
        | cons v vs =>
          simp only [decVs] at hd
          unfold pairD at hd
          split at hd
          · split at hd
            · rename_i y q hy; simp [ih vs y q hy]
            · cases hd
          · cases hd
    exact key _ _ _ _ h
  unfold untup at hl
  split at hl
  · rename_i h1; exact absurd h1 hne
  · split at hl
    · exact ⟨_, rfl⟩
    · simp at hl; exact absurd hl.symm hne

/-- A contract, proved by the code. -/
theorem pc_of {P : Program} {call : CallX} {lp : FuncId → Nat → LoopX} (hc : CallXOk P call) {k : FuncId} (hl : ∀ fn c, P.funcs[k]? = some fn → fn.body = some c → ∀ n0, LoopsOk P fn.ntmps n0 (lp k n0) 0 (loopsOf c)) {as : List AT} {rs : List Ty} {spec : Spec as rs}
    (h : ∀ x K, spec x K → xinl P call lp k (valsA as x) [] 0 (resK rs K)) : PCok P k as rs spec := by
  intro x K hx base w0 Z φ w us hH hr
  refine (xinl_ok hc hl (h x K hx) base w0 Z φ w us hH hr).mono fun e w' ⟨Z', φ', y, H', nx', h1, h2, h3, h4, h5⟩ => ?_
  unfold resK at h5
  split at h5
  · rename_i v
    split at h5
    · rename_i r ps hd
      rw [allP_iff] at h5
      cases e <;> try exact h3.elim
      have h3 : Rep Z' φ' v _ := h3
      have hf := frz_froze h4
      refine ⟨frz Z' φ' H' w', φ, .ret (tupOf (vals rs r)), [], 0, h1.trans hf.1, PLe.refl _, ?_, h4.frozen hH.fnx, rfl, rfl, r, rfl, h5.2⟩
      exact rep_tup rfl h3 (fun us hus => decVs_ok h4.ownR hf rs _ r ps hd h5.1 us hus) (untup_tup hd)
    · exact h5.elim
  · exact h5.elim

def names1 : AV → List Nat
  | .sl b _ _ _ _ => [b]
  | .ptr b _ _ => [b]
  | .mp b => [b]
  | _ => []
def namesA : AV → List Nat
  | .agg cs => cs.flatMap names1
  | v => names1 v
def flatL (rs : List Ty) : Bool := rs.all Ty.flat
/-- A call by its contract ('none': the arguments are none of it). -/
def pcD (as : List AT) (rs : List Ty) (spec : Spec as rs) (avs : List AV) (H : Heap) (nx : Nat) (R : AE → Heap → Nat → Prop) (other : Prop) : Prop :=
  match flatL rs with
  | true => match decAs H as avs with
    | some (x, ps) => allP ps (spec x fun r => R (.ret (tupOf (vals rs r))) H nx)
    | none => other
  | false => match decAs (selN (avs.flatMap namesA) H) as avs with
    | some (x, ps) => allP ps (spec x fun r => R (.ret (tupOf (vals rs r))) (dropN (avs.flatMap namesA) H) nx)
    | none => other

theorem reps_free {Z Z' : ZMap} (hZ : ZLe Z Z') {φ φ' : PMap} : ∀ (ts : List Ty) (x : dens ts) (us : Array Value), Reps Z φ (vals ts x) us → Reps Z' φ' (vals ts x) us := by
  intro ts x us h
  refine ⟨h.1, fun i v u hv hu => ?_⟩
  have key : ∀ (ts : List Ty) (x : dens ts) (i : Nat) (v : AV), (vals ts x)[i]? = some v → ∃ (t : Ty) (y : t.den), v = t.val y := by
    intro ts
    induction ts with
    | nil => intro x i v hv; simp [vals] at hv
    | cons t ts ih =>
      intro x i v hv
      cases i with
      | zero => simp [vals] at hv; exact ⟨t, x.1, hv.symm⟩
      | succ i => exact ih x.2 i v (by simpa [vals] using hv)
  obtain ⟨t, y, rfl⟩ := key ts x i v hv
  exact val_free hZ t y (h.2 i _ u hv hu)
theorem reps_flat {Z Z' : ZMap} {φ φ' : PMap} (ts : List Ty) (hf : flatL ts = true) (x : dens ts) (us : Array Value) (h : Reps Z φ (vals ts x) us) : Reps Z' φ' (vals ts x) us := by
  refine ⟨h.1, fun i v u hv hu => ?_⟩
  have key : ∀ (ts : List Ty), flatL ts = true → ∀ (x : dens ts) (i : Nat) (v : AV), (vals ts x)[i]? = some v → ∃ (t : Ty) (y : t.den), t.flat = true ∧ v = t.val y := by
    intro ts
    induction ts with
    | nil => intro _ x i v hv; simp [vals] at hv
    | cons t ts ih =>
      intro hf x i v hv
      simp only [flatL, List.all_cons, Bool.and_eq_true] at hf
      cases i with
      | zero => simp [vals] at hv; exact ⟨t, x.1, hf.1, hv.symm⟩
      | succ i => exact ih hf.2 x.2 i v (by simpa [vals] using hv)
  obtain ⟨t, y, ht, rfl⟩ := key ts hf x i v hv
  exact val_flat t ht y (h.2 i _ u hv hu)
theorem untup_vals (ts : List Ty) (x : dens ts) : untup ts.length (tupOf (vals ts x)) = vals ts x := by
  by_cases h : ts.length = 1
  · match ts, h with
    | [t], _ => rfl
  · rw [vals_get ts x h]
    unfold untup
    split
    · rename_i h1; exact absurd h1 h
    · rfl

theorem pcD_ok {P : Program} {k : FuncId} {other : Prop} {as : List AT} {rs : List Ty} {spec : Spec as rs} (hp : PCok P k as rs spec) {avs : List AV} {H : Heap} {nx : Nat} {R : AE → Heap → Nat → Prop} (h : pcD as rs spec avs H nx R other) (ho : other → SCall P k avs H nx R) : SCall P k avs H nx R := by
  have tupTo : ∀ {Z1 Z2 : ZMap} {φ1 φ2 : PMap} {r : dens rs} {u : Value}, (∀ us, Reps Z1 φ1 (vals rs r) us → Reps Z2 φ2 (vals rs r) us) → Rep Z1 φ1 (tupOf (vals rs r)) u → Rep Z2 φ2 (tupOf (vals rs r)) u := fun {Z1 Z2 φ1 φ2 r u} hall hrep =>
    rep_tup (v := tupOf (vals rs r)) (vs := vals rs r) (untup_vals rs r).symm hrep hall fun hne => ⟨_, vals_get rs r hne⟩
  unfold pcD at h
  split at h
  · rename_i hflat
    split at h
    rotate_left
    · exact ho h
    rename_i x ps hd
    rw [allP_iff] at h
    obtain ⟨hps, h⟩ := h
    intro base w0 Z φ w us hH hr
    have hf := frz_froze hH
    have hstart := HRel.start0 (hH.gl.mono (frz_le _ _ _ _)) (frz_z hH)
    have hargs := decAs_ok (φ' := fun _ => none) hH.ownR hf as avs x ps hd hps us hr
    refine (hp x _ h _ _ _ _ _ us hstart hargs).mono fun e w' ⟨Z1, φ1, y, H1, n1, h1, h2, h3, h4, _, _, r, hyr, hR⟩ => ?_
    subst hyr
    cases e <;> try exact h3.elim
    refine ⟨Z, φ, _, H, nx, ZLe.refl _, PLe.refl _, ?_, hH.later h4.below, hR⟩
    exact tupTo (fun us hus => reps_flat rs hflat r us hus) h3
  · split at h
    rotate_left
    · exact ho h
    rename_i x ps hd
    rw [allP_iff] at h
    obtain ⟨hps, h⟩ := h
    intro base w0 Z φ w us hH hr
    generalize hL : avs.flatMap namesA = L at hd h
    have hS : Sub (selN L H) H := fun b y hy => by
      rw [get_selN] at hy
      split at hy
      · exact hy
      · cases hy
    have hHs := hH.sub hS
    have hf := frz_froze hHs
    have hstart := HRel.start0 (hHs.gl.mono (frz_le _ _ _ _)) (frz_z hHs)
    have hargs := decAs_ok (φ' := fun _ => none) hHs.ownR hf as avs x ps hd hps us hr
    refine (hp x _ h _ _ _ _ _ us hstart hargs).mono fun e w' ⟨Z1, φ1, y, H1, n1, h1, h2, h3, h4, _, _, r, hyr, hR⟩ => ?_
    subst hyr
    cases e <;> try exact h3.elim
    have hl := hH.later h4.below
    have hZ1 : ∀ B, B < w.heap.size → Z1 B = frz Z φ (selN L H) w B := fun B hB => h4.z0 B hB trivial
    refine ⟨Z1, φ, .ret (tupOf (vals rs r)), dropN L H, nx, hf.1.trans h1, PLe.refl _, tupTo (Z2 := Z1) (φ2 := φ) (fun us hus => reps_free (ZLe.refl _) rs r us hus) h3, ⟨hl.below, h4.z, fun B hB hu => ?_, h4.gl, hl.fnx, fun b y hy => ?_, hl.flt, fun b y hy => ?_, fun b b' y y' l l' hne hy hy' => ?_, fun b y l hy => ?_⟩, hR⟩
    · rw [hZ1 B (Nat.lt_of_lt_of_le hB hH.below.size)]
      rcases frz_cases (Z := Z) (φ := φ) (H := selN L H) (w := w) B with g1 | ⟨_, ⟨b, y, l, hb, hl', rfl⟩, _⟩
      · rw [g1]; exact hH.z0 B hB hu
      · have := hHs.ob b y l hb hl' hu; omega
    all_goals rw [get_dropN] at hy
    · split at hy
      · cases hy
      · exact hl.hnx b y hy
    · split at hy
      · cases hy
      · rename_i hc
        rcases hl.own' b y hy with hg | ⟨l, hl1, hz, hrl⟩
        · exact .inl hg
        · refine .inr ⟨l, hl1, ?_, hrl.mono (hf.1.trans h1) (PLe.refl _) rfl⟩
          rw [hZ1 l.B (hH.flt _ _ hl1)]
          rcases frz_cases (Z := Z) (φ := φ) (H := selN L H) (w := w) l.B with g1 | ⟨_, ⟨b2, y2, l2, hb2, hl2, he⟩, _⟩
          · rw [g1]; exact hz
          · rw [get_selN] at hb2
            split at hb2
            · rename_i hc2
              exact absurd he (hH.inj b2 b y2 y l2 l (fun e => hc (e ▸ hc2)) hb2 hy hl2 hl1)
            · cases hb2
    · rw [get_dropN] at hy'
      split at hy
      · cases hy
      · split at hy'
        · cases hy'
        · exact hl.inj b b' y y' l l' hne hy hy'
    · split at hy
      · cases hy
      · exact hl.ob b y l hy

/-- A function that keeps a contract, by what it answers. -/
theorem KnowsTrue.pure {P : Program} {tab : KTab} (h : KnowsTrue P tab) {k : FuncId} {as : List AT} {rs : List Ty} {spec : Spec as rs} (hp : PCok P k as rs spec) (f : List AV → Option AV)
    (hr : ∀ avs r, f avs = some r → ∀ H nx, pcD as rs spec avs H nx (fun x G m => x = .ret r ∧ G = H ∧ m = nx) False) : KnowsTrue P ⟨tab.t, tab.m, (k, f) :: tab.p⟩ :=
  ⟨h.1, h.2.1, fun e he avs r hf H nx => by
    rcases List.mem_cons.1 he with rfl | he
    · exact pcD_ok (other := False) hp (hr avs r hf H nx) fun h => h.elim
    · exact h.2.2 e he avs r hf H nx⟩

/-- A contract, proved by the evaluator. -/
theorem pc_evalT {P : Program} {lf n : Nat} {tab : KTab} (ht : KnowsTrue P tab) {k : FuncId} {b : Bool} (h : (match acallT P lf tab n (.f k) [] [] 0 with | some (.ret (.bool c), _, _) => c == b | _ => false) = true) : PCok P k [] [.b] fun _ K => K (b, ()) := by
  intro x K hK base w0 Z φ w us hH hr
  split at h
  · rename_i c H' nx' he
    have hc : c = b := by simpa using h
    subst hc
    refine (acallT_ok P lf ht n (.f k) _ _ _ _ _ _ he base w0 Z φ w us hH hr).mono fun e w' ⟨Z', φ', y, G, m, h1, h2, h3, h4, h5⟩ => ?_
    obtain ⟨rfl, rfl, rfl⟩ := h5
    refine ⟨frz Z' φ' G w', φ, .ret (.bool c), [], 0, h1.trans (frz_froze h4).1, PLe.refl _, ?_, h4.frozen hH.fnx, rfl, rfl, (c, ()), rfl, hK⟩
    cases e <;> try exact h3.elim
    have h3 : Rep Z' φ' (.bool c) _ := h3
    cases h3
    exact .bool c
  · cases h
theorem pc_eval {P : Program} {lf n : Nat} {k : FuncId} {b : Bool} (h : (match acall P lf n (.f k) [] [] 0 with | some (.ret (.bool c), _, _) => c == b | _ => false) = true) : PCok P k [] [.b] fun _ K => K (b, ()) :=
  pc_evalT ⟨fun k hk => by simp at hk, fun e he => by simp at he, fun e he => by simp at he⟩ h
theorem knows_of {P : Program} {k : FuncId} (h : PCok P k [] [.b] fun _ K => K (true, ())) (H : Heap) (nx : Nat) : SCall P k [] H nx fun x G m => x = .ret (.bool true) ∧ G = H ∧ m = nx :=
  pcD_ok (other := False) h (show pcD [] [.b] _ [] H nx _ False from by simp [pcD, flatL, Ty.flat, decAs, allP, tupOf, vals, Ty.val]) fun h => h.elim
theorem KnowsTrue.cons {P : Program} {tab : KTab} {k : FuncId} (h : KnowsTrue P tab) (hk : PCok P k [] [.b] fun _ K => K (true, ())) : KnowsTrue P ⟨k :: tab.t, tab.m, tab.p⟩ := ⟨fun j hj => by
  rcases List.mem_cons.1 hj with rfl | hj
  · exact knows_of hk
  · exact h.1 j hj, h.2⟩
end Go.Lom

/- Loops: the shape of their states, and how they are proved. No conditions of its own. -/
set_option linter.unusedSimpArgs false
set_option linter.unusedVariables false
set_option linter.constructorNameAsVariable false
namespace Go.Lom
open Go.RowKit

/-- What a slot holds: a value; a list of its own; a variable with a value; a variable with a list of its own; a function with variables. -/
inductive Sh where
  | v (t : Ty)
  | a (t : AT)
  | own (t : Ty)
  | box (t : Ty)
  | boxOwn (t : Ty)
  | fn (k : Nat) (first cap : List Nat)
abbrev Sh.den : Sh → Type
  | .v t => t.den
  | .a t => t.den
  | .own t => List t.den
  | .box t => t.den
  | .boxOwn t => List t.den
  | .fn _ _ _ => Unit
abbrev Shape := List (Nat × Sh)
abbrev shDen : Shape → Type
  | [] => Unit
  | p :: s => p.2.den × shDen s

def put1 (d : Nat) : (h : Sh) → h.den → Fr × Heap × Nat → Fr × Heap × Nat
  | .v t, x, (F, H, n) => ((d, t.val x) :: F, H, n)
  | .a t, x, (F, H, n) => ((d, t.val x) :: F, H, n)
  | .own t, xs, (F, H, n) => ((d, .sl n t.sz 0 xs.length none) :: F, (n, .lst t xs) :: H, n + 1)
  | .box t, x, (F, H, n) => ((d, .ptr n 0 0) :: F, (n, .row t.sz [t.enc x]) :: H, n + 1)
  | .boxOwn t, xs, (F, H, n) => ((d, .ptr (n + 1) 0 0) :: F, (n + 1, .row 1 [[.sl n t.sz 0 xs.length none]]) :: (n, .lst t xs) :: H, n + 2)
  | .fn k first cap, _, (F, H, n) => ((d, .fn (.func k) (first.map F.get) (cap.map F.get)) :: F, H, n)
def putAll : (s : Shape) → shDen s → Fr × Heap × Nat → Fr × Heap × Nat
  | [], _, a => a
  | p :: s, x, a => putAll s x.2 (put1 p.1 p.2 x.1 a)
/-- The state of a shape. -/
def shSt (s : Shape) (x : shDen s) : St :=
  match putAll s x ([], [], 0) with
  | (F, H, n) => ⟨F, H, n, []⟩

/-- The blocks that a state's lists and variables own. -/
def nameL : AV → List Nat
  | .sl b _ _ _ _ => [b]
  | _ => []
def own1 (σ : St) (d : Nat) : Sh → List Nat
  | .own _ => nameL (σ.fr.get d)
  | .box _ => match σ.fr.get d with
    | .ptr b _ _ => [b]
    | _ => []
  | .boxOwn _ => match σ.fr.get d with
    | .ptr b _ _ => match σ.H.get b with
      | some (.row _ [[v]]) => nameL v ++ [b]
      | _ => [b]
    | _ => []
  | _ => []
def ownN (σ : St) : Shape → List Nat
  | [] => []
  | p :: s => own1 σ p.1 p.2 ++ ownN σ s

/-- A list of its own: where it lies ('none': nowhere), and what is in it. -/
def listD (H : Heap) (t : Ty) (v : AV) : Option (List t.den × List Bool) :=
  match v with
  | .nils => some ([], [])
  | .emp => some ([], [])
  | .sl b s off len c => elemsD H t (t.dec []) (.sl b s off len c)
  | _ => none
def sameP : AV → AV → Bool
  | .ptr b i o, .ptr c j p => b == c && i == j && o == p
  | _, _ => false
def samePs : List AV → List AV → Bool
  | [], [] => true
  | x :: l, y :: m => sameP x y && samePs l m
  | _, _ => false
def get1 (σ : St) (Hf : Heap) (d : Nat) : (h : Sh) → Option (h.den × List Bool)
  | .v t => t.decV Hf (σ.fr.get d)
  | .a t => t.dec Hf (σ.fr.get d)
  | .own t => listD σ.H t (σ.fr.get d)
  | .box t => match σ.fr.get d with
    | .ptr b 0 0 => match σ.H.get b with
      | some (.row _ [cs]) => t.dec Hf cs
      | _ => none
    | _ => none
  | .boxOwn t => match σ.fr.get d with
    | .ptr b 0 0 => match σ.H.get b with
      | some (.row _ [[v]]) => listD σ.H t v
      | _ => none
    | _ => none
  | .fn k first cap => match σ.fr.get d with
    | .fn (.func k') a b => if k = k' ∧ samePs a (first.map σ.fr.get) = true ∧ samePs b (cap.map σ.fr.get) = true then some ((), []) else none
    | _ => none
def getAll (σ : St) (Hf : Heap) : (s : Shape) → Option (shDen s × List Bool)
  | [] => some ((), [])
  | p :: s => pairD (get1 σ Hf p.1 p.2) (getAll σ Hf s)
def noDup : List Nat → Bool
  | [] => true
  | a :: l => !l.contains a && noDup l
/-- The contents of a state of a shape. -/
def exSt (s : Shape) (σ : St) : Option (shDen s × List Bool) :=
  match σ.df with
  | [] => match noDup (ownN σ s) with
    | true => getAll σ (dropN (ownN σ s) σ.H) s
    | false => none
  | _ => none

/-- One state says all that another one does. -/
def Ent (σ σ' : St) : Prop := ∀ P base w0 Z φ N a w, SRel P base w0 Z φ N σ a w → ∃ Z' φ', ZLe Z Z' ∧ SRel P base w0 Z' φ' N σ' a w

section
variable {base : Nat → Prop} {w0 : Start} {Z Z' : ZMap} {φ φ' : PMap} {H : Heap} {nx : Nat} {w w' : World}

/-- A block that is there already comes under a new number. -/
theorem HRel.intro (h : HRel base w0 Z φ H nx w) {x : Blk} {l : Loc} (hz : Z l.B = none) (hlt : l.B < w.heap.size) (hob : base l.B → w0.world.heap.size ≤ l.B) (hdis : ∀ i y l', H.get i = some y → φ i = some l' → l'.B ≠ l.B)
    (hx : blkRel Z (φ.set nx l) w l x) : HRel base w0 Z (φ.set nx l) ((nx, x) :: H) (nx + 1) w := by
  have hfr := h.fresh (Nat.le_refl nx)
  have hle := PMap.le_set (x := l) hfr
  have look : ∀ c z, Heap.get ((nx, x) :: H) c = some z → (c = nx ∧ z = x) ∨ (c ≠ nx ∧ H.get c = some z) := by
    intro c z hz
    simp only [Heap.get] at hz
    by_cases e : c = nx
    · rw [if_pos e] at hz; injection hz with hz; exact .inl ⟨e, hz.symm⟩
    · rw [if_neg e] at hz; exact .inr ⟨e, hz⟩
  have lk : ∀ c l', (φ.set nx l) c = some l' → (c = nx ∧ l' = l) ∨ (c ≠ nx ∧ φ c = some l') := by
    intro c l' hc
    unfold PMap.set at hc
    by_cases e : c = nx
    · rw [if_pos e] at hc; injection hc with hc; exact .inl ⟨e, hc.symm⟩
    · rw [if_neg e] at hc; exact .inr ⟨e, hc⟩
  refine ⟨h.below, h.z, h.z0, h.gl, fun c l' hc => ?_, fun c z hz => ?_, fun c l' hc => ?_, fun c z hz' => ?_, fun c c' z z' l1 l2 hne hc hc' h1 h2 => ?_, fun c z l1 hc h1 hu => ?_⟩
  · rcases lk c l' hc with ⟨e, _⟩ | ⟨_, g⟩
    · rw [e]; exact Nat.lt_succ_self _
    · exact Nat.lt_succ_of_lt (h.fnx c l' g)
  · rcases look c z hz with ⟨e, _⟩ | ⟨_, g⟩
    · rw [e]; exact Nat.lt_succ_self _
    · exact Nat.lt_succ_of_lt (h.hnx c z g)
  · rcases lk c l' hc with ⟨_, e⟩ | ⟨_, g⟩
    · rw [e]; exact hlt
    · exact h.flt c l' g
  · rcases look c z hz' with ⟨e1, e2⟩ | ⟨hne, g⟩
    · rw [e1, e2]; exact .inr ⟨l, PMap.set_self _ _ _, hz, hx⟩
    · rcases h.own' c z g with ⟨hg, hf⟩ | ⟨l', hf, hz2, hr⟩
      · exact .inl ⟨hg, by unfold PMap.set; rw [if_neg hne]; exact hf⟩
      · exact .inr ⟨l', hle _ _ hf, hz2, hr.mono (ZLe.refl _) hle rfl⟩
  · rcases look c z hc with ⟨e1, _⟩ | ⟨n1, g1⟩
    · rcases look c' z' hc' with ⟨e2, _⟩ | ⟨n2, g2⟩
      · exact absurd (e1.trans e2.symm) hne
      · rcases lk _ _ h1 with ⟨_, e3⟩ | ⟨n3, _⟩
        · rcases lk _ _ h2 with ⟨e, _⟩ | ⟨_, k2⟩
          · exact absurd e n2
          · rw [e3]; exact fun e => hdis c' z' l2 g2 k2 e.symm
        · exact absurd e1 n3
    · rcases lk _ _ h1 with ⟨e, _⟩ | ⟨_, k1⟩
      · exact absurd e n1
      · rcases look c' z' hc' with ⟨e2, _⟩ | ⟨n2, g2⟩
        · rcases lk _ _ h2 with ⟨_, e3⟩ | ⟨n3, _⟩
          · rw [e3]; exact hdis c z l1 g1 k1
          · exact absurd e2 n3
        · rcases lk _ _ h2 with ⟨e, _⟩ | ⟨_, k2⟩
          · exact absurd e n2
          · exact h.inj c c' z z' l1 l2 hne g1 g2 k1 k2
  · rcases look c z hc with ⟨e1, _⟩ | ⟨n1, g1⟩
    · rcases lk _ _ h1 with ⟨_, e3⟩ | ⟨n3, _⟩
      · rw [e3] at hu ⊢; exact hob hu
      · exact absurd e1 n3
    · rcases lk _ _ h1 with ⟨e, _⟩ | ⟨_, k1⟩
      · exact absurd e n1
      · exact h.ob c z l1 g1 k1 hu
/-- A number for a list of which there is no block. -/
theorem HRel.introGhost (h : HRel base w0 Z φ H nx w) (t : Ty) : HRel base w0 Z φ ((nx, .lst t []) :: H) (nx + 1) w :=
  (h.ghostNew t).sub fun c z hz => by
    rw [Heap.get_set]
    simp only [Heap.get] at hz
    exact hz

theorem noDup_nodup : ∀ {l : List Nat}, noDup l = true → l.Nodup
  | [], _ => List.nodup_nil
  | a :: l, h => by
    simp only [noDup, Bool.and_eq_true, Bool.not_eq_true', List.contains_eq_mem, decide_eq_false_iff_not] at h
    exact List.nodup_cons.2 ⟨h.1, noDup_nodup h.2⟩

/-- A row, known in another way, by what is frozen. -/
theorem rowRel_to {l : Loc} {s : Nat} {t : Ty} {es : List (List AV)} {xs : List t.den} (h : rowRel Z φ w l s es) (hs : s = t.sz) (hl : xs.length = es.length)
    (hw : ∀ (i : Nat) (e : List AV), es[i]? = some e → ∃ x, xs[i]? = some x ∧ WeakC Z Z' φ φ' e (t.enc x)) : rowRel Z' φ' w l t.sz (xs.map t.enc) := by
  obtain ⟨h1, h2, c, T, fz, h3, h4, h5, h6⟩ := h
  refine ⟨by rw [← hs, h1], by simp; omega, c, T, fz, h3, h4, h5, fun i e hi => ?_⟩
  have hil : i < es.length := by have := (List.getElem?_eq_some_iff.1 hi).1; simp at this; omega
  obtain ⟨x, hx, hwk⟩ := hw i _ (List.getElem?_eq_getElem hil)
  rw [List.getElem?_map, hx] at hi
  simp only [Option.map_some, Option.some.injEq] at hi
  subst hi
  obtain ⟨g1, g2, g3⟩ := h6 i _ (List.getElem?_eq_getElem hil)
  refine ⟨by rw [← hwk.1]; exact g1, t.enc_oneC x, fun j v hj => ?_⟩
  have hjl : j < es[i].length := by rw [hwk.1]; exact (List.getElem?_eq_some_iff.1 hj).1
  obtain ⟨u, hu, hr⟩ := g3 j _ (List.getElem?_eq_getElem hjl)
  obtain ⟨v', hv', hr'⟩ := hwk.2 j _ (List.getElem?_eq_getElem hjl)
  rw [hj] at hv'; injection hv' with hv'; subst hv'
  exact ⟨u, hu, hr' u hr⟩
theorem WeakS.to {cs : List AV} {t : Ty} {x : t.den} (h : WeakS cs (t.enc x)) (hZ : ZLe Z Z') : WeakC Z Z' φ φ' cs (t.enc x) :=
  ⟨(h Z φ).1, fun j v hj => let ⟨v', h1, h2⟩ := (h Z φ).2 j v hj; ⟨v', h1, fun u hu => enc_free hZ t x j v' u h1 (h2 u hu)⟩⟩

theorem elemsD_sl {t : Ty} {b s off len : Nat} {c : Option Nat} {xs : List t.den} {ps : List Bool} (h : elemsD H t (t.dec []) (.sl b s off len c) = some (xs, ps)) (hp : ∀ p ∈ ps, p = true) :
    ∃ blk s4 es, H.get b = some blk ∧ asRow blk = some (s4, es) ∧ s = t.sz ∧ off + len ≤ es.length ∧ xs.length = len ∧ ∀ (i : Nat) (e : List AV), (seg off len es)[i]? = some e → ∃ x, xs[i]? = some x ∧ WeakS e (t.enc x) := by
  unfold elemsD at h
  simp only at h
  split at h
  rotate_left
  · cases h
  rename_i hs
  split at h
  · rename_i t' zs hb
    split at h
    · rename_i ht
      subst ht
      simp only [Option.some.injEq, Prod.mk.injEq] at h
      obtain ⟨rfl, rfl⟩ := h
      have hle : off + len ≤ zs.length := of_decide_eq_true (hp _ (List.mem_singleton.2 rfl))
      refine ⟨_, _, _, hb, rfl, hs, by simpa using hle, by simp [seg, castL_self]; omega, fun i e hi => ?_⟩
      have e1 : seg off len (zs.map t'.enc) = (seg off len zs).map t'.enc := by simp [seg, List.map_take, List.map_drop]
      rw [e1, List.getElem?_map] at hi
      cases hy : (seg off len zs)[i]? with
      | none => rw [hy] at hi; cases hi
      | some y => rw [hy] at hi; injection hi with hi; subst hi; exact ⟨y, hy, WeakS.refl _⟩
    · cases h
  · rename_i s4 es hb
    split at h
    · rename_i hle
      obtain ⟨k1, k2⟩ := mapD_get h
      refine ⟨_, _, _, hb, rfl, hs, hle, by rw [← k1]; simp [seg]; omega, fun i e hi => ?_⟩
      obtain ⟨x, p, hx, hd, hq⟩ := k2 i e hi
      exact ⟨x, hx, dec_weak hd fun q hq' => hp q (hq q hq')⟩
    · cases h
  · cases h

/-- The state half read: 'used': the old numbers that have new ones. -/
structure Half (base : Nat → Prop) (w0 : Start) (Zf : ZMap) (φ0 : PMap) (H0 : Heap) (tmps : Array Value) (w : World) (φ : PMap) (used : List Nat) (F : Fr) (H : Heap) (n : Nat) : Prop where
  heap : HRel base w0 Zf φ H n w
  src : ∀ i y l, H.get i = some y → φ i = some l → ∃ b ∈ used, ∃ y0 l0, H0.get b = some y0 ∧ φ0 b = some l0 ∧ l0.B = l.B
  fr : FrRel Zf φ F tmps

/-- A list of its own comes under a new number. -/
theorem list_step {H0 : Heap} {φ0 : PMap} {n0 : Nat} (hh : HRel base w0 Z φ0 H0 n0 w) (hZ : ZLe Z Z') {F : Fr} {n : Nat} {tmps : Array Value} {used : List Nat} (hf : Half base w0 Z' φ0 H0 tmps w φ used F H n)
    {t : Ty} {v : AV} {u : Value} {xs : List t.den} {ps : List Bool} (hv : Rep Z φ0 v u) (h : listD H0 t v = some (xs, ps)) (hp : ∀ p ∈ ps, p = true)
    (hfree : ∀ b s off len c, v = .sl b s off len c → b ∉ used ∧ ∀ y l, H0.get b = some y → φ0 b = some l → Z' l.B = none) :
    ∃ φ', PLe φ φ' ∧ Rep Z' φ' (.sl n t.sz 0 xs.length none) u ∧ Half base w0 Z' φ0 H0 tmps w φ' (used ++ nameL v) F ((n, .lst t xs) :: H) (n + 1) := by
  have ghost : ∀ ao (more : List Nat), u = .slice ao 0 0 → xs = [] → ∃ φ', PLe φ φ' ∧ Rep Z' φ' (.sl n t.sz 0 xs.length none) u ∧ Half base w0 Z' φ0 H0 tmps w φ' (used ++ more) F ((n, .lst t xs) :: H) (n + 1) := by
    intro ao more hu hx
    subst hu hx
    refine ⟨φ, PLe.refl _, ?_, hf.heap.introGhost t, fun i y l hi hl => ?_, hf.fr⟩
    · cases ao with
      | none => exact .sl0n (cap := none) (Nat.le_refl 0)
      | some a => exact .sl0s (cap := none) (Nat.le_refl 0) a
    · have hne : i ≠ n := by rintro rfl; rw [hf.heap.fresh (Nat.le_refl i)] at hl; cases hl
      simp only [Heap.get] at hi
      rw [if_neg hne] at hi
      obtain ⟨b, hb, r⟩ := hf.src i y l hi hl
      exact ⟨b, List.mem_append_left _ hb, r⟩
  unfold listD at h
  split at h
  · cases hv
    simp only [Option.some.injEq, Prod.mk.injEq] at h
    exact ghost none _ rfl h.1.symm
  · cases hv
    simp only [Option.some.injEq, Prod.mk.injEq] at h
    exact ghost (some _) _ rfl h.1.symm
  · rename_i b s off len c
    obtain ⟨blk, s4, es, hb, hrow, hs, hle, hxl, hw⟩ := elemsD_sl h hp
    cases hv with
    | sl0n hc => exact ghost none _ rfl (List.eq_nil_of_length_eq_zero hxl)
    | sl0s hc a => exact ghost (some a) _ rfl (List.eq_nil_of_length_eq_zero hxl)
    | sl hl hls hc hlc hlm ha =>
      rename_i cc l a
      obtain ⟨hz0, hr⟩ := hh.rowOf hb hrow hl
      have hs4 : s4 = t.sz := by rw [hr.1, hls, hs]
      obtain ⟨hnu, hzn⟩ := hfree b s off len c rfl
      have hseg : (seg off len es).length = len := by simp [seg]; omega
      have hle2 := PMap.le_set (x := ⟨l.B, l.ob + off * l.s, l.s, l.lim - off⟩) (hf.heap.fresh (Nat.le_refl n))
      have hr2 : rowRel Z' (φ.set n ⟨l.B, l.ob + off * l.s, l.s, l.lim - off⟩) w ⟨l.B, l.ob + off * l.s, l.s, l.lim - off⟩ t.sz (xs.map t.enc) :=
        rowRel_to (row_shift hr hle) hs4 (by omega) fun i e hi => let ⟨x, h1, h2⟩ := hw i e hi; ⟨x, h1, h2.to hZ⟩
      refine ⟨_, hle2, ?_, hf.heap.intro (x := .lst t xs) (l := ⟨l.B, l.ob + off * l.s, l.s, l.lim - off⟩) (show Z' l.B = none from hzn _ l hb hl) (show l.B < _ from hh.flt _ l hl) (hh.ob _ _ l hb hl) (fun i y l' hi hl' e => ?_) hr2, fun i y l' hi hl' => ?_, hf.fr.mono (ZLe.refl _) hle2⟩
      · rw [hxl]
        refine .sl (PMap.set_self _ _ _) (by simp only; rw [hls, hs]) hlc hlc (by simp only; omega) ?_
        rcases ha with rfl | h0
        · left; simp only [Nat.zero_mul, Nat.add_zero]; rw [hls]
        · exact .inr h0
      · obtain ⟨b2, hb2, y0, l0, g1, g2, g3⟩ := hf.src i y l' hi hl'
        have hne : b2 ≠ b := fun e => hnu (e ▸ hb2)
        exact hh.inj b2 b y0 blk l0 l hne g1 hb g2 hl (by rw [g3, e])
      · simp only [Heap.get] at hi
        unfold PMap.set at hl'
        by_cases e : i = n
        · rw [if_pos e] at hl'; injection hl' with hl'
          exact ⟨b, List.mem_append_right _ (List.mem_singleton.2 rfl), blk, l, hb, hl, by rw [← hl']⟩
        · rw [if_neg e] at hi hl'
          obtain ⟨b2, hb2, r⟩ := hf.src i y l' hi hl'
          exact ⟨b2, List.mem_append_left _ hb2, r⟩
  · cases h

theorem frRel_cons {F : Fr} {tmps : Array Value} {d : Nat} {v : AV} (h : FrRel Z φ F tmps) (hv : Rep Z φ v (tmps.getD d Go.undef)) : FrRel Z φ ((d, v) :: F) tmps := by
  intro t
  simp only [Fr.get]
  by_cases e : t = d
  · subst e; rw [if_pos rfl]; exact hv
  · rw [if_neg e]; exact h t

theorem ptr_unique {Z1 Z2 : ZMap} {b i o : Nat} {u u' : Value} (h : Rep Z1 φ (.ptr b i o) u) (h' : Rep Z2 φ (.ptr b i o) u') : u = u' := by
  cases h with
  | ptr h1 => cases h' with
    | ptr h2 => rw [h1] at h2; injection h2 with h2; subst h2; rfl

theorem samePs_rep {F0 F : Fr} {φ0 : PMap} {tmps : Array Value} (h0 : FrRel Z φ0 F0 tmps) (h1 : FrRel Z' φ F tmps) : ∀ (l : List Nat) (a : List AV), samePs a (l.map F0.get) = true → ∀ us : Array Value, Reps Z φ0 a us → Reps Z' φ (l.map F.get) us := by
  intro l
  induction l with
  | nil =>
    intro a h us hr
    cases a with
    | nil => exact ⟨hr.1, fun i v u hv => by simp at hv⟩
    | cons _ _ => simp [samePs] at h
  | cons c l ih =>
    intro a h us hr
    cases a with
    | nil => simp [samePs] at h
    | cons x a =>
      simp only [List.map_cons, samePs, Bool.and_eq_true] at h
      have hsz := hr.1
      simp only [List.length_cons] at hsz
      have tail := ih a h.2 (us.toList.tail.toArray) ⟨by simp [hsz], fun i v u hv hu => hr.2 (i + 1) v u (by simpa using hv) (by
        rw [List.getElem?_toArray, List.getElem?_tail, Array.getElem?_toList] at hu; exact hu)⟩
      refine ⟨by have := tail.1; simp [hsz] at this ⊢; omega, fun i v u hv hu => ?_⟩
      cases i with
      | zero =>
        simp only [List.map_cons, List.getElem?_cons_zero, Option.some.injEq] at hv
        subst hv
        have hx := hr.2 0 x u rfl hu
        have hs := h.1
        unfold sameP at hs
        split at hs
        · rename_i b i o b' i' o' hc
          simp only [Bool.and_eq_true, beq_iff_eq] at hs
          obtain ⟨⟨rfl, rfl⟩, rfl⟩ := hs
          have h2 := h0 c
          rw [hc] at h2
          rw [ptr_unique hx h2]
          exact h1 c
        · cases hs
      | succ i =>
        refine tail.2 i v u (by simpa using hv) ?_
        rw [List.getElem?_toArray, List.getElem?_tail, Array.getElem?_toList]; exact hu

/-- One slot. -/
theorem step1 {σ : St} {Hf : Heap} {tmps : Array Value} {φ0 : PMap} (hh : HRel base w0 Z φ0 σ.H σ.nx w) (hfr : FrRel Z φ0 σ.fr tmps) (hsub : Sub Hf σ.H) (hfz : Froze φ0 Hf w Z Z') {used : List Nat} {F : Fr} {n : Nat} (hf : Half base w0 Z' φ0 σ.H tmps w φ used F H n)
    {d : Nat} {h : Sh} {x : h.den} {ps : List Bool} (hg : get1 σ Hf d h = some (x, ps)) (hp : ∀ p ∈ ps, p = true) (hnd : (used ++ own1 σ d h).Nodup) (hzn : ∀ b ∈ own1 σ d h, ∀ y l, σ.H.get b = some y → φ0 b = some l → Z' l.B = none) :
    ∃ φ', PLe φ φ' ∧ Half base w0 Z' φ0 σ.H tmps w φ' (used ++ own1 σ d h) (put1 d h x (F, H, n)).1 (put1 d h x (F, H, n)).2.1 (put1 d h x (F, H, n)).2.2 := by
  have hd := hfr d
  have notin : ∀ b ∈ own1 σ d h, b ∉ used := fun b hb hu => (List.nodup_append.1 hnd).2.2 b hu b hb rfl
  cases h with
  | v t =>
    refine ⟨φ, PLe.refl _, hf.heap, ?_, frRel_cons hf.fr (decV_ok (hh.sub hsub).ownR hfz hg hp hd)⟩
    simp only [own1, List.append_nil]; exact hf.src
  | a t =>
    refine ⟨φ, PLe.refl _, hf.heap, ?_, frRel_cons hf.fr (decA_ok (hh.sub hsub).ownR hfz hg hp hd)⟩
    simp only [own1, List.append_nil]; exact hf.src
  | own t =>
    have hg : listD σ.H t (σ.fr.get d) = some (x, ps) := hg
    obtain ⟨φ', h1, h2, h3⟩ := list_step hh hfz.1 hf hd hg hp (fun b s off len c hv => by
      have hmem : b ∈ own1 σ d (.own t) := by simp [own1, nameL, hv]
      exact ⟨notin b hmem, hzn b hmem⟩)
    exact ⟨φ', h1, h3.heap, h3.src, frRel_cons h3.fr h2⟩
  | box t =>
    simp only [get1] at hg
    split at hg
    rotate_left
    · cases hg
    rename_i b hbv
    split at hg
    rotate_left
    · cases hg
    rename_i s4 cs hb
    have hmem : own1 σ d (.box t) = [b] := by simp [own1, hbv]
    rw [hmem] at hzn notin ⊢
    rw [hbv] at hd
    generalize hu : tmps.getD d Go.undef = u at hd
    cases hd with
    | ptr hl =>
      rename_i l
      obtain ⟨hz0, hr⟩ := hh.ownAt hb hl
      have hr : rowRel Z φ0 w l s4 [cs] := hr
      have hle2 := PMap.le_set (x := l) (hf.heap.fresh (Nat.le_refl n))
      have hwk := dec_ok (φ' := φ.set n l) (hh.sub hsub).ownR hfz t cs x ps hg hp
      have hcs : cs.length = l.s := by obtain ⟨_, _, c, T, fz, _, _, _, h6⟩ := hr; exact (h6 0 cs rfl).1
      have hs4 : s4 = t.sz := by rw [hr.1, ← hcs, hwk.1, Ty.enc_length]
      have hr2 : rowRel Z' (φ.set n l) w l t.sz ([x].map t.enc) := rowRel_to hr hs4 rfl fun i e hi => by
        cases i <;> simp at hi
        subst hi; exact ⟨x, rfl, hwk⟩
      refine ⟨_, hle2, hf.heap.intro (x := .row t.sz [t.enc x]) (l := l) (hzn b (List.mem_singleton.2 rfl) _ _ hb hl) (hh.flt _ _ hl) (hh.ob _ _ _ hb hl) (fun i y l' hi hl' e => ?_) hr2, fun i y l' hi hl' => ?_, frRel_cons (hf.fr.mono (ZLe.refl _) hle2) ?_⟩
      · obtain ⟨b2, hb2, y0, l0, g1, g2, g3⟩ := hf.src i y l' hi hl'
        have hne : b2 ≠ b := fun e => notin b (List.mem_singleton.2 rfl) (e ▸ hb2)
        exact hh.inj b2 b y0 _ l0 l hne g1 hb g2 hl (by rw [g3, e])
      · simp only [put1, Heap.get] at hi
        unfold PMap.set at hl'
        by_cases e : i = n
        · rw [if_pos e] at hl'; injection hl' with hl'
          exact ⟨b, List.mem_append_right _ (List.mem_singleton.2 rfl), _, l, hb, hl, by rw [← hl']⟩
        · rw [if_neg e] at hi hl'
          obtain ⟨b2, hb2, r⟩ := hf.src i y l' hi hl'
          exact ⟨b2, List.mem_append_left _ hb2, r⟩
      · rw [hu]; exact .ptr (PMap.set_self _ _ _)
  | boxOwn t =>
    simp only [get1] at hg
    split at hg
    rotate_left
    · cases hg
    rename_i b hbv
    split at hg
    rotate_left
    · cases hg
    rename_i s4 v hb
    rw [hbv] at hd
    generalize hu : tmps.getD d Go.undef = u at hd
    cases hd with
    | ptr hl =>
      rename_i l
      obtain ⟨hz0, hr⟩ := hh.ownAt hb hl
      obtain ⟨r1, r2, c, T, fz, r3, r4, r5, r6⟩ := (show rowRel Z φ0 w l s4 [[v]] from hr)
      obtain ⟨g1, g2, g3⟩ := r6 0 [v] rfl
      obtain ⟨u2, hu2, hv2⟩ := g3 0 v rfl
      have hmem : own1 σ d (.boxOwn t) = nameL v ++ [b] := by simp [own1, hbv, hb]
      have hmemb : b ∈ own1 σ d (.boxOwn t) := by rw [hmem]; simp
      obtain ⟨φ1, h1, h2, h3⟩ := list_step hh hfz.1 hf hv2 hg hp (fun b2 s off len c' hv => by
        have hm : b2 ∈ own1 σ d (.boxOwn t) := by rw [hmem, hv]; simp [nameL]
        exact ⟨notin b2 hm, hzn b2 hm⟩)
      have hle2 := PMap.le_set (x := l) (h3.heap.fresh (Nat.le_refl (n + 1)))
      have hls : l.s = 1 := by rw [← g1]; rfl
      have hr2 : rowRel Z' (φ1.set (n + 1) l) w l 1 [[.sl n t.sz 0 x.length none]] := by
        refine ⟨hls.symm, r2, c, T, fz, r3, r4, r5, fun i e hi => ?_⟩
        cases i <;> simp at hi
        subst hi
        refine ⟨by rw [hls]; rfl, rfl, fun j v' hj => ?_⟩
        cases j <;> simp at hj
        subst hj
        exact ⟨u2, hu2, h2.mono (ZLe.refl _) hle2⟩
      rw [hmem, ← List.append_assoc]
      refine ⟨_, h1.trans hle2, h3.heap.intro (x := .row 1 [[.sl n t.sz 0 x.length none]]) (l := l) (hzn b hmemb _ _ hb hl) (hh.flt _ _ hl) (hh.ob _ _ _ hb hl) (fun i y l' hi hl' e => ?_) hr2, fun i y l' hi hl' => ?_, frRel_cons (h3.fr.mono (ZLe.refl _) hle2) ?_⟩
      · obtain ⟨b2, hb2, y0, l0, k1, k2, k3⟩ := h3.src i y l' hi hl'
        have hne : b2 ≠ b := fun e => by
          rw [hmem, ← List.append_assoc] at hnd
          exact (List.nodup_append.1 hnd).2.2 b2 hb2 b (List.mem_singleton.2 rfl) e
        exact hh.inj b2 b y0 _ l0 l hne k1 hb k2 hl (by rw [k3, e])
      · simp only [put1] at hi
        rw [Heap.get] at hi
        unfold PMap.set at hl'
        by_cases e : i = n + 1
        · rw [if_pos e] at hl'; injection hl' with hl'
          exact ⟨b, List.mem_append_right _ (List.mem_singleton.2 rfl), _, l, hb, hl, by rw [← hl']⟩
        · rw [if_neg e] at hi hl'
          obtain ⟨b2, hb2, r⟩ := h3.src i y l' hi hl'
          exact ⟨b2, List.mem_append_left _ hb2, r⟩
      · rw [hu]; exact .ptr (PMap.set_self _ _ _)
  | fn k first cap =>
    simp only [get1] at hg
    split at hg
    rotate_left
    · cases hg
    rename_i k' a b hv
    split at hg
    rotate_left
    · cases hg
    rename_i hc
    obtain ⟨rfl, hc1, hc2⟩ := hc
    refine ⟨φ, PLe.refl _, hf.heap, by simp only [own1, List.append_nil]; exact hf.src, frRel_cons hf.fr ?_⟩
    rw [hv] at hd
    generalize hu : tmps.getD d Go.undef = u at hd
    cases hd with
    | fn hx hy g1 g2 =>
      have q1 := samePs_rep hfr hf.fr first a hc1 _ ⟨hx, g1⟩
      have q2 := samePs_rep hfr hf.fr cap b hc2 _ ⟨hy, g2⟩
      exact .fn q1.1 q2.1 q1.2 q2.2
end
end Go.Lom

/- Loops and functions by their contracts: the tables, and what is to be shown. No conditions of its own. -/
set_option linter.unusedSimpArgs false
set_option linter.unusedVariables false
set_option linter.constructorNameAsVariable false
namespace Go.Lom
open Go.RowKit

section
variable {base : Nat → Prop} {w0 : Start} {Z Z' : ZMap} {φ φ' : PMap} {H : Heap} {nx : Nat} {w w' : World}

theorem getAll_ok {σ : St} {Hf : Heap} {tmps : Array Value} {φ0 : PMap} (hh : HRel base w0 Z φ0 σ.H σ.nx w) (hfr : FrRel Z φ0 σ.fr tmps) (hsub : Sub Hf σ.H) (hfz : Froze φ0 Hf w Z Z') : ∀ (s : Shape) (x : shDen s) (ps : List Bool) (φ : PMap) (used : List Nat) (F : Fr) (H : Heap) (n : Nat),
    Half base w0 Z' φ0 σ.H tmps w φ used F H n → getAll σ Hf s = some (x, ps) → (∀ p ∈ ps, p = true) → (used ++ ownN σ s).Nodup → (∀ b ∈ ownN σ s, ∀ y l, σ.H.get b = some y → φ0 b = some l → Z' l.B = none) →
    ∃ φ', Half base w0 Z' φ0 σ.H tmps w φ' (used ++ ownN σ s) (putAll s x (F, H, n)).1 (putAll s x (F, H, n)).2.1 (putAll s x (F, H, n)).2.2
  | [], x, ps, φ, used, F, H, n, hf, _, _, _, _ => ⟨φ, by simpa [ownN, putAll] using hf⟩
  | p :: s, x, ps, φ, used, F, H, n, hf, hg, hp, hnd, hzn => by
    have hg : pairD (get1 σ Hf p.1 p.2) (getAll σ Hf s) = some (x, ps) := hg
    unfold pairD at hg
    split at hg
    · rename_i y q hy
      split at hg
      · rename_i z r hz
        simp only [Option.some.injEq, Prod.mk.injEq] at hg
        obtain ⟨rfl, rfl⟩ := hg
        simp only [ownN] at hnd hzn ⊢
        rw [← List.append_assoc] at hnd ⊢
        obtain ⟨φ1, _, h1⟩ := step1 hh hfr hsub hfz hf hy (fun p hp' => hp p (List.mem_append_left _ hp')) (List.nodup_append.1 hnd).1 fun b hb => hzn b (List.mem_append_left _ hb)
        exact getAll_ok hh hfr hsub hfz s z r φ1 _ _ _ _ h1 hz (fun p hp' => hp p (List.mem_append_right _ hp')) hnd fun b hb => hzn b (List.mem_append_right _ hb)
      · cases hg
    · cases hg
end

theorem exSt_ok {s : Shape} {σ : St} {x : shDen s} {ps : List Bool} (h : exSt s σ = some (x, ps)) (hp : ∀ p ∈ ps, p = true) : Ent σ (shSt s x) := by
  intro P base w0 Z φ N a w hs
  unfold exSt at h
  split at h
  rotate_left
  · cases h
  rename_i hdf
  split at h
  rotate_left
  · cases h
  rename_i hnd
  have hsub : Sub (dropN (ownN σ s) σ.H) σ.H := fun b y hy => by
    rw [get_dropN] at hy
    split at hy
    · cases hy
    · exact hy
  have hHf := hs.heap.sub hsub
  have hstart : Half base w0 (frz Z φ (dropN (ownN σ s) σ.H) w) φ σ.H a.tmps w (fun _ => none) [] [] [] 0 :=
    ⟨hHf.frozen (fun b x h => (nomatch h)), (fun i y l h => by simp [Heap.get] at h), fun t => Rep.undef _⟩
  obtain ⟨φ', hf⟩ := getAll_ok hs.heap hs.fr hsub (frz_froze hHf) s x ps _ [] [] [] 0 hstart h hp (by simpa using noDup_nodup hnd) fun b hb y l hy hl => by
    have hz := (hs.heap.ownAt hy hl).1
    rcases frz_cases (Z := Z) (φ := φ) (H := dropN (ownN σ s) σ.H) (w := w) l.B with g1 | ⟨_, ⟨b2, y2, l2, hb2, hl2, he⟩, _⟩
    · rw [g1]; exact hz
    · rw [get_dropN] at hb2
      split at hb2
      · cases hb2
      · rename_i hc
        have hne : b2 ≠ b := fun e => hc (by rw [e]; simpa using hb)
        exact absurd he (hs.heap.inj b2 b y2 y l2 l hne hb2 hy hl2 hl)
  refine ⟨_, φ', (frz_froze hHf).1, hf.fr, hs.size, ?_, hf.heap⟩
  have := hs.df
  rw [hdf] at this
  have hnil := this.eq_nil
  rw [hnil]
  exact DfRel.nil _ _ _ _

theorem Ent.refl (σ : St) : Ent σ σ := fun P base w0 Z φ N a w hs => ⟨Z, φ, ZLe.refl _, hs⟩

section
variable {P : Program} {N : Nat}
theorem swp_ent {c : Code} {Q : AX → St → Prop} {σ σ' : St} (h : Ent σ σ') (hq : SWp P N 0 c Q σ') : SWp P N 0 c Q σ := by
  intro ro base w0 Z φ a w hro hs
  obtain ⟨Z', φ', hZ, hs'⟩ := h P base w0 Z φ N a w hs
  exact wpIn_mono (hq ro base w0 Z' φ' a w hro hs') fun e a w hl => hl.mono hZ (fun b x hb => by omega) fun _ _ h => h

def AX.calm : AX → Bool
  | .panic _ => false
  | _ => true
end

/-- What is asked of the contents of a state of a shape. -/
def backK (s : Shape) (K : shDen s → Prop) : St → Prop := fun σ =>
  match exSt s σ with
  | some (x, ps) => allP ps (K x)
  | none => False
theorem backK_ok {s : Shape} {K : shDen s → Prop} {σ : St} (h : backK s K σ) : ∃ x, Ent σ (shSt s x) ∧ K x := by
  unfold backK at h
  split at h
  · rename_i x ps he
    rw [allP_iff] at h
    exact ⟨x, exSt_ok he h.1, h.2⟩
  · exact h.elim
def exitK (ex : AX → Option Shape) (Q : AX → St → Prop) : AX → St → Prop := fun e σ =>
  match e.calm with
  | true => match ex e with
    | some s => backK s (fun x => Q e (shSt s x)) σ
    | none => False
  | false => False

/-- The contract of a loop. -/
structure LC where
  sh : Shape
  spec : shDen sh → (AX → St → Prop) → Prop
/-- The contract of a function. -/
structure FC where
  as : List AT
  rs : List Ty
  spec : Spec as rs

def LpOk (P : Program) (k : FuncId) (j : Nat) (c : LC) : Prop := ∀ fn fb code, P.funcs[k]? = some fn → fn.body = some fb → (loopsOf fb)[j]? = some code → ∀ x Q, c.spec x Q → SWp P fn.ntmps 0 (.loop code) Q (shSt c.sh x)
def FnOk (P : Program) (k : FuncId) (c : FC) : Prop := PCok P k c.as c.rs c.spec

/-- Is there a contract? -/
def hasF : List (Nat × FC) → Nat → Bool
  | [], _ => false
  | (k, _) :: l, i => match Nat.beq i k with
    | true => true
    | false => hasF l i
/-- The first contract of a function whose arguments these are. -/
def tryF : List (Nat × FC) → Nat → List AV → Heap → Nat → (AE → Heap → Nat → Prop) → Prop
  | [], _, _, _, _, _ => False
  | (k, c) :: l, i, avs, H, nx, R => match Nat.beq i k with
    | true => pcD c.as c.rs c.spec avs H nx R (tryF l i avs H nx R)
    | false => tryF l i avs H nx R
/-- The first contract of a loop whose shape the state has. -/
def tryL : List (Nat × Nat × LC) → Nat → Nat → St → (AX → St → Prop) → Prop
  | [], _, _, _, _ => False
  | (k, j, c) :: l, i, n, σ, K => match Nat.beq i k && Nat.beq n j with
    | true => match exSt c.sh σ with
      | some (x, ps) => allP ps (c.spec x K)
      | none => tryL l i n σ K
    | false => tryL l i n σ K
def mkTab (fs : List (Nat × FC)) (ls : List (Nat × Nat × LC)) : Tab where
  fn k := match hasF fs k with
    | true => some (tryF fs k)
    | false => none
  lp k n0 j σ K := match n0 with
    | 0 => tryL ls k j σ K
    | _ + 1 => False

structure Good (P : Program) (fs : List (Nat × FC)) (ls : List (Nat × Nat × LC)) : Prop where
  fn : ∀ k avs H nx R, tryF fs k avs H nx R → SCall P k avs H nx R
  lp : ∀ k j σ K, tryL ls k j σ K → ∃ c, LpOk P k j c ∧ backK c.sh (fun x => c.spec x K) σ

theorem Good.addF {P : Program} {fs : List (Nat × FC)} {ls : List (Nat × Nat × LC)} (h : Good P fs ls) {k : Nat} {c : FC} (hc : FnOk P k c) : Good P ((k, c) :: fs) ls := by
  refine ⟨fun i avs H nx R hd => ?_, h.lp⟩
  unfold tryF at hd
  split at hd
  · rename_i e
    rw [Nat.eq_of_beq_eq_true e] at hd ⊢
    exact pcD_ok hc hd fun ho => h.fn k avs H nx R ho
  · exact h.fn i avs H nx R hd

theorem Good.tab {P : Program} {fs : List (Nat × FC)} {ls : List (Nat × Nat × LC)} (h : Good P fs ls) : TabOk P (mkTab fs ls) := by
  refine ⟨fun k c hc avs H nx R hx => ?_, fun k fn fb hf hb n0 i code hcode σ Q hq => ?_⟩
  · simp only [mkTab] at hc
    split at hc
    · injection hc with hc; subst hc
      exact h.fn k avs H nx R hx
    · cases hc
  · rw [Nat.zero_add] at hq
    simp only [mkTab] at hq
    split at hq
    · obtain ⟨c, hc, hk⟩ := h.lp k i σ Q hq
      obtain ⟨x, h1, h2⟩ := backK_ok hk
      exact swp_ent h1 (hc fn fb code hf hb hcode x Q h2)
    · exact hq.elim

/-- Loops within a loop. -/
theorem loops_in : ∀ (c : Code) (j : Nat) (b : Code), (loopsOf c)[j]? = some b → ∀ i d, (loopsOf b)[i]? = some d → (loopsOf c)[j + 1 + i]? = some d := by
  have app : ∀ (x y : List Code), (∀ j b, x[j]? = some b → ∀ i d, (loopsOf b)[i]? = some d → x[j + 1 + i]? = some d) → (∀ j b, y[j]? = some b → ∀ i d, (loopsOf b)[i]? = some d → y[j + 1 + i]? = some d) →
      ∀ j b, (x ++ y)[j]? = some b → ∀ i d, (loopsOf b)[i]? = some d → (x ++ y)[j + 1 + i]? = some d := by
    intro x y hx hy j b hj i d hi
    by_cases hlt : j < x.length
    · rw [List.getElem?_append_left hlt] at hj
      have := hx j b hj i d hi
      rw [List.getElem?_append_left (List.getElem?_eq_some_iff.1 this).1]; exact this
    · rw [List.getElem?_append_right (by omega)] at hj
      have := hy _ b hj i d hi
      rw [List.getElem?_append_right (by omega), ← this]
      congr 1; omega
  intro c
  induction c with
  | seq a b iha ihb => exact app _ _ iha ihb
  | cond _ a b iha ihb => exact app _ _ iha ihb
  | block _ c ih => exact ih
  | scope c ih => exact ih
  | loop c ih =>
    intro j b hj i d hi
    cases j with
    | zero =>
      simp only [loopsOf, List.getElem?_cons_zero, Option.some.injEq] at hj
      subst hj
      simp only [loopsOf]
      rw [show 0 + 1 + i = i + 1 from by omega, List.getElem?_cons_succ]; exact hi
    | succ j =>
      simp only [loopsOf, List.getElem?_cons_succ] at hj
      simp only [loopsOf]
      rw [show j + 1 + 1 + i = (j + 1 + i) + 1 from by omega, List.getElem?_cons_succ]
      exact ih j b hj i d hi
  | _ => intro j b hj; simp [loopsOf] at hj

/-- What is to be shown of a loop. -/
def xloop (P : Program) (fs : List (Nat × FC)) (ls : List (Nat × Nat × LC)) (n : Nat) (k j : Nat) (c : LC) (ex : AX → Option Shape) (m : shDen c.sh → Nat) (x : shDen c.sh) (Q : AX → St → Prop) : Prop :=
  match P.funcs[k]? with
  | none => False
  | some fn => match fn.body with
    | none => False
    | some fb => match (loopsOf fb)[j]? with
      | none => False
      | some code => xc P fn.ntmps (xcall P (mkTab fs ls) n) ((mkTab fs ls).lp k 0) code (j + 1) (AX.then (backK c.sh fun x' => m x' < m x ∧ c.spec x' Q) (exitK ex Q)) (shSt c.sh x)

/-- What is to be shown of a function. -/
def xfn (P : Program) (fs : List (Nat × FC)) (ls : List (Nat × Nat × LC)) (n : Nat) (k : Nat) (c : FC) (x : densA c.as) (K : dens c.rs → Prop) : Prop :=
  xinl P (xcall P (mkTab fs ls) n) (mkTab fs ls).lp k (valsA c.as x) [] 0 (resK c.rs K)
attribute [irreducible] xloop xfn
end Go.Lom

/- From what a row is given to contents, and back: plain lemmas. No conditions of its own. -/
set_option linter.unusedSimpArgs false
set_option linter.unusedVariables false
set_option linter.constructorNameAsVariable false
namespace Go.Lom
open Go.RowKit Go.WideShapes Go.ChangeShapes

/-- Numbers in the range of their kinds, texts and lists of a length that there may be. -/
def Ty.rng : (t : Ty) → t.den → Prop
  | .i k, n => inR k n = true
  | .b, _ => True
  | .s, x => x.length ≤ maxLen
  | .sl t, xs => xs.length ≤ maxLen ∧ ∀ x ∈ xs, t.rng x
  | .pr x y, p => x.rng p.1 ∧ y.rng p.2
  | .ar n t, xs => xs.length = n ∧ ∀ x ∈ xs, t.rng x

def fitFs (P : Program) (r : Ty → TypeId → Bool) : Ty → List Field → Nat → Bool
  | τ, [f], o => f.offset == o && P.cellsOf f.type == τ.sz && r τ f.type
  | .pr x y, f :: g :: fs, o => f.offset == o && P.cellsOf f.type == x.sz && r x f.type && fitFs P r y (g :: fs) (o + x.sz)
  | _, _, _ => false
/-- The elements of an array, as the fields of a struct. -/
def arrFs (P : Program) (n : Nat) (e : TypeId) : List Field := (List.range n).map fun i => { (default : Field) with type := e, offset := i * P.cellsOf e }
/-- Is a Go type one of these contents? -/
def fitTy (P : Program) : Nat → Ty → TypeId → Bool
  | 0, _, _ => false
  | d + 1, τ, t => match P.underlying t with
    | some (.int k) => (match τ with | .i k' => decide (k = k') | _ => false)
    | some .bool => (match τ with | .b => true | _ => false)
    | some .string => (match τ with | .s => true | _ => false)
    | some (.slice e) => (match τ with | .sl τ' => P.cellsOf e == τ'.sz && Nat.blt 0 τ'.sz && fitTy P d τ' e | _ => false)
    | some (.struct fs) => P.cellsOf t == τ.sz && fitFs P (fitTy P d) τ fs.toList 0
    | some (.array n e) => P.cellsOf t == τ.sz && fitFs P (fitTy P d) τ (arrFs P n e) 0
    | _ => false

section
variable {H : Type} {enc : TypeId × Value → H} {P : Program} {W : World}

/-- Cells that hold a content. -/
def CellsR (W : World) (cs : List Value) (τ : Ty) (y : τ.den) : Prop :=
  cs.length = τ.sz ∧ ∀ (j : Nat) (v : AV) (u : Value), (τ.enc y)[j]? = some v → cs[j]? = some u → Rep (zAll W) noMap v u

theorem cells_get {w : World} {a : Addr} {n : Nat} {cs : List Value} (h : w.cells? 0 a n = some cs) : cs.length = n ∧ ∀ (i : Nat) (u : Value), cs[i]? = some u → w.cell? (a.add i) = some u := by
  unfold World.cells? at h
  rw [if_pos (Nat.zero_le _)] at h
  refine ⟨by have := mapM_some_length h; simpa using this, fun i u hu => ?_⟩
  have hlt : i < cs.length := (List.getElem?_eq_some_iff.1 hu).1
  have hl : cs.length = n := by have := mapM_some_length h; simpa using this
  have := mapM_some_get h i i (by rw [List.getElem?_range (by omega)])
  rw [this, hu]

theorem fits_fields {r : Ty → TypeId → Bool} {n : Nat} (hr : ∀ (τ : Ty) (t : TypeId) (cs : List Value) (x : DataW H × List MemPlace), r τ t = true → DataW.trod enc P W 0 (fun _ => true) true n t cs = some x → ∃ y : τ.den, CellsR W cs τ y ∧ τ.rng y) {cs : List Value} :
    ∀ (fs : List Field) (τ : Ty) (o : Nat), fitFs P r τ fs o = true → o + τ.sz ≤ cs.length → (∀ f ∈ fs, ∃ x, DataW.trod enc P W 0 (fun _ => true) true n f.type ((cs.drop f.offset).take (P.cellsOf f.type)) = some x) →
    ∃ y : τ.den, CellsR W ((cs.drop o).take τ.sz) τ y ∧ τ.rng y
  | [], τ, o, h, _, _ => by unfold fitFs at h; cases τ <;> cases h
  | [f], τ, o, h, hle, hx => by
    have h : (f.offset == o && P.cellsOf f.type == τ.sz && r τ f.type) = true := by unfold fitFs at h; cases τ <;> exact h
    simp only [Bool.and_eq_true, beq_iff_eq] at h
    obtain ⟨⟨h1, h2⟩, h3⟩ := h
    obtain ⟨x, hx⟩ := hx f (List.mem_singleton.2 rfl)
    rw [h1, h2] at hx
    exact hr τ f.type _ x h3 hx
  | f :: g :: fs, τ, o, h, hle, hx => by
    cases τ with
    | pr a b =>
      have h : (f.offset == o && P.cellsOf f.type == a.sz && r a f.type && fitFs P r b (g :: fs) (o + a.sz)) = true := by unfold fitFs at h; exact h
      simp only [Bool.and_eq_true, beq_iff_eq] at h
      obtain ⟨⟨⟨h1, h2⟩, h3⟩, h4⟩ := h
      simp only [Ty.sz] at hle
      obtain ⟨x, hxf⟩ := hx f (List.mem_cons_self ..)
      rw [h1, h2] at hxf
      obtain ⟨y1, c1, r1⟩ := hr a f.type _ x h3 hxf
      obtain ⟨y2, c2, r2⟩ := fits_fields hr (g :: fs) b (o + a.sz) h4 (by omega) fun k hk => hx k (List.mem_cons_of_mem _ hk)
      refine ⟨(y1, y2), ⟨by simp [Ty.sz]; omega, fun j v u hv hu => ?_⟩, r1, r2⟩
      have hu' : cs[o + j]? = some u ∧ j < a.sz + b.sz := by
        simp only [Ty.sz] at hu
        rw [List.getElem?_take] at hu
        split at hu
        · rename_i hj; rw [List.getElem?_drop] at hu; exact ⟨hu, hj⟩
        · cases hu
      simp only [Ty.enc] at hv
      by_cases hj : j < (a.enc y1).length
      · rw [List.getElem?_append_left hj] at hv
        rw [Ty.enc_length] at hj
        exact c1.2 j v u hv (by rw [List.getElem?_take, if_pos hj, List.getElem?_drop]; exact hu'.1)
      · rw [List.getElem?_append_right (by omega), Ty.enc_length] at hv
        rw [Ty.enc_length] at hj
        refine c2.2 (j - a.sz) v u hv ?_
        rw [List.getElem?_take, if_pos (by omega), List.getElem?_drop, ← hu'.1]
        congr 1; omega
    | _ => unfold fitFs at h; cases h

theorem choose_list {α : Type} {n : Nat} {p : Nat → α → Prop} (h : ∀ i, i < n → ∃ y, p i y) : ∃ ys : List α, ys.length = n ∧ ∀ (i : Nat) (y : α), ys[i]? = some y → p i y := by
  induction n with
  | zero => exact ⟨[], rfl, fun i y hi => by simp at hi⟩
  | succ n ih =>
    obtain ⟨ys, h1, h2⟩ := ih fun i hi => h i (by omega)
    obtain ⟨y, hy⟩ := h n (by omega)
    refine ⟨ys ++ [y], by simp [h1], fun i z hz => ?_⟩
    by_cases hi : i < ys.length
    · rw [List.getElem?_append_left hi] at hz; exact h2 i z hz
    · rw [List.getElem?_append_right (by omega)] at hz
      have : i - ys.length = 0 := by
        by_cases h0 : i - ys.length = 0
        · exact h0
        · rw [List.getElem?_eq_none (by simp; omega)] at hz; cases hz
      rw [this] at hz
      injection hz with hz; subst hz
      have : i = n := by omega
      rw [this]; exact hy

theorem trod_cells : ∀ (d n : Nat) (τ : Ty) (t : TypeId) (cs : List Value) (x : DataW H × List MemPlace), fitTy P d τ t = true → DataW.trod enc P W 0 (fun _ => true) true n t cs = some x → ∃ y : τ.den, CellsR W cs τ y ∧ τ.rng y
  | 0, n, τ, t, cs, x, h, _ => by simp [fitTy] at h
  | d + 1, n, τ, t, cs, x, h, hx => by
    unfold fitTy at h
    split at h
    · rename_i k hu
      split at h
      · rename_i k'
        have hk := of_decide_eq_true h
        subst hk
        obtain ⟨m, rfl, rfl, hw⟩ := DataW.trod_int hu hx
        refine ⟨m, ⟨rfl, fun j v u hv hu => ?_⟩, ?_⟩
        · cases j <;> simp [Ty.enc] at hv hu
          subst hv hu; exact .int _ _
        · show inR k m = true
          simp only [Lit.wf, Bool.and_eq_true, decide_eq_true_eq] at hw
          rw [inR_iff]
          cases k <;> simp [IntKind.min, IntKind.max, IntKind.signed, IntKind.bits, loK, hiK] at hw ⊢ <;> omega
      · cases h
    · rename_i hu
      split at h
      · obtain ⟨b, rfl, rfl⟩ := DataW.trod_bool hu hx
        refine ⟨b, ⟨rfl, fun j v u hv hu => ?_⟩, trivial⟩
        cases j <;> simp [Ty.enc] at hv hu
        subst hv hu; exact .bool _
      · cases h
    · rename_i hu
      split at h
      · obtain ⟨s, rfl, hs⟩ := DataW.trod_string hu hx
        refine ⟨s.data.toList, ⟨rfl, fun j v u hv hu => ?_⟩, ?_⟩
        · cases j <;> simp [Ty.enc] at hv hu
          subst hv hu
          exact .str _
        · show s.data.toList.length ≤ maxLen
          rw [Array.length_toList]; exact hs.2
      · cases h
    · rename_i e hu
      split at h
      · rename_i τ'
        simp only [Bool.and_eq_true, beq_iff_eq] at h
        obtain ⟨⟨h1, h2⟩, h3⟩ := h
        have h2 : 0 < τ'.sz := Nat.le_of_ble_eq_true h2
        rcases DataW.trod_slice hu hx with ⟨rfl, _⟩ | ⟨a, len, cap, elems, rest, m, rfl, rfl, _, _, hlc, hcm, hel, hget, _, _⟩
        · refine ⟨[], ⟨rfl, fun j v u hv hu => ?_⟩, Nat.zero_le _, fun x hx => by simp at hx⟩
          cases j <;> simp [Ty.enc] at hv hu
          subst hv hu; exact Rep.toRl .rs0
        · rw [h1] at hget
          have each : ∀ i, i < len → ∃ y : τ'.den, (∃ ci, W.cells? 0 (a.add (i * τ'.sz)) τ'.sz = some ci ∧ CellsR W ci τ' y) ∧ τ'.rng y := by
            intro i hi
            have hg := hget i hi
            rw [List.getElem?_eq_getElem (show i < elems.length by omega)] at hg
            obtain ⟨ci, hci, htr⟩ := Option.bind_eq_some_iff.1 hg
            obtain ⟨y, hy, hyr⟩ := trod_cells d m τ' e ci _ h3 htr
            exact ⟨y, ⟨ci, hci, hy⟩, hyr⟩
          obtain ⟨ys, hyl, hys⟩ := choose_list each
          refine ⟨ys, ⟨rfl, fun j v u hv hu => ?_⟩, by rw [hyl]; omega, fun x hx => ?_⟩
          · cases j <;> simp [Ty.enc] at hv hu
            subst hv hu
            apply Rep.toRl
            by_cases hl0 : len = 0
            · subst hl0
              have : ys = [] := List.eq_nil_of_length_eq_zero hyl
              subst this
              exact rep_rs_nil a cap
            · have cell : ∀ (i : Nat) (ei : List AV) (j : Nat) (v : AV), (ys.map τ'.enc)[i]? = some ei → ei[j]? = some v → ∃ u, W.cell? (a.add (i * τ'.sz) |>.add j) = some u ∧ Rep (zAll W) noMap v u := by
                intro i ei j v hi hj
                rw [List.getElem?_map] at hi
                cases hy : ys[i]? with
                | none => rw [hy] at hi; cases hi
                | some y =>
                  rw [hy] at hi
                  simp only [Option.map_some, Option.some.injEq] at hi
                  subst hi
                  obtain ⟨⟨ci, hci, hcr⟩, _⟩ := hys i y hy
                  obtain ⟨g1, g2⟩ := cells_get hci
                  have hjl : j < ci.length := by rw [hcr.1, ← τ'.enc_length y]; exact (List.getElem?_eq_some_iff.1 hj).1
                  exact ⟨_, g2 j _ (List.getElem?_eq_getElem hjl), hcr.2 j v _ hj (List.getElem?_eq_getElem hjl)⟩
              have hspot : a.spot = none := by
                have h0 : (ys.map τ'.enc)[0]? = some (τ'.enc ys[0]) := by rw [List.getElem?_map, List.getElem?_eq_getElem (by omega)]; rfl
                have hj0 : 0 < (τ'.enc ys[0]).length := by rw [τ'.enc_length]; exact h2
                obtain ⟨u, hu, _⟩ := cell 0 _ 0 _ h0 (List.getElem?_eq_getElem hj0)
                simp only [Nat.zero_mul, Addr.add, if_pos] at hu
                cases hsp : a.spot with
                | none => rfl
                | some q =>
                  unfold World.cell? at hu
                  split at hu
                  · rw [hsp] at hu; simp at hu
                  · cases hu
              have ha : a = ⟨a.block, a.off, none⟩ := by cases a; simp only at hspot; subst hspot; rfl
              refine .rs (B := a.block) (off := a.off) (s := τ'.sz) (fun i j => (W.cell? ⟨a.block, a.off + i * τ'.sz + j, none⟩).getD Go.undef) (by simp [hyl]) hlc (.inl ha) (fun i ei hi => ?_) (fun i ei j v hi hj => ?_) fun i ei j v hi hj => ?_
              · rw [List.getElem?_map] at hi
                cases hy : ys[i]? with
                | none => rw [hy] at hi; cases hi
                | some y => rw [hy] at hi; injection hi with hi; subst hi; exact ⟨τ'.enc_length y, τ'.enc_oneC y⟩
              all_goals
                obtain ⟨u, hu, hr⟩ := cell i ei j v hi hj
                rw [ha, add_none, add_none] at hu
              · rw [hu]
                unfold World.cell? at hu
                unfold zcell zAll
                simp only at hu
                split at hu
                · rename_i c T fz hc
                  rw [hc]
                  simpa using hu
                · cases hu
              · rw [hu]; exact hr
          · obtain ⟨i, hi, hxi⟩ := List.mem_iff_getElem.1 hx
            exact (hys i x (by rw [List.getElem?_eq_getElem hi, hxi])).2
      · cases h
    · rename_i fs hu
      simp only [Bool.and_eq_true, beq_iff_eq] at h
      obtain ⟨xs, m, rfl, _, hl, hxl, hf⟩ := DataW.trod_struct hu hx
      have := fits_fields (cs := cs) (fun τ t cs x => trod_cells d m τ t cs x) fs.toList τ 0 h.2 (by omega) fun f hf' => by
        obtain ⟨i, hi, hfi⟩ := List.mem_iff_getElem.1 hf'
        have hi' : i < xs.length := by simp at hi; omega
        refine ⟨xs[i], ?_⟩
        rw [hf i f (by simp at hi; rw [Array.getElem?_eq_getElem hi, ← hfi]; simp), List.getElem?_eq_getElem hi']
      rw [List.drop_zero, List.take_of_length_le (by omega)] at this
      exact this
    · rename_i k e hu
      simp only [Bool.and_eq_true, beq_iff_eq] at h
      obtain ⟨xs, m, rfl, _, hl, hxl, hf⟩ := DataW.trod_array hu hx
      have := fits_fields (cs := cs) (fun τ t cs x => trod_cells d m τ t cs x) (arrFs P k e) τ 0 h.2 (by omega) fun f hf' => by
        obtain ⟨i, hi, rfl⟩ := List.mem_map.1 hf'
        have hi : i < k := List.mem_range.1 hi
        refine ⟨xs[i], ?_⟩
        have := hf i hi
        rw [List.getElem?_eq_getElem (by omega : i < xs.length)] at this
        exact this
      rw [List.drop_zero, List.take_of_length_le (by omega)] at this
      exact this
    · cases h

/-! ### Arguments of a row -/
def rngs : (ts : List Ty) → dens ts → Prop
  | [], _ => True
  | t :: ts, x => t.rng x.1 ∧ rngs ts x.2
def fitTop (P : Program) (d : Nat) (τ : Ty) (t : TypeId) : Bool :=
  fitTy P d τ t && (match τ with
    | .pr _ _ => true
    | _ => match P.underlying t with
      | some (.struct _) => false
      | some (.array _ _) => false
      | _ => true)
def fitAll (P : Program) (d : Nat) : List Ty → List TypeId → Bool
  | [], [] => true
  | τ :: τs, t :: ts => fitTop P d τ t && fitAll P d τs ts
  | _, _ => false

theorem trod_val {d : Nat} {τ : Ty} {t : TypeId} {v : Value} {x : DataW H} {ps : List MemPlace} (h : fitTop P d τ t = true) (hT : DataW.Trod enc P W 0 (fun _ => true) true t v x ps) (hok : Value.okWide P W .any 0 t v) :
    ∃ y : τ.den, Rep (zAll W) noMap (τ.val y) v ∧ τ.rng y := by
  unfold fitTop at h
  rw [Bool.and_eq_true] at h
  obtain ⟨n, hn⟩ := hT
  obtain ⟨y, ⟨hl, hc⟩, hr⟩ := trod_cells d n τ t _ _ h.1 hn
  refine ⟨y, ?_, hr⟩
  have hnot : (match P.underlying t with
      | some (.struct _) => false
      | some (.array _ _) => false
      | _ => true) = true → ∀ cs, v ≠ .agg cs := by
    intro hu cs hv
    subst hv
    unfold Value.okWide at hok
    split at hok
    · rename_i hs; rw [hs] at hu; cases hu
    · rename_i hs; rw [hs] at hu; cases hu
    · unfold Cell.okWide at hok
      split at hok <;> try (rename_i e; cases e; done)
      unfold Cell.ok at hok
      split at hok <;> first | (rename_i e; cases e; done) | exact hok
  have single : (∀ cs, v ≠ .agg cs) → v.cells = #[v] := fun hne => by
    cases v <;> first | rfl | exact absurd rfl (hne _)
  have one : ∀ (a : AV), τ.enc y = [a] → (∀ cs, v ≠ .agg cs) → Rep (zAll W) noMap a v := fun a ha hne => hc 0 a v (by rw [ha]; rfl) (by rw [single hne]; rfl)
  cases τ with
  | i k => exact one _ rfl (hnot h.2)
  | b => exact one _ rfl (hnot h.2)
  | s => exact one _ rfl (hnot h.2)
  | sl t' => exact one _ rfl (hnot h.2)
  | ar n t' =>
    exfalso
    have h2 : (match P.underlying t with
      | some (.struct _) => false
      | some (.array _ _) => false
      | _ => true) = true := h.2
    cases d with
    | zero => simp [fitTy] at h
    | succ d =>
      have h1 := h.1
      unfold fitTy at h1
      split at h1 <;> first | (cases h1; done) | (rename_i hu; rw [hu] at h2; cases h2)
  | pr a b =>
    have hs : (∃ fs, P.underlying t = some (.struct fs)) ∨ ∃ n e, P.underlying t = some (.array n e) := by
      cases d with
      | zero => simp [fitTy] at h
      | succ d =>
        have h1 := h.1
        unfold fitTy at h1
        split at h1
        · cases h1
        · cases h1
        · cases h1
        · cases h1
        · rename_i fs hu; exact .inl ⟨fs, hu⟩
        · rename_i n e hu; exact .inr ⟨n, e, hu⟩
        · cases h1
    have hv : ∃ cs, v = .agg cs := by
      unfold Value.okWide at hok
      rcases hs with ⟨fs, hu⟩ | ⟨n, e, hu⟩
      · rw [hu] at hok; obtain ⟨cs, rfl, _, _⟩ := hok; exact ⟨cs, rfl⟩
      · rw [hu] at hok; obtain ⟨cs, rfl, _, _⟩ := hok; exact ⟨cs, rfl⟩
    obtain ⟨cs, rfl⟩ := hv
    have hl : cs.toList.length = (Ty.pr a b).sz := hl
    refine .agg (by rw [Ty.enc_length, ← hl, Array.length_toList]) fun i w u hw hu => hc i w u hw (by rw [← hu]; exact Array.getElem?_toList)

theorem args_contents {d : Nat} : ∀ {τs : List Ty} {ts : List TypeId} {vs : List Value} {ds : List (DataW H)} {ps : List MemPlace}, fitAll P d τs ts = true → DataW.TrodAll enc P W 0 (fun _ => true) true ts vs ds ps →
    (∀ (j : Nat) t v, ts[j]? = some t → vs[j]? = some v → Value.okWide P W .any 0 t v) → ∃ y : dens τs, Reps (zAll W) noMap (vals τs y) vs.toArray ∧ rngs τs y
  | [], [], [], _, _, h, _, _ => ⟨(), ⟨rfl, fun i v u hv => by simp [vals] at hv⟩, trivial⟩
  | [], [], _ :: _, _, _, _, hT, _ => by simp [DataW.TrodAll] at hT
  | τ :: τs, t :: ts, [], _, _, _, hT, _ => by simp [DataW.TrodAll] at hT
  | τ :: τs, t :: ts, v :: vs, [], _, _, hT, _ => by simp [DataW.TrodAll] at hT
  | τ :: τs, t :: ts, v :: vs, x :: ds, ps, h, hT, hok => by
    simp only [fitAll, Bool.and_eq_true] at h
    obtain ⟨p, q, h1, h2, _⟩ := hT
    obtain ⟨y, hy, hry⟩ := trod_val h.1 h1 (hok 0 t v rfl rfl)
    obtain ⟨z, hz, hrz⟩ := args_contents (d := d) h.2 h2 fun j t' v' ht hv => hok (j + 1) t' v' (by simpa using ht) (by simpa using hv)
    refine ⟨(y, z), ?_, hry, hrz⟩
    have := reps_cons_mk hy hz
    rw [show (#[v] ++ vs.toArray : Array Value) = (v :: vs).toArray from by simp] at this
    exact this
  | [], t :: ts, _, _, _, h, _, _ => by simp [fitAll] at h
  | τ :: τs, [], _, _, _, h, _, _ => by simp [fitAll] at h

/-- The arguments, read again behind the call. -/
theorem trodAll_stays (hl : laidOutB P = true) {W' : World} (hb : Below W.heap.size W W') : ∀ {ts : List TypeId} {vs : List Value} {ds : List (DataW H)} {ps : List MemPlace}, (ts.all fun t => P.readableRec t && decide (t < P.types.size)) = true →
    DataW.TrodAll enc P W 0 (fun _ => true) true ts vs ds ps → (∀ x ∈ ps, x.block < W.heap.size) → ∀ sp : Nat → Bool, (∀ x ∈ ps, sp x.block = true) → DataW.TrodAll enc P W' 0 sp true ts vs ds ps
  | [], [], [], ps, _, hT, _, _, _ => hT
  | [], _ :: _, _, _, _, hT, _, _, _ => by simp [DataW.TrodAll] at hT
  | [], [], _ :: _, _, _, hT, _, _, _ => by simp [DataW.TrodAll] at hT
  | _ :: _, [], _, _, _, hT, _, _, _ => by simp [DataW.TrodAll] at hT
  | _ :: _, _ :: _, [], _, _, hT, _, _, _ => by simp [DataW.TrodAll] at hT
  | t :: ts, v :: vs, x :: ds, ps, hr, hT, hlt, sp, hsp => by
    simp only [List.all_cons, Bool.and_eq_true, decide_eq_true_eq] at hr
    obtain ⟨p, q, h1, h2, rfl⟩ := hT
    exact ⟨p, q, WideElems.Trod_stays hl hr.1.1 hr.1.2 h1 (fun x hx => hb.same (hlt x (List.mem_append_left _ hx))) fun x hx => hsp x (List.mem_append_left _ hx),
      trodAll_stays hl hb (by simpa using hr.2) h2 (fun x hx => hlt x (List.mem_append_right _ hx)) sp fun x hx => hsp x (List.mem_append_right _ hx), rfl⟩
end

/-- A law of contents: what its function's contract says of a row. -/
theorem law_of {P : Program} {k : FuncId} {τs : List Ty} {spec : Spec (τs.map .v) [.b]} (h : PCok P k (τs.map .v) [.b] spec) (hs : ∀ y : dens τs, rngs τs y → ∃ x : densA (τs.map .v), valsA (τs.map .v) x = vals τs y ∧ spec x fun r => r = (true, ())) {w : World} {us : Array Value} {y : dens τs}
    (hr : Reps (zAll w) noMap (vals τs y) us) (hy : rngs τs y) (gl : GlobOk (zAll w) := by exact globOk_none fun _ => rfl) : Calls P k us w fun e w' => e = .returned (.bool true) ∧ Below w.heap.size w w' := by
  obtain ⟨x, hx, hsx⟩ := hs y hy
  have := h x _ hsx
  rw [hx] at this
  refine calls_true (this.mono fun e G m he => ?_) hr gl
  obtain ⟨_, _, r, rfl, rfl⟩ := he
  rfl
end Go.Lom

/- How long a list of a row is: the form's own reach. No conditions of its own. -/
set_option linter.unusedSimpArgs false
set_option linter.unusedVariables false
set_option linter.constructorNameAsVariable false
namespace Go.Lom
open Go.RowKit Go.WideShapes Go.ChangeShapes

section
variable {H : Type} {enc : TypeId × Value → H} {P : Program} {W : World}
end
end Go.Lom
