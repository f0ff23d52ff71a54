/- Typed contents read out of abstract values: plain definitions, and that they say the same of memory once the blocks that they come from are frozen. No conditions. -/
import Derived.Test.YtnjaebjhfilljaaLomY
set_option linter.constructorNameAsVariable false
set_option linter.unusedSimpArgs false
set_option linter.unusedVariables false
namespace Go.Lom
open Go.RowKit

def castL {t' t : Ty} (h : t' = t) (xs : List t'.den) : List t.den := h ▸ xs
theorem castL_self {t : Ty} (h : t = t) (xs : List t.den) : castL h xs = xs := rfl

/-- Conditions, then something. -/
def req (b : Bool) (K : Prop) : Prop := match b with | true => K | false => False
theorem req_iff {b : Bool} {K : Prop} : req b K ↔ b = true ∧ K := by cases b <;> simp [req]
theorem req_dec {p : Prop} [Decidable p] {K : Prop} : req (decide p) K ↔ p ∧ K := by rw [req_iff, decide_eq_true_iff]
def allP : List Bool → Prop → Prop
  | [], K => K
  | p :: l, K => req p (allP l K)
theorem allP_iff : ∀ (l : List Bool) (K : Prop), allP l K ↔ (∀ p ∈ l, p = true) ∧ K
  | [], K => by simp [allP]
  | p :: l, K => by simp only [allP, req_iff, allP_iff l K, List.forall_mem_cons, and_assoc]

def mapD {α : Type} (d : List AV → Option (α × List Bool)) : List (List AV) → Option (List α × List Bool)
  | [] => some ([], [])
  | e :: es => match d e with
    | some (x, p) => match mapD d es with
      | some (xs, q) => some (x :: xs, p ++ q)
      | none => none
    | none => none

def seg {α : Type} (off len : Nat) (xs : List α) : List α := (xs.drop off).take len
theorem seg_all {α : Type} (xs : List α) : seg 0 xs.length xs = xs := by simp [seg]

/-- The elements of a slice, read as contents of a type. -/
def elemsD (H : Heap) (t : Ty) (d : List AV → Option (t.den × List Bool)) : AV → Option (List t.den × List Bool)
  | .nils => some ([], [])
  | .emp => some ([], [])
  | .rl t' xs => if h : t' = t then some (castL h xs, []) else none
  | .rs xs => mapD d xs
  | .sl b s off len _ => if s = t.sz then match H.get b with
      | some (.lst t' xs) => if h : t' = t then some (seg off len (castL h xs), [decide (off + len ≤ xs.length)]) else none
      | some (.row _ es) => if off + len ≤ es.length then mapD d (seg off len es) else none
      | _ => none
    else none
  | _ => none

def pairD {α β : Type} (x : Option (α × List Bool)) (y : Option (β × List Bool)) : Option ((α × β) × List Bool) :=
  match x with
  | some (a, p) => match y with
    | some (b, q) => some ((a, b), p ++ q)
    | none => none
  | none => none

def decI (k : IntKind) : List AV → Option (Int × List Bool)
  | [.int k' n] => if k = k' then some (n, []) else none
  | _ => none
def decB : List AV → Option (Bool × List Bool)
  | [.bool x] => some (x, [])
  | _ => none
def decS : List AV → Option (List UInt8 × List Bool)
  | [.str x] => some (x, [])
  | _ => none
def decL {α : Type} (f : AV → Option (α × List Bool)) : List AV → Option (α × List Bool)
  | [v] => f v
  | _ => none

/-- A content read out of cells: the content, and the conditions. -/
def Ty.dec (H : Heap) : (t : Ty) → List AV → Option (t.den × List Bool)
  | .i k => decI k
  | .b => decB
  | .s => decS
  | .sl t => decL (elemsD H t (t.dec H))
  | .pr x y => fun cs => pairD (x.dec H (cs.take x.sz)) (y.dec H (cs.drop x.sz))
def Ty.decV (H : Heap) : (t : Ty) → AV → Option (t.den × List Bool)
  | .pr x y, .agg cs => Ty.dec H (.pr x y) cs
  | .pr _ _, _ => none
  | t, v => t.dec H [v]

/-- Contents of several types. -/
abbrev dens : List Ty → Type
  | [] => Unit
  | t :: ts => t.den × dens ts
def vals : (ts : List Ty) → dens ts → List AV
  | [], _ => []
  | t :: ts, x => t.val x.1 :: vals ts x.2
def decVs (H : Heap) : (ts : List Ty) → List AV → Option (dens ts × List Bool)
  | [], [] => some ((), [])
  | t :: ts, v :: vs => pairD (t.decV H v) (decVs H ts vs)
  | _, _ => none

/-! ### No numbers of blocks -/

theorem enc_free {Z Z' : ZMap} (hZ : ZLe Z Z') {φ φ' : PMap} : ∀ (t : Ty) (x : t.den) (j : Nat) (v : AV) (u : Value), (t.enc x)[j]? = some v → Rep Z φ v u → Rep Z' φ' v u
  | .i k, n, j, v, u, hj, h => by
    cases j <;> simp [Ty.enc] at hj
    subst hj; cases h; exact .int _ _
  | .b, n, j, v, u, hj, h => by
    cases j <;> simp [Ty.enc] at hj
    subst hj; cases h; exact .bool _
  | .s, n, j, v, u, hj, h => by
    cases j <;> simp [Ty.enc] at hj
    subst hj; cases h; exact .str _
  | .sl t, xs, j, v, u, hj, h => by
    cases j <;> simp [Ty.enc] at hj
    subst hj
    have ih := enc_free hZ (φ := φ) (φ' := φ') t
    apply Rep.toRl
    have h := h.ofRl
    generalize hys : xs.map t.enc = ys at h
    cases h with
    | rs0 => exact .rs0
    | rs us hn hc ha h0 h1 h2 =>
      refine .rs us hn hc ha h0 (fun i e j v hi hj => zcell_mono hZ (h1 i e j v hi hj)) fun i e j v hi hj => ?_
      have hi' := hi
      rw [← hys, List.getElem?_map] at hi'
      cases hx : xs[i]? with
      | none => rw [hx] at hi'; cases hi'
      | some x =>
        rw [hx] at hi'; injection hi' with hi'
        exact ih x j v _ (by rw [hi']; exact hj) (h2 i e j v hi hj)
  | .pr a b, p, j, v, u, hj, h => by
    simp only [Ty.enc] at hj
    by_cases hlt : j < (a.enc p.1).length
    · rw [List.getElem?_append_left hlt] at hj
      exact enc_free hZ a p.1 j v u hj h
    · rw [List.getElem?_append_right (by omega)] at hj
      exact enc_free hZ b p.2 _ v u hj h
theorem val_free {Z Z' : ZMap} (hZ : ZLe Z Z') {φ φ' : PMap} (t : Ty) (x : t.den) {u : Value} (h : Rep Z φ (t.val x) u) : Rep Z' φ' (t.val x) u := by
  cases t with
  | i k => exact enc_free hZ (.i k) x 0 _ u rfl h
  | b => exact enc_free hZ .b x 0 _ u rfl h
  | s => exact enc_free hZ .s x 0 _ u rfl h
  | sl t => exact enc_free hZ (.sl t) x 0 _ u rfl h
  | pr a b =>
    simp only [Ty.val] at h ⊢
    cases h with
    | agg hl h => exact .agg hl fun i v u a b => enc_free hZ _ _ i v u a (h i v u a b)

/-- Cells that say no more than others. -/
def WeakC (Z Z' : ZMap) (φ φ' : PMap) (cs cs' : List AV) : Prop :=
  cs.length = cs'.length ∧ ∀ (j : Nat) (v : AV), cs[j]? = some v → ∃ v', cs'[j]? = some v' ∧ ∀ u, Rep Z φ v u → Rep Z' φ' v' u

theorem WeakC.append {Z Z' : ZMap} {φ φ' : PMap} {a b a' b' : List AV} (h : WeakC Z Z' φ φ' a a') (k : WeakC Z Z' φ φ' b b') : WeakC Z Z' φ φ' (a ++ b) (a' ++ b') := by
  refine ⟨by simp [h.1, k.1], fun j v hj => ?_⟩
  by_cases hlt : j < a.length
  · rw [List.getElem?_append_left hlt] at hj
    rw [List.getElem?_append_left (by have := h.1; omega)]
    exact h.2 j v hj
  · rw [List.getElem?_append_right (by omega)] at hj
    rw [List.getElem?_append_right (by have := h.1; omega), ← h.1]
    exact k.2 _ v hj

theorem mapD_get {α : Type} {d : List AV → Option (α × List Bool)} : ∀ {es : List (List AV)} {xs : List α} {ps : List Bool}, mapD d es = some (xs, ps) → es.length = xs.length ∧
    ∀ (i : Nat) (e : List AV), es[i]? = some e → ∃ x p, xs[i]? = some x ∧ d e = some (x, p) ∧ ∀ q ∈ p, q ∈ ps
  | [], xs, ps, h => by
    simp only [mapD, Option.some.injEq, Prod.mk.injEq] at h
    obtain ⟨rfl, rfl⟩ := h
    exact ⟨rfl, fun i e hi => by simp at hi⟩
  | e :: es, xs, ps, h => by
    simp only [mapD] at h
    split at h
    · rename_i x p hd
      split at h
      · rename_i ys q hm
        simp only [Option.some.injEq, Prod.mk.injEq] at h
        obtain ⟨rfl, rfl⟩ := h
        obtain ⟨h1, h2⟩ := mapD_get hm
        refine ⟨by simp [h1], fun i e' hi => ?_⟩
        cases i with
        | zero => simp at hi; subst hi; exact ⟨x, p, rfl, hd, fun q hq => List.mem_append_left _ hq⟩
        | succ i =>
          obtain ⟨y, r, hy, hr, hq⟩ := h2 i e' (by simpa using hi)
          exact ⟨y, r, by simpa using hy, hr, fun q hq' => List.mem_append_right _ (hq q hq')⟩
      · cases h
    · cases h

section
variable {base : Nat → Prop} {w0 : Start} {Z Z' : ZMap} {φ φ' : PMap} {H : Heap} {nx : Nat} {w : World}

/-- What of a heap is frozen. -/
def Froze (φ : PMap) (H : Heap) (w : World) (Z Z' : ZMap) : Prop :=
  ZLe Z Z' ∧ ∀ b x l, H.get b = some x → φ b = some l → Z' l.B = w.heap[l.B]?

/-- A row of a block that is frozen. -/
theorem rows_frozen {x : Ty} (hf : Froze φ H w Z Z') {b : Nat} {blk : Blk} {l : Loc} {s : Nat} {es : List (List AV)} (hb : H.get b = some blk) (hl : φ b = some l) (hr : rowRel Z φ w l s es)
    {off len c : Nat} {ys : List x.den} {a : Addr} (hs : s = x.sz) (hoff : off + len ≤ es.length) (hlen : len ≤ c) (ha : a = ⟨l.B, l.ob + off * l.s, none⟩ ∨ c = 0) (hy : ys.length = len)
    (hw : ∀ (i : Nat) (e : List AV), (seg off len es)[i]? = some e → ∃ y, ys[i]? = some y ∧ WeakC Z Z' φ φ' e (x.enc y)) : Rep Z' φ' (.rs (ys.map x.enc)) (.slice (some a) len c) := by
  obtain ⟨hs', hlim, cc, T, fz, hheap, hsz, _, he⟩ := hr
  have hZ' : Z' l.B = some (.cells cc T fz) := by rw [hf.2 b blk l hb hl, hheap]
  have cell : ∀ (i : Nat) (e : List AV) (j : Nat) (v : AV), (ys.map x.enc)[i]? = some e → e[j]? = some v → ∃ u, cc[l.ob + (off + i) * l.s + j]? = some u ∧ Rep Z' φ' v u := by
    intro i e j v hi hj
    have hil : i < len := by have := (List.getElem?_eq_some_iff.1 hi).1; simp at this; omega
    have hseg : (seg off len es)[i]? = es[off + i]? := by simp [seg, List.getElem?_take, hil]
    have hlt : off + i < es.length := by omega
    rw [List.getElem?_eq_getElem hlt] at hseg
    obtain ⟨y, hy1, hwk⟩ := hw i _ hseg
    rw [List.getElem?_map, hy1] at hi
    simp only [Option.map_some, Option.some.injEq] at hi
    subst hi
    obtain ⟨h1, h2, h3⟩ := he (off + i) _ (List.getElem?_eq_getElem hlt)
    have hjl : j < es[off + i].length := by rw [hwk.1]; exact (List.getElem?_eq_some_iff.1 hj).1
    obtain ⟨v', hv', hr'⟩ := hwk.2 j _ (List.getElem?_eq_getElem hjl)
    rw [hj] at hv'; injection hv' with hv'; subst hv'
    obtain ⟨u, hu, hru⟩ := h3 j _ (List.getElem?_eq_getElem hjl)
    exact ⟨u, hu, hr' u hru⟩
  have hls : l.s = x.sz := by rw [← hs', hs]
  refine .rs (B := l.B) (off := l.ob + off * l.s) (s := x.sz) (fun i j => cc.getD (l.ob + (off + i) * l.s + j) Go.undef) (by simp [hy]) hlen (by rcases ha with h | h; exact .inl h; exact .inr (by omega)) (fun i e hi => ?_) (fun i e j v hi hj => ?_) fun i e j v hi hj => ?_
  · rw [List.getElem?_map] at hi
    cases hx : ys[i]? with
    | none => rw [hx] at hi; cases hi
    | some y => rw [hx] at hi; injection hi with hi; subst hi; exact ⟨x.enc_length y, x.enc_oneC y⟩
  · obtain ⟨u, hu, _⟩ := cell i e j v hi hj
    unfold zcell
    rw [hZ']
    have e1 : l.ob + off * l.s + i * x.sz + j = l.ob + (off + i) * l.s + j := by rw [← hls, Nat.add_mul]; omega
    simp only
    rw [e1, hu]
    simp [Array.getD_eq_getD_getElem?, hu]
  · obtain ⟨u, hu, hr⟩ := cell i e j v hi hj
    simpa [Array.getD_eq_getD_getElem?, hu] using hr

theorem rep_rs_nil {Z : ZMap} {φ : PMap} (a : Addr) (c : Nat) : Rep Z φ (.rs []) (.slice (some a) 0 c) :=
  .rs (s := 0) (B := 0) (off := 0) (fun _ _ => Go.undef) rfl (Nat.zero_le _) (.inr rfl) (fun i e hi => by simp at hi) (fun i e j v hi => by simp at hi) (fun i e j v hi => by simp at hi)

/-- The blocks of a heap are what it says. -/
def OwnR (Z : ZMap) (φ : PMap) (H : Heap) (w : World) : Prop := ∀ b blk l, H.get b = some blk → φ b = some l → blkRel Z φ w l blk
theorem HRel.ownR (h : HRel base w0 Z φ H nx w) : OwnR Z φ H w := fun _ _ _ hb hl => (h.ownAt hb hl).2

theorem elemsD_ok (hh : OwnR Z φ H w) (hf : Froze φ H w Z Z') {t : Ty} {d : List AV → Option (t.den × List Bool)}
    (hd : ∀ cs x ps, d cs = some (x, ps) → (∀ p ∈ ps, p = true) → WeakC Z Z' φ φ' cs (t.enc x)) {v : AV} {u : Value} {xs : List t.den} {ps : List Bool} (h : elemsD H t d v = some (xs, ps)) (hp : ∀ p ∈ ps, p)
    (hv : Rep Z φ v u) : Rep Z' φ' (.rl t xs) u := by
  apply Rep.toRl
  unfold elemsD at h
  cases hv with
  | nils => simp only [Option.some.injEq, Prod.mk.injEq] at h; obtain ⟨rfl, rfl⟩ := h; exact .rs0
  | emp a => simp only [Option.some.injEq, Prod.mk.injEq] at h; obtain ⟨rfl, rfl⟩ := h; exact rep_rs_nil a 0
  | rl hr =>
    rename_i t' ys ao n c
    simp only at h
    split at h
    · rename_i ht
      subst ht
      simp only [Option.some.injEq, Prod.mk.injEq] at h
      obtain ⟨rfl, rfl⟩ := h
      exact (enc_free hf.1 (.sl t') ys 0 _ _ rfl hr.toRl).ofRl
    · cases h
  | rs0 =>
    simp only [mapD, Option.some.injEq, Prod.mk.injEq] at h
    obtain ⟨rfl, rfl⟩ := h; exact .rs0
  | rs us hn hc ha h0 h1 h2 =>
    rename_i es B off c s n a
    obtain ⟨hl, hg⟩ := mapD_get h
    have conv : ∀ (i : Nat) (e : List AV) (j : Nat) (v : AV), (xs.map t.enc)[i]? = some e → e[j]? = some v → ∃ e' v', es[i]? = some e' ∧ e'[j]? = some v' ∧ e'.length = t.sz ∧ Rep Z' φ' v (us i j) := by
      intro i e j v hi hj
      have hil : i < es.length := by have := (List.getElem?_eq_some_iff.1 hi).1; simp at this; omega
      obtain ⟨y, p, hy, hdy, hq⟩ := hg i _ (List.getElem?_eq_getElem hil)
      rw [List.getElem?_map, hy] at hi
      simp only [Option.map_some, Option.some.injEq] at hi
      subst hi
      have hw := hd _ _ _ hdy fun q hq' => hp q (hq q hq')
      have hjl : j < es[i].length := by rw [hw.1]; exact (List.getElem?_eq_some_iff.1 hj).1
      obtain ⟨v', hv', hr'⟩ := hw.2 j _ (List.getElem?_eq_getElem hjl)
      rw [hj] at hv'; injection hv' with hv'; subst hv'
      exact ⟨_, _, List.getElem?_eq_getElem hil, List.getElem?_eq_getElem hjl, by rw [hw.1, Ty.enc_length], hr' _ (h2 i _ j _ (List.getElem?_eq_getElem hil) (List.getElem?_eq_getElem hjl))⟩
    by_cases hnil : es = []
    · subst hnil
      have : xs = [] := List.eq_nil_of_length_eq_zero (by simpa using hl.symm)
      subst this
      simp only [List.length_nil] at hn
      subst hn
      exact rep_rs_nil a c
    have hs : s = t.sz := by
      cases es with
      | nil => exact absurd rfl hnil
      | cons e0 es0 =>
        obtain ⟨y, p, _, hdy, hq⟩ := hg 0 e0 rfl
        have := (hd _ _ _ hdy fun q hq' => hp q (hq q hq')).1
        rw [Ty.enc_length] at this
        rw [← (h0 0 e0 rfl).1, this]
    refine .rs us (by rw [List.length_map, ← hl]; exact hn) hc ha (s := s) (fun i e hi => ?_) (fun i e j v hi hj => ?_) fun i e j v hi hj => (let ⟨_, _, _, _, _, hr⟩ := conv i e j v hi hj; hr)
    · rw [List.getElem?_map] at hi
      cases hx : xs[i]? with
      | none => rw [hx] at hi; cases hi
      | some y => rw [hx] at hi; injection hi with hi; subst hi; exact ⟨by rw [t.enc_length y, hs], t.enc_oneC y⟩
    · obtain ⟨e', v', he', hv', _, _⟩ := conv i e j v hi hj
      exact zcell_mono hf.1 (h1 i e' j v' he' hv')
  | sl hl hls hc hlc hlm ha =>
    rename_i b s off len c l cap a
    simp only at h
    split at h
    · rename_i hst
      split at h
      · rename_i t' ys hb
        split at h
        · rename_i ht
          subst ht
          simp only [Option.some.injEq, Prod.mk.injEq] at h
          obtain ⟨rfl, rfl⟩ := h
          have hle : off + len ≤ ys.length := of_decide_eq_true (hp _ (List.mem_singleton.2 rfl))
          have hr := hh _ _ _ hb hl
          refine rows_frozen hf hb hl hr rfl (by simpa using hle) hlc (by rw [hls]; exact ha) (by simp [seg, castL_self]; omega) fun i e hi => ?_
          have e1 : seg off len (ys.map t'.enc) = (seg off len ys).map t'.enc := by simp [seg, List.map_take, List.map_drop]
          rw [e1, List.getElem?_map] at hi
          cases hy : (seg off len ys)[i]? with
          | none => rw [hy] at hi; cases hi
          | some y =>
            rw [hy] at hi; injection hi with hi; subst hi
            exact ⟨y, hy, rfl, fun j v hj => ⟨v, hj, fun u hu => enc_free hf.1 _ y j v u hj hu⟩⟩
        · cases h
      · rename_i s' es hb
        split at h
        · rename_i hle
          obtain ⟨hlx, hg⟩ := mapD_get h
          have hr := hh _ _ _ hb hl
          have hr : rowRel Z φ w l s' es := hr
          have hlen : (seg off len es).length = len := by simp [seg]; omega
          exact rows_frozen hf hb hl hr (by rw [hr.1, hls, hst]) hle hlc (by rw [hls]; exact ha) (by omega) fun i e hi =>
            let ⟨y, p, hy, hdy, hq⟩ := hg i e hi
            ⟨y, hy, hd _ _ _ hdy fun q hq' => hp q (hq q hq')⟩
        · cases h
      · cases h
    · cases h
  | sl0n hc =>
    rename_i b s off cap
    simp only at h
    split at h
    · split at h
      · split at h
        · simp only [Option.some.injEq, Prod.mk.injEq] at h
          obtain ⟨rfl, rfl⟩ := h
          simp [seg]; exact .rs0
        · cases h
      · split at h
        · simp only [seg, List.take_zero, mapD, Option.some.injEq, Prod.mk.injEq] at h
          obtain ⟨rfl, rfl⟩ := h; exact .rs0
        · cases h
      · cases h
    · cases h
  | sl0s hc a =>
    rename_i b s off cap
    simp only at h
    split at h
    · split at h
      · split at h
        · simp only [Option.some.injEq, Prod.mk.injEq] at h
          obtain ⟨rfl, rfl⟩ := h
          simp [seg]; exact rep_rs_nil a 0
        · cases h
      · split at h
        · simp only [seg, List.take_zero, mapD, Option.some.injEq, Prod.mk.injEq] at h
          obtain ⟨rfl, rfl⟩ := h; exact rep_rs_nil a 0
        · cases h
      · cases h
    · cases h
  | _ => cases h

theorem dec_ok (hh : OwnR Z φ H w) (hf : Froze φ H w Z Z') : ∀ (t : Ty) (cs : List AV) (x : t.den) (ps : List Bool), t.dec H cs = some (x, ps) → (∀ p ∈ ps, p = true) → WeakC Z Z' φ φ' cs (t.enc x)
  | .i k, cs, x, ps, h, hp => by
    have h : decI k cs = some (x, ps) := h
    unfold decI at h
    split at h
    · split at h
      · rename_i hk
        simp only [Option.some.injEq, Prod.mk.injEq] at h
        obtain ⟨rfl, rfl⟩ := h
        subst hk
        refine ⟨rfl, fun j v hj => ⟨v, hj, fun u hu => ?_⟩⟩
        cases j <;> simp at hj
        subst hj; cases hu; exact .int _ _
      · cases h
    · cases h
  | .b, cs, x, ps, h, hp => by
    have h : decB cs = some (x, ps) := h
    unfold decB at h
    split at h
    · simp only [Option.some.injEq, Prod.mk.injEq] at h
      obtain ⟨rfl, rfl⟩ := h
      refine ⟨rfl, fun j v hj => ⟨v, hj, fun u hu => ?_⟩⟩
      cases j <;> simp at hj
      subst hj; cases hu; exact .bool _
    · cases h
  | .s, cs, x, ps, h, hp => by
    have h : decS cs = some (x, ps) := h
    unfold decS at h
    split at h
    · simp only [Option.some.injEq, Prod.mk.injEq] at h
      obtain ⟨rfl, rfl⟩ := h
      refine ⟨rfl, fun j v hj => ⟨v, hj, fun u hu => ?_⟩⟩
      cases j <;> simp at hj
      subst hj; cases hu; exact .str _
    · cases h
  | .sl t, cs, x, ps, h, hp => by
    have h : decL (elemsD H t (t.dec H)) cs = some (x, ps) := h
    unfold decL at h
    split at h
    · refine ⟨rfl, fun j v hj => ⟨.rl t x, ?_, fun u hu => ?_⟩⟩
      · cases j <;> simp at hj
        rfl
      · cases j <;> simp at hj
        subst hj
        exact elemsD_ok hh hf (fun cs x ps h1 h2 => dec_ok hh hf t cs x ps h1 h2) h hp hu
    · cases h
  | .pr a b, cs, p, ps, h, hp => by
    have h : pairD (a.dec H (cs.take a.sz)) (b.dec H (cs.drop a.sz)) = some (p, ps) := h
    unfold pairD at h
    split at h
    · rename_i x q hx
      split at h
      · rename_i y r hy
        simp only [Option.some.injEq, Prod.mk.injEq] at h
        obtain ⟨rfl, rfl⟩ := h
        have h1 := dec_ok hh hf a _ x q hx fun p hp' => hp p (List.mem_append_left _ hp')
        have h2 := dec_ok hh hf b _ y r hy fun p hp' => hp p (List.mem_append_right _ hp')
        have := h1.append h2
        rw [List.take_append_drop] at this
        exact this
      · cases h
    · cases h

theorem decV_ok (hh : OwnR Z φ H w) (hf : Froze φ H w Z Z') {t : Ty} {v : AV} {x : t.den} {ps : List Bool} (h : t.decV H v = some (x, ps)) (hp : ∀ p ∈ ps, p) {u : Value} (hv : Rep Z φ v u) : Rep Z' φ' (t.val x) u := by
  have one : ∀ (t : Ty) (x : t.den), t.dec H [v] = some (x, ps) → (t.enc x)[0]? = some (t.val x) → Rep Z' φ' (t.val x) u := fun t x h he => by
    obtain ⟨_, h2⟩ := dec_ok (φ' := φ') hh hf t _ x ps h hp
    obtain ⟨v', hv', hr⟩ := h2 0 v rfl
    rw [he] at hv'; injection hv' with hv'; subst hv'
    exact hr u hv
  cases t with
  | i k => exact one (.i k) x h rfl
  | b => exact one .b x h rfl
  | s => exact one .s x h rfl
  | sl t => exact one (.sl t) x h rfl
  | pr a b =>
    cases hv with
    | agg hl hr =>
      rename_i cs us
      have h : Ty.dec H (.pr a b) cs = some (x, ps) := h
      obtain ⟨h1, h2⟩ := dec_ok (φ' := φ') hh hf (.pr a b) cs x ps h hp
      refine .agg (by rw [hl, h1]) fun i v u hv hu => ?_
      have hi : i < cs.length := by rw [h1]; exact (List.getElem?_eq_some_iff.1 hv).1
      obtain ⟨v', hv', hrv⟩ := h2 i _ (List.getElem?_eq_getElem hi)
      rw [hv] at hv'; injection hv' with hv'; subst hv'
      exact hrv u (hr i _ u (List.getElem?_eq_getElem hi) hu)
    | _ => simp [Ty.decV] at h

theorem decVs_ok (hh : OwnR Z φ H w) (hf : Froze φ H w Z Z') : ∀ (ts : List Ty) (vs : List AV) (x : dens ts) (ps : List Bool), decVs H ts vs = some (x, ps) → (∀ p ∈ ps, p = true) → ∀ us : Array Value, Reps Z φ vs us → Reps Z' φ' (vals ts x) us
  | [], [], x, ps, h, hp, us, hr => ⟨hr.1, fun i v u hv => by simp [vals] at hv⟩
  | [], _ :: _, x, ps, h, hp, us, hr => by simp [decVs] at h
  | _ :: _, [], x, ps, h, hp, us, hr => by simp [decVs] at h
  | t :: ts, v :: vs, x, ps, h, hp, us, hr => by
    simp only [decVs] at h
    unfold pairD at h
    split at h
    · rename_i y q hy
      split at h
      · rename_i z r hz
        simp only [Option.some.injEq, Prod.mk.injEq] at h
        obtain ⟨rfl, rfl⟩ := h
        have hsz := hr.1
        simp only [List.length_cons] at hsz
        have tail := decVs_ok hh hf ts vs z r hz (fun p hp' => hp p (List.mem_append_right _ hp')) (us.toList.tail.toArray) ⟨by simp [hsz], fun i v u hv hu => hr.2 (i + 1) v u (by simpa using hv) (by
          rw [List.getElem?_toArray, List.getElem?_tail, Array.getElem?_toList] at hu; exact hu)⟩
        refine ⟨by have := tail.1; simp [hsz] at this; simp [vals, hsz, this], fun i v' u hv hu => ?_⟩
        cases i with
        | zero =>
          simp only [vals, List.getElem?_cons_zero, Option.some.injEq] at hv
          subst hv
          exact decV_ok hh hf hy (fun p hp' => hp p (List.mem_append_left _ hp')) (hr.2 0 v u rfl hu)
        | succ i =>
          refine tail.2 i v' u (by simpa [vals] using hv) ?_
          rw [List.getElem?_toArray, List.getElem?_tail, Array.getElem?_toList]; exact hu
      · cases h
    · cases h

/-! ### Arguments: contents, variables that are only read, functions with these -/
inductive AT where
  | v (t : Ty)
  | ref (t : Ty)
  | clo (k : Nat) (first cap : List (Bool × Ty))
abbrev denP : List (Bool × Ty) → Type
  | [] => Unit
  | p :: l => p.2.den × denP l
abbrev AT.den : AT → Type
  | .v t => t.den
  | .ref t => t.den
  | .clo _ f c => denP f × denP c
def valP (b : Bool) (t : Ty) (x : t.den) : AV := match b with
  | false => t.val x
  | true => .rp (t.enc x) 0
def valPs : (l : List (Bool × Ty)) → denP l → List AV
  | [], _ => []
  | p :: l, x => valP p.1 p.2 x.1 :: valPs l x.2
def AT.val : (a : AT) → a.den → AV
  | .v t, x => t.val x
  | .ref t, x => .rp (t.enc x) 0
  | .clo k f c, x => .fn (.func k) (valPs f x.1) (valPs c x.2)
def decRef (H : Heap) (t : Ty) (v : AV) : Option (t.den × List Bool) :=
  match v with
  | .ptr b 0 0 => match H.get b with
    | some (.row _ [cs]) => t.dec H cs
    | _ => none
  | .rp e 0 => t.dec H e
  | _ => none
def decP (H : Heap) (b : Bool) (t : Ty) (v : AV) : Option (t.den × List Bool) := match b with
  | false => t.decV H v
  | true => decRef H t v
def decPs (H : Heap) : (l : List (Bool × Ty)) → List AV → Option (denP l × List Bool)
  | [], [] => some ((), [])
  | p :: l, v :: vs => pairD (decP H p.1 p.2 v) (decPs H l vs)
  | _, _ => none
def AT.dec (H : Heap) : (a : AT) → AV → Option (a.den × List Bool)
  | .v t, y => t.decV H y
  | .ref t, y => decRef H t y
  | .clo k f c, y => match y with
    | .fn (.func k') a b => if k = k' then pairD (decPs H f a) (decPs H c b) else none
    | _ => none
abbrev densA : List AT → Type
  | [] => Unit
  | t :: ts => t.den × densA ts
def valsA : (ts : List AT) → densA ts → List AV
  | [], _ => []
  | t :: ts, x => t.val x.1 :: valsA ts x.2
def decAs (H : Heap) : (ts : List AT) → List AV → Option (densA ts × List Bool)
  | [], [] => some ((), [])
  | t :: ts, y :: vs => pairD (t.dec H y) (decAs H ts vs)
  | _, _ => none

theorem decRef_ok (hh : OwnR Z φ H w) (hf : Froze φ H w Z Z') {t : Ty} {v : AV} {x : t.den} {ps : List Bool} (h : decRef H t v = some (x, ps)) (hp : ∀ p ∈ ps, p = true) {u : Value} (hv : Rep Z φ v u) : Rep Z' φ' (.rp (t.enc x) 0) u := by
  unfold decRef at h
  split at h
  · rename_i b
    split at h
    · rename_i s cs hb
      cases hv with
      | ptr hl =>
        rename_i l
        have hr : rowRel Z φ w l s [cs] := hh _ _ _ hb hl
        obtain ⟨r1, r2, c, T, fz, r3, r4, r5, r6⟩ := hr
        have hw := dec_ok (φ' := φ') hh hf t cs x ps h hp
        obtain ⟨g1, g2, g3⟩ := r6 0 cs rfl
        have hZ' : Z' l.B = some (.cells c T fz) := by rw [hf.2 b _ l hb hl, r3]
        have cell : ∀ (j : Nat) (v : AV), (t.enc x)[j]? = some v → ∃ u, c[l.ob + j]? = some u ∧ Rep Z' φ' v u := by
          intro j v hj
          have hjl : j < cs.length := by rw [hw.1]; exact (List.getElem?_eq_some_iff.1 hj).1
          obtain ⟨v', hv', hr'⟩ := hw.2 j _ (List.getElem?_eq_getElem hjl)
          rw [hj] at hv'; injection hv' with hv'; subst hv'
          obtain ⟨u, hu, hru⟩ := g3 j _ (List.getElem?_eq_getElem hjl)
          exact ⟨u, by simpa using hu, hr' u hru⟩
        have := Rep.rp (Z := Z') (φ := φ') (e := t.enc x) (o := 0) (B := l.B) (off := l.ob) (fun j => c.getD (l.ob + j) Go.undef) (fun j v hj => by
          obtain ⟨u, hu, _⟩ := cell j v hj
          unfold zcell; rw [hZ']; simp only; rw [hu]; simp [Array.getD_eq_getD_getElem?, hu]) (fun j v hj => by
          obtain ⟨u, hu, hr⟩ := cell j v hj
          simpa [Array.getD_eq_getD_getElem?, hu] using hr)
        simpa using this
    · cases h
  · rename_i e
    cases hv with
    | rp us h1 h2 =>
      have hw := dec_ok (φ' := φ') hh hf t e x ps h hp
      have cell : ∀ (j : Nat) (v : AV), (t.enc x)[j]? = some v → ∃ v', e[j]? = some v' ∧ Rep Z' φ' v (us j) := by
        intro j v hj
        have hjl : j < e.length := by rw [hw.1]; exact (List.getElem?_eq_some_iff.1 hj).1
        obtain ⟨v', hv', hr'⟩ := hw.2 j _ (List.getElem?_eq_getElem hjl)
        rw [hj] at hv'; injection hv' with hv'; subst hv'
        exact ⟨_, List.getElem?_eq_getElem hjl, hr' _ (h2 j _ (List.getElem?_eq_getElem hjl))⟩
      exact .rp us (fun j v hj => let ⟨v', hv', _⟩ := cell j v hj; zcell_mono hf.1 (h1 j v' hv')) fun j v hj => (let ⟨_, _, hr⟩ := cell j v hj; hr)
  · cases h

theorem reps_cons {v : AV} {vs : List AV} {us : Array Value} (h : Reps Z φ (v :: vs) us) : ∃ u ws, us = #[u] ++ ws ∧ Rep Z φ v u ∧ Reps Z φ vs ws := by
  have hsz := h.1
  simp only [List.length_cons] at hsz
  have h0 : 0 < us.size := by omega
  refine ⟨us[0], us.toList.tail.toArray, ?_, h.2 0 v _ rfl (Array.getElem?_eq_getElem h0), by simp [hsz], fun i x u hx hu => h.2 (i + 1) x u (by simpa using hx) (by
    rw [List.getElem?_toArray, List.getElem?_tail, Array.getElem?_toList] at hu; exact hu)⟩
  apply Array.ext'
  cases hl : us.toList with
  | nil => rw [← Array.length_toList, hl] at hsz; cases hsz
  | cons a l =>
    have : us[0] = a := by
      have h1 : us.toList[0]? = some a := by rw [hl]; rfl
      rw [Array.getElem?_toList, Array.getElem?_eq_getElem h0] at h1
      injection h1
    simp [this]
theorem reps_cons_mk {v : AV} {vs : List AV} {u : Value} {ws : Array Value} (h1 : Rep Z φ v u) (h2 : Reps Z φ vs ws) : Reps Z φ (v :: vs) (#[u] ++ ws) := by
  have h3 := h2.1
  refine ⟨by rw [Array.size_append]; simp only [List.length_cons]; have : (#[u] : Array Value).size = 1 := rfl; omega, fun i x y hx hy => ?_⟩
  rw [Array.getElem?_append] at hy
  cases i with
  | zero =>
    have hy : some u = some y := hy
    have hx : some v = some x := hx
    injection hx with hx; injection hy with hy
    subst hx hy; exact h1
  | succ i =>
    rw [if_neg (by show ¬ i + 1 < 1; omega)] at hy
    exact h2.2 i x y hx hy

theorem pairD_some {α β : Type} {x : Option (α × List Bool)} {y : Option (β × List Bool)} {r : α × β} {ps : List Bool} (h : pairD x y = some (r, ps)) (hp : ∀ p ∈ ps, p = true) : ∃ p q, x = some (r.1, p) ∧ y = some (r.2, q) ∧ (∀ b ∈ p, b = true) ∧ ∀ b ∈ q, b = true := by
  cases x with
  | none => cases h
  | some x => cases y with
    | none => cases h
    | some y =>
      obtain ⟨a, p⟩ := x
      obtain ⟨b, q⟩ := y
      simp only [pairD, Option.some.injEq, Prod.mk.injEq] at h
      obtain ⟨rfl, rfl⟩ := h
      exact ⟨p, q, rfl, rfl, fun b hb => hp b (List.mem_append_left _ hb), fun b hb => hp b (List.mem_append_right _ hb)⟩

theorem decPs_ok (hh : OwnR Z φ H w) (hf : Froze φ H w Z Z') : ∀ (l : List (Bool × Ty)) (vs : List AV) (x : denP l) (ps : List Bool), decPs H l vs = some (x, ps) → (∀ p ∈ ps, p = true) → ∀ us : Array Value, Reps Z φ vs us → Reps Z' φ' (valPs l x) us
  | [], [], x, ps, h, hp, us, hr => ⟨hr.1, fun i v u hv => by simp [valPs] at hv⟩
  | [], _ :: _, x, ps, h, hp, us, hr => by simp [decPs] at h
  | _ :: _, [], x, ps, h, hp, us, hr => by simp [decPs] at h
  | p :: l, v :: vs, x, ps, h, hp, us, hr => by
    obtain ⟨q, r, h1, h2, k1, k2⟩ := pairD_some (show pairD _ _ = some (x, ps) from h) hp
    obtain ⟨u, ws, rfl, hu, hws⟩ := reps_cons hr
    refine reps_cons_mk ?_ (decPs_ok hh hf l vs x.2 r h2 k2 ws hws)
    obtain ⟨b, t⟩ := p
    cases b with
    | false => exact decV_ok hh hf (show t.decV H v = some _ from h1) k1 hu
    | true => exact decRef_ok hh hf (show decRef H t v = some _ from h1) k1 hu
theorem decA_ok (hh : OwnR Z φ H w) (hf : Froze φ H w Z Z') {a : AT} {v : AV} {x : a.den} {ps : List Bool} (h : a.dec H v = some (x, ps)) (hp : ∀ p ∈ ps, p = true) {u : Value} (hv : Rep Z φ v u) : Rep Z' φ' (a.val x) u := by
  cases a with
  | v t => exact decV_ok hh hf (show t.decV H v = some _ from h) hp hv
  | ref t => exact decRef_ok hh hf (show decRef H t v = some _ from h) hp hv
  | clo k f c =>
    simp only [AT.dec] at h
    split at h
    · rename_i k' as bs
      split at h
      · rename_i hk
        subst hk
        obtain ⟨q, r, h1, h2, k1, k2⟩ := pairD_some h hp
        cases hv with
        | fn hx hy g1 g2 =>
          have q1 := decPs_ok (φ' := φ') hh hf f as x.1 q h1 k1 _ ⟨hx, g1⟩
          have q2 := decPs_ok (φ' := φ') hh hf c bs x.2 r h2 k2 _ ⟨hy, g2⟩
          exact .fn q1.1 q2.1 q1.2 q2.2
      · cases h
    · cases h
theorem decAs_ok (hh : OwnR Z φ H w) (hf : Froze φ H w Z Z') : ∀ (ts : List AT) (vs : List AV) (x : densA ts) (ps : List Bool), decAs H ts vs = some (x, ps) → (∀ p ∈ ps, p = true) → ∀ us : Array Value, Reps Z φ vs us → Reps Z' φ' (valsA ts x) us
  | [], [], x, ps, h, hp, us, hr => ⟨hr.1, fun i v u hv => by simp [valsA] at hv⟩
  | [], _ :: _, x, ps, h, hp, us, hr => by simp [decAs] at h
  | _ :: _, [], x, ps, h, hp, us, hr => by simp [decAs] at h
  | t :: ts, v :: vs, x, ps, h, hp, us, hr => by
    obtain ⟨q, r, h1, h2, k1, k2⟩ := pairD_some (show pairD _ _ = some (x, ps) from h) hp
    obtain ⟨u, ws, rfl, hu, hws⟩ := reps_cons hr
    exact reps_cons_mk (decA_ok hh hf h1 k1 hu) (decAs_ok hh hf ts vs x.2 r h2 k2 ws hws)
end
end Go.Lom
