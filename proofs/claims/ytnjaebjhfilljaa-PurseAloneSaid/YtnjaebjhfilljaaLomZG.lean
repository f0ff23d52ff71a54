/- Loops: the shape of their states, and how they are proved. No conditions of its own. -/
import Derived.Test.YtnjaebjhfilljaaLomZF
set_option linter.unusedSimpArgs false
set_option linter.unusedVariables false
set_option linter.constructorNameAsVariable false
namespace Go.Lom
open Go.RowKit

/-- What a slot holds: a value; a list of its own; a variable with a value; a variable with a list of its own; a function with variables. -/
inductive Sh where
  | v (t : Ty)
  | a (t : AT)
  | own (t : Ty)
  | box (t : Ty)
  | boxOwn (t : Ty)
  | fn (k : Nat) (first cap : List Nat)
abbrev Sh.den : Sh → Type
  | .v t => t.den
  | .a t => t.den
  | .own t => List t.den
  | .box t => t.den
  | .boxOwn t => List t.den
  | .fn _ _ _ => Unit
abbrev Shape := List (Nat × Sh)
abbrev shDen : Shape → Type
  | [] => Unit
  | p :: s => p.2.den × shDen s

def put1 (d : Nat) : (h : Sh) → h.den → Fr × Heap × Nat → Fr × Heap × Nat
  | .v t, x, (F, H, n) => ((d, t.val x) :: F, H, n)
  | .a t, x, (F, H, n) => ((d, t.val x) :: F, H, n)
  | .own t, xs, (F, H, n) => ((d, .sl n t.sz 0 xs.length none) :: F, (n, .lst t xs) :: H, n + 1)
  | .box t, x, (F, H, n) => ((d, .ptr n 0 0) :: F, (n, .row t.sz [t.enc x]) :: H, n + 1)
  | .boxOwn t, xs, (F, H, n) => ((d, .ptr (n + 1) 0 0) :: F, (n + 1, .row 1 [[.sl n t.sz 0 xs.length none]]) :: (n, .lst t xs) :: H, n + 2)
  | .fn k first cap, _, (F, H, n) => ((d, .fn (.func k) (first.map F.get) (cap.map F.get)) :: F, H, n)
def putAll : (s : Shape) → shDen s → Fr × Heap × Nat → Fr × Heap × Nat
  | [], _, a => a
  | p :: s, x, a => putAll s x.2 (put1 p.1 p.2 x.1 a)
/-- The state of a shape. -/
def shSt (s : Shape) (x : shDen s) : St :=
  match putAll s x ([], [], 0) with
  | (F, H, n) => ⟨F, H, n, []⟩

/-- The blocks that a state's lists and variables own. -/
def nameL : AV → List Nat
  | .sl b _ _ _ _ => [b]
  | _ => []
def own1 (σ : St) (d : Nat) : Sh → List Nat
  | .own _ => nameL (σ.fr.get d)
  | .box _ => match σ.fr.get d with
    | .ptr b _ _ => [b]
    | _ => []
  | .boxOwn _ => match σ.fr.get d with
    | .ptr b _ _ => match σ.H.get b with
      | some (.row _ [[v]]) => nameL v ++ [b]
      | _ => [b]
    | _ => []
  | _ => []
def ownN (σ : St) : Shape → List Nat
  | [] => []
  | p :: s => own1 σ p.1 p.2 ++ ownN σ s

/-- A list of its own: where it lies ('none': nowhere), and what is in it. -/
def listD (H : Heap) (t : Ty) (v : AV) : Option (List t.den × List Bool) :=
  match v with
  | .nils => some ([], [])
  | .emp => some ([], [])
  | .sl b s off len c => elemsD H t (t.dec []) (.sl b s off len c)
  | _ => none
def sameP : AV → AV → Bool
  | .ptr b i o, .ptr c j p => b == c && i == j && o == p
  | _, _ => false
def samePs : List AV → List AV → Bool
  | [], [] => true
  | x :: l, y :: m => sameP x y && samePs l m
  | _, _ => false
def get1 (σ : St) (Hf : Heap) (d : Nat) : (h : Sh) → Option (h.den × List Bool)
  | .v t => t.decV Hf (σ.fr.get d)
  | .a t => t.dec Hf (σ.fr.get d)
  | .own t => listD σ.H t (σ.fr.get d)
  | .box t => match σ.fr.get d with
    | .ptr b 0 0 => match σ.H.get b with
      | some (.row _ [cs]) => t.dec Hf cs
      | _ => none
    | _ => none
  | .boxOwn t => match σ.fr.get d with
    | .ptr b 0 0 => match σ.H.get b with
      | some (.row _ [[v]]) => listD σ.H t v
      | _ => none
    | _ => none
  | .fn k first cap => match σ.fr.get d with
    | .fn (.func k') a b => if k = k' ∧ samePs a (first.map σ.fr.get) = true ∧ samePs b (cap.map σ.fr.get) = true then some ((), []) else none
    | _ => none
def getAll (σ : St) (Hf : Heap) : (s : Shape) → Option (shDen s × List Bool)
  | [] => some ((), [])
  | p :: s => pairD (get1 σ Hf p.1 p.2) (getAll σ Hf s)
def noDup : List Nat → Bool
  | [] => true
  | a :: l => !l.contains a && noDup l
/-- The contents of a state of a shape. -/
def exSt (s : Shape) (σ : St) : Option (shDen s × List Bool) :=
  match σ.df with
  | [] => match noDup (ownN σ s) with
    | true => getAll σ (dropN (ownN σ s) σ.H) s
    | false => none
  | _ => none

/-- One state says all that another one does. -/
def Ent (σ σ' : St) : Prop := ∀ P base w0 Z φ N a w, SRel P base w0 Z φ N σ a w → ∃ Z' φ', ZLe Z Z' ∧ SRel P base w0 Z' φ' N σ' a w

section
variable {base : Nat → Prop} {w0 : Start} {Z Z' : ZMap} {φ φ' : PMap} {H : Heap} {nx : Nat} {w w' : World}

/-- A block that is there already comes under a new number. -/
theorem HRel.intro (h : HRel base w0 Z φ H nx w) {x : Blk} {l : Loc} (hz : Z l.B = none) (hlt : l.B < w.heap.size) (hob : base l.B → w0.world.heap.size ≤ l.B) (hdis : ∀ i y l', H.get i = some y → φ i = some l' → l'.B ≠ l.B)
    (hx : blkRel Z (φ.set nx l) w l x) : HRel base w0 Z (φ.set nx l) ((nx, x) :: H) (nx + 1) w := by
  have hfr := h.fresh (Nat.le_refl nx)
  have hle := PMap.le_set (x := l) hfr
  have look : ∀ c z, Heap.get ((nx, x) :: H) c = some z → (c = nx ∧ z = x) ∨ (c ≠ nx ∧ H.get c = some z) := by
    intro c z hz
    simp only [Heap.get] at hz
    by_cases e : c = nx
    · rw [if_pos e] at hz; injection hz with hz; exact .inl ⟨e, hz.symm⟩
    · rw [if_neg e] at hz; exact .inr ⟨e, hz⟩
  have lk : ∀ c l', (φ.set nx l) c = some l' → (c = nx ∧ l' = l) ∨ (c ≠ nx ∧ φ c = some l') := by
    intro c l' hc
    unfold PMap.set at hc
    by_cases e : c = nx
    · rw [if_pos e] at hc; injection hc with hc; exact .inl ⟨e, hc.symm⟩
    · rw [if_neg e] at hc; exact .inr ⟨e, hc⟩
  refine ⟨h.below, h.z, h.z0, fun c l' hc => ?_, fun c z hz => ?_, fun c l' hc => ?_, fun c z hz' => ?_, fun c c' z z' l1 l2 hne hc hc' h1 h2 => ?_, fun c z l1 hc h1 hu => ?_⟩
  · rcases lk c l' hc with ⟨e, _⟩ | ⟨_, g⟩
    · rw [e]; exact Nat.lt_succ_self _
    · exact Nat.lt_succ_of_lt (h.fnx c l' g)
  · rcases look c z hz with ⟨e, _⟩ | ⟨_, g⟩
    · rw [e]; exact Nat.lt_succ_self _
    · exact Nat.lt_succ_of_lt (h.hnx c z g)
  · rcases lk c l' hc with ⟨_, e⟩ | ⟨_, g⟩
    · rw [e]; exact hlt
    · exact h.flt c l' g
  · rcases look c z hz' with ⟨e1, e2⟩ | ⟨hne, g⟩
    · rw [e1, e2]; exact .inr ⟨l, PMap.set_self _ _ _, hz, hx⟩
    · rcases h.own' c z g with ⟨hg, hf⟩ | ⟨l', hf, hz2, hr⟩
      · exact .inl ⟨hg, by unfold PMap.set; rw [if_neg hne]; exact hf⟩
      · exact .inr ⟨l', hle _ _ hf, hz2, hr.mono (ZLe.refl _) hle rfl⟩
  · rcases look c z hc with ⟨e1, _⟩ | ⟨n1, g1⟩
    · rcases look c' z' hc' with ⟨e2, _⟩ | ⟨n2, g2⟩
      · exact absurd (e1.trans e2.symm) hne
      · rcases lk _ _ h1 with ⟨_, e3⟩ | ⟨n3, _⟩
        · rcases lk _ _ h2 with ⟨e, _⟩ | ⟨_, k2⟩
          · exact absurd e n2
          · rw [e3]; exact fun e => hdis c' z' l2 g2 k2 e.symm
        · exact absurd e1 n3
    · rcases lk _ _ h1 with ⟨e, _⟩ | ⟨_, k1⟩
      · exact absurd e n1
      · rcases look c' z' hc' with ⟨e2, _⟩ | ⟨n2, g2⟩
        · rcases lk _ _ h2 with ⟨_, e3⟩ | ⟨n3, _⟩
          · rw [e3]; exact hdis c z l1 g1 k1
          · exact absurd e2 n3
        · rcases lk _ _ h2 with ⟨e, _⟩ | ⟨_, k2⟩
          · exact absurd e n2
          · exact h.inj c c' z z' l1 l2 hne g1 g2 k1 k2
  · rcases look c z hc with ⟨e1, _⟩ | ⟨n1, g1⟩
    · rcases lk _ _ h1 with ⟨_, e3⟩ | ⟨n3, _⟩
      · rw [e3] at hu ⊢; exact hob hu
      · exact absurd e1 n3
    · rcases lk _ _ h1 with ⟨e, _⟩ | ⟨_, k1⟩
      · exact absurd e n1
      · exact h.ob c z l1 g1 k1 hu
/-- A number for a list of which there is no block. -/
theorem HRel.introGhost (h : HRel base w0 Z φ H nx w) (t : Ty) : HRel base w0 Z φ ((nx, .lst t []) :: H) (nx + 1) w :=
  (h.ghostNew t).sub fun c z hz => by
    rw [Heap.get_set]
    simp only [Heap.get] at hz
    exact hz

theorem noDup_nodup : ∀ {l : List Nat}, noDup l = true → l.Nodup
  | [], _ => List.nodup_nil
  | a :: l, h => by
    simp only [noDup, Bool.and_eq_true, Bool.not_eq_true', List.contains_eq_mem, decide_eq_false_iff_not] at h
    exact List.nodup_cons.2 ⟨h.1, noDup_nodup h.2⟩

/-- A row, known in another way, by what is frozen. -/
theorem rowRel_to {l : Loc} {s : Nat} {t : Ty} {es : List (List AV)} {xs : List t.den} (h : rowRel Z φ w l s es) (hs : s = t.sz) (hl : xs.length = es.length)
    (hw : ∀ (i : Nat) (e : List AV), es[i]? = some e → ∃ x, xs[i]? = some x ∧ WeakC Z Z' φ φ' e (t.enc x)) : rowRel Z' φ' w l t.sz (xs.map t.enc) := by
  obtain ⟨h1, h2, c, T, fz, h3, h4, h5, h6⟩ := h
  refine ⟨by rw [← hs, h1], by simp; omega, c, T, fz, h3, h4, h5, fun i e hi => ?_⟩
  have hil : i < es.length := by have := (List.getElem?_eq_some_iff.1 hi).1; simp at this; omega
  obtain ⟨x, hx, hwk⟩ := hw i _ (List.getElem?_eq_getElem hil)
  rw [List.getElem?_map, hx] at hi
  simp only [Option.map_some, Option.some.injEq] at hi
  subst hi
  obtain ⟨g1, g2, g3⟩ := h6 i _ (List.getElem?_eq_getElem hil)
  refine ⟨by rw [← hwk.1]; exact g1, t.enc_oneC x, fun j v hj => ?_⟩
  have hjl : j < es[i].length := by rw [hwk.1]; exact (List.getElem?_eq_some_iff.1 hj).1
  obtain ⟨u, hu, hr⟩ := g3 j _ (List.getElem?_eq_getElem hjl)
  obtain ⟨v', hv', hr'⟩ := hwk.2 j _ (List.getElem?_eq_getElem hjl)
  rw [hj] at hv'; injection hv' with hv'; subst hv'
  exact ⟨u, hu, hr' u hr⟩
theorem WeakS.to {cs : List AV} {t : Ty} {x : t.den} (h : WeakS cs (t.enc x)) (hZ : ZLe Z Z') : WeakC Z Z' φ φ' cs (t.enc x) :=
  ⟨(h Z φ).1, fun j v hj => let ⟨v', h1, h2⟩ := (h Z φ).2 j v hj; ⟨v', h1, fun u hu => enc_free hZ t x j v' u h1 (h2 u hu)⟩⟩

theorem elemsD_sl {t : Ty} {b s off len : Nat} {c : Option Nat} {xs : List t.den} {ps : List Bool} (h : elemsD H t (t.dec []) (.sl b s off len c) = some (xs, ps)) (hp : ∀ p ∈ ps, p = true) :
    ∃ blk s4 es, H.get b = some blk ∧ asRow blk = some (s4, es) ∧ s = t.sz ∧ off + len ≤ es.length ∧ xs.length = len ∧ ∀ (i : Nat) (e : List AV), (seg off len es)[i]? = some e → ∃ x, xs[i]? = some x ∧ WeakS e (t.enc x) := by
  unfold elemsD at h
  simp only at h
  split at h
  rotate_left
  · cases h
  rename_i hs
  split at h
  · rename_i t' zs hb
    split at h
    · rename_i ht
      subst ht
      simp only [Option.some.injEq, Prod.mk.injEq] at h
      obtain ⟨rfl, rfl⟩ := h
      have hle : off + len ≤ zs.length := of_decide_eq_true (hp _ (List.mem_singleton.2 rfl))
      refine ⟨_, _, _, hb, rfl, hs, by simpa using hle, by simp [seg, castL_self]; omega, fun i e hi => ?_⟩
      have e1 : seg off len (zs.map t'.enc) = (seg off len zs).map t'.enc := by simp [seg, List.map_take, List.map_drop]
      rw [e1, List.getElem?_map] at hi
      cases hy : (seg off len zs)[i]? with
      | none => rw [hy] at hi; cases hi
      | some y => rw [hy] at hi; injection hi with hi; subst hi; exact ⟨y, hy, WeakS.refl _⟩
    · cases h
  · rename_i s4 es hb
    split at h
    · rename_i hle
      obtain ⟨k1, k2⟩ := mapD_get h
      refine ⟨_, _, _, hb, rfl, hs, hle, by rw [← k1]; simp [seg]; omega, fun i e hi => ?_⟩
      obtain ⟨x, p, hx, hd, hq⟩ := k2 i e hi
      exact ⟨x, hx, dec_weak hd fun q hq' => hp q (hq q hq')⟩
    · cases h
  · cases h

/-- The state half read: 'used': the old numbers that have new ones. -/
structure Half (base : Nat → Prop) (w0 : Start) (Zf : ZMap) (φ0 : PMap) (H0 : Heap) (tmps : Array Value) (w : World) (φ : PMap) (used : List Nat) (F : Fr) (H : Heap) (n : Nat) : Prop where
  heap : HRel base w0 Zf φ H n w
  src : ∀ i y l, H.get i = some y → φ i = some l → ∃ b ∈ used, ∃ y0 l0, H0.get b = some y0 ∧ φ0 b = some l0 ∧ l0.B = l.B
  fr : FrRel Zf φ F tmps

/-- A list of its own comes under a new number. -/
theorem list_step {H0 : Heap} {φ0 : PMap} {n0 : Nat} (hh : HRel base w0 Z φ0 H0 n0 w) (hZ : ZLe Z Z') {F : Fr} {n : Nat} {tmps : Array Value} {used : List Nat} (hf : Half base w0 Z' φ0 H0 tmps w φ used F H n)
    {t : Ty} {v : AV} {u : Value} {xs : List t.den} {ps : List Bool} (hv : Rep Z φ0 v u) (h : listD H0 t v = some (xs, ps)) (hp : ∀ p ∈ ps, p = true)
    (hfree : ∀ b s off len c, v = .sl b s off len c → b ∉ used ∧ ∀ y l, H0.get b = some y → φ0 b = some l → Z' l.B = none) :
    ∃ φ', PLe φ φ' ∧ Rep Z' φ' (.sl n t.sz 0 xs.length none) u ∧ Half base w0 Z' φ0 H0 tmps w φ' (used ++ nameL v) F ((n, .lst t xs) :: H) (n + 1) := by
  have ghost : ∀ ao (more : List Nat), u = .slice ao 0 0 → xs = [] → ∃ φ', PLe φ φ' ∧ Rep Z' φ' (.sl n t.sz 0 xs.length none) u ∧ Half base w0 Z' φ0 H0 tmps w φ' (used ++ more) F ((n, .lst t xs) :: H) (n + 1) := by
    intro ao more hu hx
    subst hu hx
    refine ⟨φ, PLe.refl _, ?_, hf.heap.introGhost t, fun i y l hi hl => ?_, hf.fr⟩
    · cases ao with
      | none => exact .sl0n (cap := none) (Nat.le_refl 0)
      | some a => exact .sl0s (cap := none) (Nat.le_refl 0) a
    · have hne : i ≠ n := by rintro rfl; rw [hf.heap.fresh (Nat.le_refl i)] at hl; cases hl
      simp only [Heap.get] at hi
      rw [if_neg hne] at hi
      obtain ⟨b, hb, r⟩ := hf.src i y l hi hl
      exact ⟨b, List.mem_append_left _ hb, r⟩
  unfold listD at h
  split at h
  · cases hv
    simp only [Option.some.injEq, Prod.mk.injEq] at h
    exact ghost none _ rfl h.1.symm
  · cases hv
    simp only [Option.some.injEq, Prod.mk.injEq] at h
    exact ghost (some _) _ rfl h.1.symm
  · rename_i b s off len c
    obtain ⟨blk, s4, es, hb, hrow, hs, hle, hxl, hw⟩ := elemsD_sl h hp
    cases hv with
    | sl0n hc => exact ghost none _ rfl (List.eq_nil_of_length_eq_zero hxl)
    | sl0s hc a => exact ghost (some a) _ rfl (List.eq_nil_of_length_eq_zero hxl)
    | sl hl hls hc hlc hlm ha =>
      rename_i cc l a
      obtain ⟨hz0, hr⟩ := hh.rowOf hb hrow hl
      have hs4 : s4 = t.sz := by rw [hr.1, hls, hs]
      obtain ⟨hnu, hzn⟩ := hfree b s off len c rfl
      have hseg : (seg off len es).length = len := by simp [seg]; omega
      have hle2 := PMap.le_set (x := ⟨l.B, l.ob + off * l.s, l.s, l.lim - off⟩) (hf.heap.fresh (Nat.le_refl n))
      have hr2 : rowRel Z' (φ.set n ⟨l.B, l.ob + off * l.s, l.s, l.lim - off⟩) w ⟨l.B, l.ob + off * l.s, l.s, l.lim - off⟩ t.sz (xs.map t.enc) :=
        rowRel_to (row_shift hr hle) hs4 (by omega) fun i e hi => let ⟨x, h1, h2⟩ := hw i e hi; ⟨x, h1, h2.to hZ⟩
      refine ⟨_, hle2, ?_, hf.heap.intro (x := .lst t xs) (l := ⟨l.B, l.ob + off * l.s, l.s, l.lim - off⟩) (show Z' l.B = none from hzn _ l hb hl) (show l.B < _ from hh.flt _ l hl) (hh.ob _ _ l hb hl) (fun i y l' hi hl' e => ?_) hr2, fun i y l' hi hl' => ?_, hf.fr.mono (ZLe.refl _) hle2⟩
      · rw [hxl]
        refine .sl (PMap.set_self _ _ _) (by simp only; rw [hls, hs]) hlc hlc (by simp only; omega) ?_
        rcases ha with rfl | h0
        · left; simp only [Nat.zero_mul, Nat.add_zero]; rw [hls]
        · exact .inr h0
      · obtain ⟨b2, hb2, y0, l0, g1, g2, g3⟩ := hf.src i y l' hi hl'
        have hne : b2 ≠ b := fun e => hnu (e ▸ hb2)
        exact hh.inj b2 b y0 blk l0 l hne g1 hb g2 hl (by rw [g3, e])
      · simp only [Heap.get] at hi
        unfold PMap.set at hl'
        by_cases e : i = n
        · rw [if_pos e] at hl'; injection hl' with hl'
          exact ⟨b, List.mem_append_right _ (List.mem_singleton.2 rfl), blk, l, hb, hl, by rw [← hl']⟩
        · rw [if_neg e] at hi hl'
          obtain ⟨b2, hb2, r⟩ := hf.src i y l' hi hl'
          exact ⟨b2, List.mem_append_left _ hb2, r⟩
  · cases h

theorem frRel_cons {F : Fr} {tmps : Array Value} {d : Nat} {v : AV} (h : FrRel Z φ F tmps) (hv : Rep Z φ v (tmps.getD d Go.undef)) : FrRel Z φ ((d, v) :: F) tmps := by
  intro t
  simp only [Fr.get]
  by_cases e : t = d
  · subst e; rw [if_pos rfl]; exact hv
  · rw [if_neg e]; exact h t

theorem ptr_unique {Z1 Z2 : ZMap} {b i o : Nat} {u u' : Value} (h : Rep Z1 φ (.ptr b i o) u) (h' : Rep Z2 φ (.ptr b i o) u') : u = u' := by
  cases h with
  | ptr h1 => cases h' with
    | ptr h2 => rw [h1] at h2; injection h2 with h2; subst h2; rfl

theorem samePs_rep {F0 F : Fr} {φ0 : PMap} {tmps : Array Value} (h0 : FrRel Z φ0 F0 tmps) (h1 : FrRel Z' φ F tmps) : ∀ (l : List Nat) (a : List AV), samePs a (l.map F0.get) = true → ∀ us : Array Value, Reps Z φ0 a us → Reps Z' φ (l.map F.get) us := by
  intro l
  induction l with
  | nil =>
    intro a h us hr
    cases a with
    | nil => exact ⟨hr.1, fun i v u hv => by simp at hv⟩
    | cons _ _ => simp [samePs] at h
  | cons c l ih =>
    intro a h us hr
    cases a with
    | nil => simp [samePs] at h
    | cons x a =>
      simp only [List.map_cons, samePs, Bool.and_eq_true] at h
      have hsz := hr.1
      simp only [List.length_cons] at hsz
      have tail := ih a h.2 (us.toList.tail.toArray) ⟨by simp [hsz], fun i v u hv hu => hr.2 (i + 1) v u (by simpa using hv) (by
        rw [List.getElem?_toArray, List.getElem?_tail, Array.getElem?_toList] at hu; exact hu)⟩
      refine ⟨by have := tail.1; simp [hsz] at this ⊢; omega, fun i v u hv hu => ?_⟩
      cases i with
      | zero =>
        simp only [List.map_cons, List.getElem?_cons_zero, Option.some.injEq] at hv
        subst hv
        have hx := hr.2 0 x u rfl hu
        have hs := h.1
        unfold sameP at hs
        split at hs
        · rename_i b i o b' i' o' hc
          simp only [Bool.and_eq_true, beq_iff_eq] at hs
          obtain ⟨⟨rfl, rfl⟩, rfl⟩ := hs
          have h2 := h0 c
          rw [hc] at h2
          rw [ptr_unique hx h2]
          exact h1 c
        · cases hs
      | succ i =>
        refine tail.2 i v u (by simpa using hv) ?_
        rw [List.getElem?_toArray, List.getElem?_tail, Array.getElem?_toList]; exact hu

/-- One slot. -/
theorem step1 {σ : St} {Hf : Heap} {tmps : Array Value} {φ0 : PMap} (hh : HRel base w0 Z φ0 σ.H σ.nx w) (hfr : FrRel Z φ0 σ.fr tmps) (hsub : Sub Hf σ.H) (hfz : Froze φ0 Hf w Z Z') {used : List Nat} {F : Fr} {n : Nat} (hf : Half base w0 Z' φ0 σ.H tmps w φ used F H n)
    {d : Nat} {h : Sh} {x : h.den} {ps : List Bool} (hg : get1 σ Hf d h = some (x, ps)) (hp : ∀ p ∈ ps, p = true) (hnd : (used ++ own1 σ d h).Nodup) (hzn : ∀ b ∈ own1 σ d h, ∀ y l, σ.H.get b = some y → φ0 b = some l → Z' l.B = none) :
    ∃ φ', PLe φ φ' ∧ Half base w0 Z' φ0 σ.H tmps w φ' (used ++ own1 σ d h) (put1 d h x (F, H, n)).1 (put1 d h x (F, H, n)).2.1 (put1 d h x (F, H, n)).2.2 := by
  have hd := hfr d
  have notin : ∀ b ∈ own1 σ d h, b ∉ used := fun b hb hu => (List.nodup_append.1 hnd).2.2 b hu b hb rfl
  cases h with
  | v t =>
    refine ⟨φ, PLe.refl _, hf.heap, ?_, frRel_cons hf.fr (decV_ok (hh.sub hsub).ownR hfz hg hp hd)⟩
    simp only [own1, List.append_nil]; exact hf.src
  | a t =>
    refine ⟨φ, PLe.refl _, hf.heap, ?_, frRel_cons hf.fr (decA_ok (hh.sub hsub).ownR hfz hg hp hd)⟩
    simp only [own1, List.append_nil]; exact hf.src
  | own t =>
    have hg : listD σ.H t (σ.fr.get d) = some (x, ps) := hg
    obtain ⟨φ', h1, h2, h3⟩ := list_step hh hfz.1 hf hd hg hp (fun b s off len c hv => by
      have hmem : b ∈ own1 σ d (.own t) := by simp [own1, nameL, hv]
      exact ⟨notin b hmem, hzn b hmem⟩)
    exact ⟨φ', h1, h3.heap, h3.src, frRel_cons h3.fr h2⟩
  | box t =>
    simp only [get1] at hg
    split at hg
    rotate_left
    · cases hg
    rename_i b hbv
    split at hg
    rotate_left
    · cases hg
    rename_i s4 cs hb
    have hmem : own1 σ d (.box t) = [b] := by simp [own1, hbv]
    rw [hmem] at hzn notin ⊢
    rw [hbv] at hd
    generalize hu : tmps.getD d Go.undef = u at hd
    cases hd with
    | ptr hl =>
      rename_i l
      obtain ⟨hz0, hr⟩ := hh.ownAt hb hl
      have hr : rowRel Z φ0 w l s4 [cs] := hr
      have hle2 := PMap.le_set (x := l) (hf.heap.fresh (Nat.le_refl n))
      have hwk := dec_ok (φ' := φ.set n l) (hh.sub hsub).ownR hfz t cs x ps hg hp
      have hcs : cs.length = l.s := by obtain ⟨_, _, c, T, fz, _, _, _, h6⟩ := hr; exact (h6 0 cs rfl).1
      have hs4 : s4 = t.sz := by rw [hr.1, ← hcs, hwk.1, Ty.enc_length]
      have hr2 : rowRel Z' (φ.set n l) w l t.sz ([x].map t.enc) := rowRel_to hr hs4 rfl fun i e hi => by
        cases i <;> simp at hi
        subst hi; exact ⟨x, rfl, hwk⟩
      refine ⟨_, hle2, hf.heap.intro (x := .row t.sz [t.enc x]) (l := l) (hzn b (List.mem_singleton.2 rfl) _ _ hb hl) (hh.flt _ _ hl) (hh.ob _ _ _ hb hl) (fun i y l' hi hl' e => ?_) hr2, fun i y l' hi hl' => ?_, frRel_cons (hf.fr.mono (ZLe.refl _) hle2) ?_⟩
      · obtain ⟨b2, hb2, y0, l0, g1, g2, g3⟩ := hf.src i y l' hi hl'
        have hne : b2 ≠ b := fun e => notin b (List.mem_singleton.2 rfl) (e ▸ hb2)
        exact hh.inj b2 b y0 _ l0 l hne g1 hb g2 hl (by rw [g3, e])
      · simp only [put1, Heap.get] at hi
        unfold PMap.set at hl'
        by_cases e : i = n
        · rw [if_pos e] at hl'; injection hl' with hl'
          exact ⟨b, List.mem_append_right _ (List.mem_singleton.2 rfl), _, l, hb, hl, by rw [← hl']⟩
        · rw [if_neg e] at hi hl'
          obtain ⟨b2, hb2, r⟩ := hf.src i y l' hi hl'
          exact ⟨b2, List.mem_append_left _ hb2, r⟩
      · rw [hu]; exact .ptr (PMap.set_self _ _ _)
  | boxOwn t =>
    simp only [get1] at hg
    split at hg
    rotate_left
    · cases hg
    rename_i b hbv
    split at hg
    rotate_left
    · cases hg
    rename_i s4 v hb
    rw [hbv] at hd
    generalize hu : tmps.getD d Go.undef = u at hd
    cases hd with
    | ptr hl =>
      rename_i l
      obtain ⟨hz0, hr⟩ := hh.ownAt hb hl
      obtain ⟨r1, r2, c, T, fz, r3, r4, r5, r6⟩ := (show rowRel Z φ0 w l s4 [[v]] from hr)
      obtain ⟨g1, g2, g3⟩ := r6 0 [v] rfl
      obtain ⟨u2, hu2, hv2⟩ := g3 0 v rfl
      have hmem : own1 σ d (.boxOwn t) = nameL v ++ [b] := by simp [own1, hbv, hb]
      have hmemb : b ∈ own1 σ d (.boxOwn t) := by rw [hmem]; simp
      obtain ⟨φ1, h1, h2, h3⟩ := list_step hh hfz.1 hf hv2 hg hp (fun b2 s off len c' hv => by
        have hm : b2 ∈ own1 σ d (.boxOwn t) := by rw [hmem, hv]; simp [nameL]
        exact ⟨notin b2 hm, hzn b2 hm⟩)
      have hle2 := PMap.le_set (x := l) (h3.heap.fresh (Nat.le_refl (n + 1)))
      have hls : l.s = 1 := by rw [← g1]; rfl
      have hr2 : rowRel Z' (φ1.set (n + 1) l) w l 1 [[.sl n t.sz 0 x.length none]] := by
        refine ⟨hls.symm, r2, c, T, fz, r3, r4, r5, fun i e hi => ?_⟩
        cases i <;> simp at hi
        subst hi
        refine ⟨by rw [hls]; rfl, rfl, fun j v' hj => ?_⟩
        cases j <;> simp at hj
        subst hj
        exact ⟨u2, hu2, h2.mono (ZLe.refl _) hle2⟩
      rw [hmem, ← List.append_assoc]
      refine ⟨_, h1.trans hle2, h3.heap.intro (x := .row 1 [[.sl n t.sz 0 x.length none]]) (l := l) (hzn b hmemb _ _ hb hl) (hh.flt _ _ hl) (hh.ob _ _ _ hb hl) (fun i y l' hi hl' e => ?_) hr2, fun i y l' hi hl' => ?_, frRel_cons (h3.fr.mono (ZLe.refl _) hle2) ?_⟩
      · obtain ⟨b2, hb2, y0, l0, k1, k2, k3⟩ := h3.src i y l' hi hl'
        have hne : b2 ≠ b := fun e => by
          rw [hmem, ← List.append_assoc] at hnd
          exact (List.nodup_append.1 hnd).2.2 b2 hb2 b (List.mem_singleton.2 rfl) e
        exact hh.inj b2 b y0 _ l0 l hne k1 hb k2 hl (by rw [k3, e])
      · simp only [put1] at hi
        rw [Heap.get] at hi
        unfold PMap.set at hl'
        by_cases e : i = n + 1
        · rw [if_pos e] at hl'; injection hl' with hl'
          exact ⟨b, List.mem_append_right _ (List.mem_singleton.2 rfl), _, l, hb, hl, by rw [← hl']⟩
        · rw [if_neg e] at hi hl'
          obtain ⟨b2, hb2, r⟩ := h3.src i y l' hi hl'
          exact ⟨b2, List.mem_append_left _ hb2, r⟩
      · rw [hu]; exact .ptr (PMap.set_self _ _ _)
  | fn k first cap =>
    simp only [get1] at hg
    split at hg
    rotate_left
    · cases hg
    rename_i k' a b hv
    split at hg
    rotate_left
    · cases hg
    rename_i hc
    obtain ⟨rfl, hc1, hc2⟩ := hc
    refine ⟨φ, PLe.refl _, hf.heap, by simp only [own1, List.append_nil]; exact hf.src, frRel_cons hf.fr ?_⟩
    rw [hv] at hd
    generalize hu : tmps.getD d Go.undef = u at hd
    cases hd with
    | fn hx hy g1 g2 =>
      have q1 := samePs_rep hfr hf.fr first a hc1 _ ⟨hx, g1⟩
      have q2 := samePs_rep hfr hf.fr cap b hc2 _ ⟨hy, g2⟩
      exact .fn q1.1 q2.1 q1.2 q2.2
end
end Go.Lom
