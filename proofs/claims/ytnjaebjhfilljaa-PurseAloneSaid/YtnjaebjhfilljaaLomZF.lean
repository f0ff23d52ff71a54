/- Functions of typed contents: contracts, how they are proved and how they are used. No conditions of its own. -/
import Derived.Test.YtnjaebjhfilljaaLomZE
set_option linter.unusedSimpArgs false
set_option linter.unusedVariables false
set_option linter.constructorNameAsVariable false
namespace Go.Lom
open Go.RowKit

/-- A heap's blocks, frozen. -/
noncomputable def frz (Z : ZMap) (φ : PMap) (H : Heap) (w : World) : ZMap := fun B =>
  match Z B with
  | some o => some o
  | none => open Classical in if ∃ b x l, H.get b = some x ∧ φ b = some l ∧ l.B = B then w.heap[B]? else none

def selN (l : List Nat) (H : Heap) : Heap := H.filter fun p => l.contains p.1
def dropN (l : List Nat) (H : Heap) : Heap := H.filter fun p => !l.contains p.1
theorem get_filter (f : Nat → Bool) : ∀ (H : Heap) (b : Nat), Heap.get (H.filter fun p => f p.1) b = if f b = true then H.get b else none
  | [], b => by simp [Heap.get]
  | (c, x) :: H, b => by
    have ih := get_filter f H b
    rw [List.filter_cons]
    split
    · rename_i hf
      simp only [Heap.get]
      by_cases hb : b = c
      · subst hb; simp only [if_true]; rw [if_pos hf]
      · rw [if_neg hb, if_neg hb]; exact ih
    · rename_i hf
      rw [ih]
      simp only [Heap.get]
      by_cases hb : b = c
      · subst hb; rw [if_neg hf, if_neg hf]
      · rw [if_neg hb]
theorem get_selN (l : List Nat) (H : Heap) (b : Nat) : (selN l H).get b = if l.contains b = true then H.get b else none := get_filter (fun b => l.contains b) H b
theorem get_dropN (l : List Nat) (H : Heap) (b : Nat) : (dropN l H).get b = if l.contains b = true then none else H.get b := by
  have := get_filter (fun b => !l.contains b) H b
  unfold dropN
  rw [this]
  cases l.contains b <;> simp

section
variable {base : Nat → Prop} {w0 : Start} {Z Z' : ZMap} {φ φ' : PMap} {H : Heap} {nx : Nat} {w w' : World}

theorem frz_le (Z : ZMap) (φ : PMap) (H : Heap) (w : World) : ZLe Z (frz Z φ H w) := fun B o h => by unfold frz; rw [h]
theorem frz_own {b : Nat} {x : Blk} {l : Loc} (hb : H.get b = some x) (hl : φ b = some l) (hz : Z l.B = none) : frz Z φ H w l.B = w.heap[l.B]? := by
  unfold frz
  rw [hz]
  simp only
  rw [if_pos ⟨b, x, l, hb, hl, rfl⟩]
theorem frz_froze (h : HRel base w0 Z φ H nx w) : Froze φ H w Z (frz Z φ H w) := ⟨frz_le _ _ _ _, fun b x l hb hl => frz_own hb hl (h.ownAt hb hl).1⟩
theorem frz_cases (B : Nat) : frz Z φ H w B = Z B ∨ (Z B = none ∧ (∃ b x l, H.get b = some x ∧ φ b = some l ∧ l.B = B) ∧ frz Z φ H w B = w.heap[B]?) := by
  unfold frz
  cases hz : Z B with
  | some o => exact .inl rfl
  | none =>
    simp only
    split
    · rename_i hc; exact .inr ⟨trivial, hc, rfl⟩
    · exact .inl rfl
theorem frz_z (h : HRel base w0 Z φ H nx w) : ∀ B o, frz Z φ H w B = some o → w.heap[B]? = some o := fun B o hB => by
  rcases frz_cases (Z := Z) (φ := φ) (H := H) (w := w) B with h1 | ⟨_, _, h1⟩
  · rw [h1] at hB; exact h.z B o hB
  · rw [h1] at hB; exact hB

/-- All is frozen, nothing is kept. -/
theorem HRel.frozen (h : HRel base w0 Z φ H nx w) {φ0 : PMap} (h0 : ∀ b x, φ0 b = some x → b < 0) : HRel base w0 (frz Z φ H w) φ0 [] 0 w := by
  refine ⟨h.below, frz_z h, fun B hB hu => ?_, h0, fun b x hb => by simp [Heap.get] at hb, fun b l hb => by have := h0 b l hb; omega, fun b x hb => by simp [Heap.get] at hb, fun b b' x x' l l' _ hb => by simp [Heap.get] at hb, fun b x l hb => by simp [Heap.get] at hb⟩
  rcases frz_cases (Z := Z) (φ := φ) (H := H) (w := w) B with h1 | ⟨_, ⟨b, x, l, hb, hl, rfl⟩, _⟩
  · rw [h1]; exact h.z0 B hB hu
  · have := h.ob b x l hb hl hu; omega

/-- Where nothing of memory was ever turned. -/
theorem HRel.start0 {Zf : ZMap} (hz : ∀ B o, Zf B = some o → w.heap[B]? = some o) : HRel (fun _ => True) ⟨w, Zf⟩ Zf (fun _ => none) [] 0 w := by
  refine ⟨KeptW.refl _ _, hz, fun _ _ _ => rfl, ?_, ?_, ?_, ?_, ?_, ?_⟩
  · intro b x h; exact nomatch h
  · intro b x h; simp [Heap.get] at h
  · intro b l h; exact nomatch h
  · intro b x h; simp [Heap.get] at h
  · intro b b' x x' l l' _ h; simp [Heap.get] at h
  · intro b x l h; simp [Heap.get] at h

/-- The same heap in a later world in which all of its blocks are as they were. -/
theorem HRel.later (h : HRel base w0 Z φ H nx w) (hk : KeptW (fun _ => True) w w') : HRel base w0 Z φ H nx w' := by
  have hb : ∀ B, B < w.heap.size → w'.heap[B]? = w.heap[B]? := fun B hB => hk.block B hB trivial
  refine ⟨⟨hk.os.trans h.below.os, hk.tape.trans h.below.tape, hk.output.trans h.below.output, Nat.le_trans h.below.size hk.size, fun B hB hu => by rw [hb B (Nat.lt_of_lt_of_le hB h.below.size)]; exact h.below.block B hB hu⟩,
    fun B o hB => ?_, h.z0, h.fnx, h.hnx, fun b l hl => Nat.lt_of_lt_of_le (h.flt b l hl) hk.size, fun b x hx => ?_, h.inj, h.ob⟩
  · have := h.z B o hB
    have hlt : B < w.heap.size := by
      rcases Nat.lt_or_ge B w.heap.size with hlt | hge
      · exact hlt
      · rw [Array.getElem?_eq_none hge] at this; cases this
    rw [hb B hlt]; exact this
  · rcases h.own' b x hx with hg | ⟨l, hl, hz, hr⟩
    · exact .inl hg
    · exact .inr ⟨l, hl, hz, hr.mono (ZLe.refl _) (PLe.refl _) (hb l.B (h.flt _ _ hl))⟩
end

/-! ### Contents without lists -/
def Ty.flat : Ty → Bool
  | .i _ | .b | .s => true
  | .sl _ => false
  | .pr x y => x.flat && y.flat
theorem enc_flat {Z Z' : ZMap} {φ φ' : PMap} : ∀ (t : Ty), t.flat = true → ∀ (x : t.den) (j : Nat) (v : AV) (u : Value), (t.enc x)[j]? = some v → Rep Z φ v u → Rep Z' φ' v u
  | .i k, _, n, j, v, u, hj, h => by
    cases j <;> simp [Ty.enc] at hj
    subst hj; cases h; exact .int _ _
  | .b, _, n, j, v, u, hj, h => by
    cases j <;> simp [Ty.enc] at hj
    subst hj; cases h; exact .bool _
  | .s, _, n, j, v, u, hj, h => by
    cases j <;> simp [Ty.enc] at hj
    subst hj; cases h; exact .str _
  | .sl t, hf, _, _, _, _, _, _ => by cases hf
  | .pr a b, hf, p, j, v, u, hj, h => by
    simp only [Ty.flat, Bool.and_eq_true] at hf
    simp only [Ty.enc] at hj
    by_cases hlt : j < (a.enc p.1).length
    · rw [List.getElem?_append_left hlt] at hj
      exact enc_flat a hf.1 p.1 j v u hj h
    · rw [List.getElem?_append_right (by omega)] at hj
      exact enc_flat b hf.2 p.2 _ v u hj h
theorem val_flat {Z Z' : ZMap} {φ φ' : PMap} (t : Ty) (hf : t.flat = true) (x : t.den) {u : Value} (h : Rep Z φ (t.val x) u) : Rep Z' φ' (t.val x) u := by
  cases t with
  | i k => exact enc_flat (.i k) hf x 0 _ u rfl h
  | b => exact enc_flat .b hf x 0 _ u rfl h
  | s => exact enc_flat .s hf x 0 _ u rfl h
  | sl t => cases hf
  | pr a b =>
    simp only [Ty.val] at h ⊢
    cases h with
    | agg hl h => exact .agg hl fun i v u a b => enc_flat _ hf _ i v u a (h i v u a b)

/-! ### Contracts -/
/-- The values of a result. -/
def untup (n : Nat) (v : AV) : List AV :=
  match n with
  | 1 => [v]
  | _ => match v with
    | .tup vs => vs
    | _ => [.undef]
def resK (rs : List Ty) (K : dens rs → Prop) : AE → Heap → Nat → Prop := fun x H _ =>
  match x with
  | .ret v => match decVs H rs (untup rs.length v) with
    | some (r, ps) => allP ps (K r)
    | none => False
  | .panic _ => False

abbrev Spec (as : List AT) (rs : List Ty) := densA as → (dens rs → Prop) → Prop
def PCok (P : Program) (k : FuncId) (as : List AT) (rs : List Ty) (spec : Spec as rs) : Prop :=
  ∀ x K, spec x K → SCall P k (valsA as x) [] 0 fun e H nx => H = [] ∧ nx = 0 ∧ ∃ r, e = .ret (tupOf (vals rs r)) ∧ K r

theorem vals_length : ∀ (ts : List Ty) (x : dens ts), (vals ts x).length = ts.length
  | [], _ => rfl
  | t :: ts, x => by simp [vals, vals_length ts]
theorem vals_get (ts : List Ty) (x : dens ts) (h : ts.length ≠ 1) : tupOf (vals ts x) = .tup (vals ts x) := by
  have := vals_length ts x
  unfold tupOf
  split
  · rename_i v hv; rw [hv] at this; simp at this; omega
  · rfl

/-- The values of a result, one by one or as a tuple. -/
theorem rep_tup {Z Z' : ZMap} {φ φ' : PMap} {rs : List Ty} {r : dens rs} {v : AV} {u : Value} {vs : List AV} (hv : vs = untup rs.length v) (hr : Rep Z φ v u)
    (hall : ∀ us, Reps Z φ vs us → Reps Z' φ' (vals rs r) us) (hne : rs.length ≠ 1 → ∃ ws, v = .tup ws) : Rep Z' φ' (tupOf (vals rs r)) u := by
  by_cases h1 : rs.length = 1
  · match rs, h1 with
    | [t], _ =>
      have hv : vs = [v] := hv
      have := hall #[u] ⟨by rw [hv]; rfl, fun i x y hx hy => by
        rw [hv] at hx
        cases i <;> simp at hx hy
        subst hx hy; exact hr⟩
      exact this.2 0 _ u rfl rfl
  · obtain ⟨ws, rfl⟩ := hne h1
    have hv : vs = ws := by
      rw [hv]; unfold untup
      split
      · rename_i h; exact absurd h h1
      · rfl
    subst hv
    rw [vals_get rs r h1]
    cases hr with
    | tup hl h => 
      have := hall _ ⟨hl, h⟩
      exact .tup this.1 this.2

theorem untup_tup {rs : List Ty} {v : AV} {H : Heap} {r : dens rs} {ps : List Bool} (h : decVs H rs (untup rs.length v) = some (r, ps)) : rs.length ≠ 1 → ∃ ws, v = .tup ws := by
  intro hne
  have hl : (untup rs.length v).length = rs.length := by
    have key : ∀ (ts : List Ty) (vs : List AV) (x : dens ts) (qs : List Bool), decVs H ts vs = some (x, qs) → vs.length = ts.length := by
      intro ts
      induction ts with
      | nil => intro vs x qs hd; cases vs <;> simp [decVs] at hd ⊢
      | cons t ts ih =>
        intro vs x qs hd
        cases vs with
        | nil => simp [decVs] at hd
        | cons v vs =>
          simp only [decVs] at hd
          unfold pairD at hd
          split at hd
          · split at hd
            · rename_i y q hy; simp [ih vs y q hy]
            · cases hd
          · cases hd
    exact key _ _ _ _ h
  unfold untup at hl
  split at hl
  · rename_i h1; exact absurd h1 hne
  · split at hl
    · exact ⟨_, rfl⟩
    · simp at hl; exact absurd hl.symm hne

/-- A contract, proved by the code. -/
theorem pc_of {P : Program} {call : CallX} {lp : FuncId → Nat → LoopX} (hc : CallXOk P call) {k : FuncId} (hl : ∀ fn c, P.funcs[k]? = some fn → fn.body = some c → ∀ n0, LoopsOk P fn.ntmps n0 (lp k n0) 0 (loopsOf c)) {as : List AT} {rs : List Ty} {spec : Spec as rs}
    (h : ∀ x K, spec x K → xinl P call lp k (valsA as x) [] 0 (resK rs K)) : PCok P k as rs spec := by
  intro x K hx base w0 Z φ w us hH hr
  refine (xinl_ok hc hl (h x K hx) base w0 Z φ w us hH hr).mono fun e w' ⟨Z', φ', y, H', nx', h1, h2, h3, h4, h5⟩ => ?_
  unfold resK at h5
  split at h5
  · rename_i v
    split at h5
    · rename_i r ps hd
      rw [allP_iff] at h5
      cases e <;> try exact h3.elim
      have h3 : Rep Z' φ' v _ := h3
      have hf := frz_froze h4
      refine ⟨frz Z' φ' H' w', φ, .ret (tupOf (vals rs r)), [], 0, h1.trans hf.1, PLe.refl _, ?_, h4.frozen hH.fnx, rfl, rfl, r, rfl, h5.2⟩
      exact rep_tup rfl h3 (fun us hus => decVs_ok h4.ownR hf rs _ r ps hd h5.1 us hus) (untup_tup hd)
    · exact h5.elim
  · exact h5.elim

def names1 : AV → List Nat
  | .sl b _ _ _ _ => [b]
  | .ptr b _ _ => [b]
  | .mp b => [b]
  | _ => []
def namesA : AV → List Nat
  | .agg cs => cs.flatMap names1
  | v => names1 v
def flatL (rs : List Ty) : Bool := rs.all Ty.flat
/-- A call by its contract ('none': the arguments are none of it). -/
def pcD (as : List AT) (rs : List Ty) (spec : Spec as rs) (avs : List AV) (H : Heap) (nx : Nat) (R : AE → Heap → Nat → Prop) (other : Prop) : Prop :=
  match flatL rs with
  | true => match decAs H as avs with
    | some (x, ps) => allP ps (spec x fun r => R (.ret (tupOf (vals rs r))) H nx)
    | none => other
  | false => match decAs (selN (avs.flatMap namesA) H) as avs with
    | some (x, ps) => allP ps (spec x fun r => R (.ret (tupOf (vals rs r))) (dropN (avs.flatMap namesA) H) nx)
    | none => other

theorem reps_free {Z Z' : ZMap} (hZ : ZLe Z Z') {φ φ' : PMap} : ∀ (ts : List Ty) (x : dens ts) (us : Array Value), Reps Z φ (vals ts x) us → Reps Z' φ' (vals ts x) us := by
  intro ts x us h
  refine ⟨h.1, fun i v u hv hu => ?_⟩
  have key : ∀ (ts : List Ty) (x : dens ts) (i : Nat) (v : AV), (vals ts x)[i]? = some v → ∃ (t : Ty) (y : t.den), v = t.val y := by
    intro ts
    induction ts with
    | nil => intro x i v hv; simp [vals] at hv
    | cons t ts ih =>
      intro x i v hv
      cases i with
      | zero => simp [vals] at hv; exact ⟨t, x.1, hv.symm⟩
      | succ i => exact ih x.2 i v (by simpa [vals] using hv)
  obtain ⟨t, y, rfl⟩ := key ts x i v hv
  exact val_free hZ t y (h.2 i _ u hv hu)
theorem reps_flat {Z Z' : ZMap} {φ φ' : PMap} (ts : List Ty) (hf : flatL ts = true) (x : dens ts) (us : Array Value) (h : Reps Z φ (vals ts x) us) : Reps Z' φ' (vals ts x) us := by
  refine ⟨h.1, fun i v u hv hu => ?_⟩
  have key : ∀ (ts : List Ty), flatL ts = true → ∀ (x : dens ts) (i : Nat) (v : AV), (vals ts x)[i]? = some v → ∃ (t : Ty) (y : t.den), t.flat = true ∧ v = t.val y := by
    intro ts
    induction ts with
    | nil => intro _ x i v hv; simp [vals] at hv
    | cons t ts ih =>
      intro hf x i v hv
      simp only [flatL, List.all_cons, Bool.and_eq_true] at hf
      cases i with
      | zero => simp [vals] at hv; exact ⟨t, x.1, hf.1, hv.symm⟩
      | succ i => exact ih hf.2 x.2 i v (by simpa [vals] using hv)
  obtain ⟨t, y, ht, rfl⟩ := key ts hf x i v hv
  exact val_flat t ht y (h.2 i _ u hv hu)
theorem untup_vals (ts : List Ty) (x : dens ts) : untup ts.length (tupOf (vals ts x)) = vals ts x := by
  by_cases h : ts.length = 1
  · match ts, h with
    | [t], _ => rfl
  · rw [vals_get ts x h]
    unfold untup
    split
    · rename_i h1; exact absurd h1 h
    · rfl

theorem pcD_ok {P : Program} {k : FuncId} {other : Prop} {as : List AT} {rs : List Ty} {spec : Spec as rs} (hp : PCok P k as rs spec) {avs : List AV} {H : Heap} {nx : Nat} {R : AE → Heap → Nat → Prop} (h : pcD as rs spec avs H nx R other) (ho : other → SCall P k avs H nx R) : SCall P k avs H nx R := by
  have tupTo : ∀ {Z1 Z2 : ZMap} {φ1 φ2 : PMap} {r : dens rs} {u : Value}, (∀ us, Reps Z1 φ1 (vals rs r) us → Reps Z2 φ2 (vals rs r) us) → Rep Z1 φ1 (tupOf (vals rs r)) u → Rep Z2 φ2 (tupOf (vals rs r)) u := fun {Z1 Z2 φ1 φ2 r u} hall hrep =>
    rep_tup (v := tupOf (vals rs r)) (vs := vals rs r) (untup_vals rs r).symm hrep hall fun hne => ⟨_, vals_get rs r hne⟩
  unfold pcD at h
  split at h
  · rename_i hflat
    split at h
    rotate_left
    · exact ho h
    rename_i x ps hd
    rw [allP_iff] at h
    obtain ⟨hps, h⟩ := h
    intro base w0 Z φ w us hH hr
    have hf := frz_froze hH
    have hstart := HRel.start0 (frz_z hH)
    have hargs := decAs_ok (φ' := fun _ => none) hH.ownR hf as avs x ps hd hps us hr
    refine (hp x _ h _ _ _ _ _ us hstart hargs).mono fun e w' ⟨Z1, φ1, y, H1, n1, h1, h2, h3, h4, _, _, r, hyr, hR⟩ => ?_
    subst hyr
    cases e <;> try exact h3.elim
    refine ⟨Z, φ, _, H, nx, ZLe.refl _, PLe.refl _, ?_, hH.later h4.below, hR⟩
    exact tupTo (fun us hus => reps_flat rs hflat r us hus) h3
  · split at h
    rotate_left
    · exact ho h
    rename_i x ps hd
    rw [allP_iff] at h
    obtain ⟨hps, h⟩ := h
    intro base w0 Z φ w us hH hr
    generalize hL : avs.flatMap namesA = L at hd h
    have hS : Sub (selN L H) H := fun b y hy => by
      rw [get_selN] at hy
      split at hy
      · exact hy
      · cases hy
    have hHs := hH.sub hS
    have hf := frz_froze hHs
    have hstart := HRel.start0 (frz_z hHs)
    have hargs := decAs_ok (φ' := fun _ => none) hHs.ownR hf as avs x ps hd hps us hr
    refine (hp x _ h _ _ _ _ _ us hstart hargs).mono fun e w' ⟨Z1, φ1, y, H1, n1, h1, h2, h3, h4, _, _, r, hyr, hR⟩ => ?_
    subst hyr
    cases e <;> try exact h3.elim
    have hl := hH.later h4.below
    have hZ1 : ∀ B, B < w.heap.size → Z1 B = frz Z φ (selN L H) w B := fun B hB => h4.z0 B hB trivial
    refine ⟨Z1, φ, .ret (tupOf (vals rs r)), dropN L H, nx, hf.1.trans h1, PLe.refl _, tupTo (Z2 := Z1) (φ2 := φ) (fun us hus => reps_free (ZLe.refl _) rs r us hus) h3, ⟨hl.below, h4.z, fun B hB hu => ?_, hl.fnx, fun b y hy => ?_, hl.flt, fun b y hy => ?_, fun b b' y y' l l' hne hy hy' => ?_, fun b y l hy => ?_⟩, hR⟩
    · rw [hZ1 B (Nat.lt_of_lt_of_le hB hH.below.size)]
      rcases frz_cases (Z := Z) (φ := φ) (H := selN L H) (w := w) B with g1 | ⟨_, ⟨b, y, l, hb, hl', rfl⟩, _⟩
      · rw [g1]; exact hH.z0 B hB hu
      · have := hHs.ob b y l hb hl' hu; omega
    all_goals rw [get_dropN] at hy
    · split at hy
      · cases hy
      · exact hl.hnx b y hy
    · split at hy
      · cases hy
      · rename_i hc
        rcases hl.own' b y hy with hg | ⟨l, hl1, hz, hrl⟩
        · exact .inl hg
        · refine .inr ⟨l, hl1, ?_, hrl.mono (hf.1.trans h1) (PLe.refl _) rfl⟩
          rw [hZ1 l.B (hH.flt _ _ hl1)]
          rcases frz_cases (Z := Z) (φ := φ) (H := selN L H) (w := w) l.B with g1 | ⟨_, ⟨b2, y2, l2, hb2, hl2, he⟩, _⟩
          · rw [g1]; exact hz
          · rw [get_selN] at hb2
            split at hb2
            · rename_i hc2
              exact absurd he (hH.inj b2 b y2 y l2 l (fun e => hc (e ▸ hc2)) hb2 hy hl2 hl1)
            · cases hb2
    · rw [get_dropN] at hy'
      split at hy
      · cases hy
      · split at hy'
        · cases hy'
        · exact hl.inj b b' y y' l l' hne hy hy'
    · split at hy
      · cases hy
      · exact hl.ob b y l hy

/-- A contract, proved by the evaluator. -/
theorem pc_eval {P : Program} {lf n : Nat} {k : FuncId} {b : Bool} (h : (match acall P lf n k [] [] 0 with | some (.ret (.bool c), _, _) => c == b | _ => false) = true) : PCok P k [] [.b] fun _ K => K (b, ()) := by
  intro x K hK base w0 Z φ w us hH hr
  split at h
  · rename_i c H' nx' he
    have hc : c = b := by simpa using h
    subst hc
    refine (acall_ok P lf n k _ _ _ _ _ _ he base w0 Z φ w us hH hr).mono fun e w' ⟨Z', φ', y, G, m, h1, h2, h3, h4, h5⟩ => ?_
    obtain ⟨rfl, rfl, rfl⟩ := h5
    refine ⟨frz Z' φ' G w', φ, .ret (.bool c), [], 0, h1.trans (frz_froze h4).1, PLe.refl _, ?_, h4.frozen hH.fnx, rfl, rfl, (c, ()), rfl, hK⟩
    cases e <;> try exact h3.elim
    have h3 : Rep Z' φ' (.bool c) _ := h3
    cases h3
    exact .bool c
  · cases h
end Go.Lom
