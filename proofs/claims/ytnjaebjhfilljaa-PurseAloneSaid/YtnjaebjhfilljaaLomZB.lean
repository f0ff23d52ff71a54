/- Operations that make or write lists of typed contents: what they leave, with the conditions. -/
import Derived.Test.YtnjaebjhfilljaaLomZA
set_option linter.constructorNameAsVariable false
set_option linter.unusedSimpArgs false
set_option linter.unusedVariables false
namespace Go.Lom
open Go.RowKit

/-- The type of contents of a Go type. -/
def prs : List (Option Ty) → Option Ty
  | [] => none
  | [x] => x
  | x :: y :: l => match x with
    | some a => match prs (y :: l) with
      | some b => some (.pr a b)
      | none => none
    | none => none
def tyOf (P : Program) : Nat → TypeId → Option Ty
  | 0, _ => none
  | d + 1, t => match P.underlying t with
    | some (.int k) => some (.i k)
    | some .bool => some .b
    | some .string => some .s
    | some (.slice e) => (tyOf P d e).map .sl
    | some (.struct fs) => prs (fs.toList.map fun f => tyOf P d f.type)
    | some (.array n e) => prs (List.replicate n (tyOf P d e))
    | _ => none

def fitsN (n b : Nat) : Bool := Nat.ble (n * b) 140737488355328 && Nat.ble n maxLen

section
variable {P : Program} {base : Nat → Prop} {w0 : Start} {Z Z' : ZMap} {φ φ' : PMap} {H : Heap} {nx : Nat} {w : World}

theorem sub_nil (H : Heap) : Sub [] H := fun b x h => by simp [Heap.get] at h
theorem froze_nil (Z : ZMap) (φ : PMap) (w : World) : Froze φ [] w Z Z := ⟨ZLe.refl _, fun b x l h => by simp [Heap.get] at h⟩
/-- Cells that say no more than others, of whatever memory. -/
def WeakS (cs cs' : List AV) : Prop := ∀ Z φ, WeakC Z Z φ φ cs cs'
theorem WeakS.refl (cs : List AV) : WeakS cs cs := fun _ _ => ⟨rfl, fun j v hj => ⟨v, hj, fun u hu => hu⟩⟩
def someWorld : World := default
theorem dec_weak {t : Ty} {cs : List AV} {x : t.den} {ps : List Bool} (h : t.dec [] cs = some (x, ps)) (hp : ∀ p ∈ ps, p) : WeakS cs (t.enc x) :=
  fun Z φ => dec_ok (w := someWorld) (fun b blk l h => by simp [Heap.get] at h) (froze_nil Z φ someWorld) t cs x ps h hp

theorem rowRel_weak {l : Loc} {s : Nat} {t : Ty} {es : List (List AV)} {xs : List t.den} (h : rowRel Z φ w l s es) (hs : s = t.sz) (hl : xs.length = es.length)
    (hw : ∀ (i : Nat) (e : List AV), es[i]? = some e → ∃ x, xs[i]? = some x ∧ WeakS e (t.enc x)) : rowRel Z φ w l t.sz (xs.map t.enc) := by
  obtain ⟨h1, h2, c, T, fz, h3, h4, h5, h6⟩ := h
  refine ⟨by rw [← hs, h1], by simp; omega, c, T, fz, h3, h4, h5, fun i e hi => ?_⟩
  have hil : i < es.length := by have := (List.getElem?_eq_some_iff.1 hi).1; simp at this; omega
  obtain ⟨x, hx, hwk⟩ := hw i _ (List.getElem?_eq_getElem hil)
  have hwk := hwk Z φ
  rw [List.getElem?_map, hx] at hi
  simp only [Option.map_some, Option.some.injEq] at hi
  subst hi
  obtain ⟨g1, g2, g3⟩ := h6 i _ (List.getElem?_eq_getElem hil)
  refine ⟨by rw [← hwk.1]; exact g1, t.enc_oneC x, fun j v hj => ?_⟩
  have hjl : j < es[i].length := by rw [hwk.1]; exact (List.getElem?_eq_some_iff.1 hj).1
  obtain ⟨u, hu, hr⟩ := g3 j _ (List.getElem?_eq_getElem hjl)
  obtain ⟨v', hv', hr'⟩ := hwk.2 j _ (List.getElem?_eq_getElem hjl)
  rw [hj] at hv'; injection hv' with hv'; subst hv'
  exact ⟨u, hu, hr' u hr⟩

/-- A block, known in another way. -/
theorem HRel.retype {b : Nat} {x y : Blk} (h : HRel base w0 Z φ (H.set b x) nx w) (hg : x.ghost = false) (hx : ∀ l, blkRel Z φ w l x → blkRel Z φ w l y) : HRel base w0 Z φ (H.set b y) nx w := by
  have look : ∀ c z, (H.set b y).get c = some z → ∃ z', (H.set b x).get c = some z' ∧ ((c = b ∧ z = y ∧ z' = x) ∨ (c ≠ b ∧ z = z')) := by
    intro c z hz
    rw [Heap.get_set] at hz ⊢
    by_cases e : c = b
    · rw [if_pos e] at hz ⊢; injection hz with hz; exact ⟨x, rfl, .inl ⟨e, hz.symm, rfl⟩⟩
    · rw [if_neg e] at hz ⊢; exact ⟨z, hz, .inr ⟨e, rfl⟩⟩
  refine ⟨h.below, h.z, h.z0, h.fnx, fun c z hz => let ⟨z', h1, _⟩ := look c z hz; h.hnx c z' h1, h.flt, fun c z hz => ?_, fun c c' z z' l l' hne hz hz' hl hl' => ?_, fun c z l hz hl hu => ?_⟩
  · obtain ⟨z', h1, h2⟩ := look c z hz
    rcases h2 with ⟨rfl, rfl, rfl⟩ | ⟨hne, rfl⟩
    · obtain ⟨l, hl, hzl, hr⟩ := h.own c z' h1 hg
      exact .inr ⟨l, hl, hzl, hx l hr⟩
    · exact h.own' c z h1
  · obtain ⟨y1, h1, _⟩ := look c z hz
    obtain ⟨y2, h2, _⟩ := look c' z' hz'
    exact h.inj c c' y1 y2 l l' hne h1 h2 hl hl'
  · obtain ⟨y1, h1, _⟩ := look c z hz
    exact h.ob c y1 l h1 hl hu

/-- The elements of a slice, and what is read of them. -/
theorem elemsD_rows {t : Ty} {y : AV} {ys : List t.den} {ps : List Bool} (h : elemsD H t (t.dec []) y = some (ys, ps)) (hp : ∀ p ∈ ps, p) :
    ∃ news, elems H y = some news ∧ news.length = ys.length ∧ ∀ (i : Nat) (e : List AV), news[i]? = some e → ∃ x, ys[i]? = some x ∧ WeakS e (t.enc x) := by
  have rows : ∀ (es : List (List AV)) (ys : List t.den) (qs : List Bool), mapD (t.dec []) es = some (ys, qs) → (∀ q ∈ qs, q = true) → es.length = ys.length ∧ ∀ (i : Nat) (e : List AV), es[i]? = some e → ∃ x, ys[i]? = some x ∧ WeakS e (t.enc x) := by
    intro es ys qs hm hq
    obtain ⟨h1, h2⟩ := mapD_get hm
    exact ⟨h1, fun i e hi => let ⟨x, p, hx, hd, hs⟩ := h2 i e hi; ⟨x, hx, dec_weak hd fun q hq' => hq q (hs q hq')⟩⟩
  have encs : ∀ (zs : List t.den) (i : Nat) (e : List AV), (zs.map t.enc)[i]? = some e → ∃ x, zs[i]? = some x ∧ WeakS e (t.enc x) := by
    intro zs i e hi
    rw [List.getElem?_map] at hi
    cases hx : zs[i]? with
    | none => rw [hx] at hi; cases hi
    | some x => rw [hx] at hi; injection hi with hi; subst hi; exact ⟨x, rfl, WeakS.refl _⟩
  unfold elemsD at h
  split at h
  · simp only [Option.some.injEq, Prod.mk.injEq] at h; obtain ⟨rfl, rfl⟩ := h
    exact ⟨[], rfl, rfl, fun i e hi => by simp at hi⟩
  · simp only [Option.some.injEq, Prod.mk.injEq] at h; obtain ⟨rfl, rfl⟩ := h
    exact ⟨[], rfl, rfl, fun i e hi => by simp at hi⟩
  · split at h
    · rename_i ht
      subst ht
      simp only [Option.some.injEq, Prod.mk.injEq] at h; obtain ⟨rfl, rfl⟩ := h
      exact ⟨_, rfl, by simp [castL_self], encs _⟩
    · cases h
  · obtain ⟨h1, h2⟩ := rows _ _ _ h hp
    exact ⟨_, rfl, h1, h2⟩
  · rename_i b s off len cap
    split at h
    · split at h
      · rename_i t' xs hb
        split at h
        · rename_i ht
          subst ht
          simp only [Option.some.injEq, Prod.mk.injEq] at h; obtain ⟨rfl, rfl⟩ := h
          have hle : off + len ≤ xs.length := of_decide_eq_true (hp _ (List.mem_singleton.2 rfl))
          refine ⟨(seg off len xs).map t'.enc, ?_, by simp [castL_self], encs _⟩
          simp [elems, hb, asRow, seg, hle, List.map_take, List.map_drop]
        · cases h
      · rename_i s' es hb
        split at h
        · rename_i hle
          obtain ⟨h1, h2⟩ := rows _ _ _ h hp
          exact ⟨_, by simp [elems, hb, asRow, seg, hle], h1, h2⟩
        · cases h
      · cases h
    · cases h
  · cases h

theorem row_shift {l : Loc} {s off len : Nat} {es : List (List AV)} (h : rowRel Z φ w l s es) (ho : off + len ≤ es.length) : rowRel Z φ w ⟨l.B, l.ob + off * l.s, l.s, l.lim - off⟩ s (seg off len es) := by
  obtain ⟨h1, h2, c, T, fz, h3, h4, h5, h6⟩ := h
  refine ⟨h1, by simp [seg]; omega, c, T, fz, h3, ?_, h5, fun i e hi => ?_⟩
  · have : off * l.s + (l.lim - off) * l.s = l.lim * l.s := by rw [← Nat.add_mul]; congr 1; omega
    simp only; omega
  · have hil : i < len := by have := (List.getElem?_eq_some_iff.1 hi).1; simp [seg] at this; omega
    have : (seg off len es)[i]? = es[off + i]? := by simp [seg, List.getElem?_take, hil]
    rw [this] at hi
    obtain ⟨g1, g2, g3⟩ := h6 _ _ hi
    refine ⟨g1, g2, fun j v hj => ?_⟩
    obtain ⟨u, hu, hr⟩ := g3 j v hj
    refine ⟨u, ?_, hr⟩
    have e1 : l.ob + off * l.s + i * l.s + j = l.ob + (off + i) * l.s + j := by rw [Nat.add_mul]; omega
    simp only
    rw [e1]; exact hu

theorem rowRel_mono {l : Loc} {s : Nat} {es : List (List AV)} (hφ : PLe φ φ') (h : rowRel Z φ w l s es) : rowRel Z φ' w l s es :=
  (show blkRel Z φ w l (.row s es) from h).mono (ZLe.refl _) hφ rfl

/-- A name for a list of which there is no block. -/
theorem HRel.ghostNew (h : HRel base w0 Z φ H nx w) (t : Ty) : HRel base w0 Z φ (H.set nx (.lst t [])) (nx + 1) w := by
  have hfr := h.fresh (Nat.le_refl nx)
  have look : ∀ c z, (H.set nx (.lst t [])).get c = some z → (c = nx ∧ z = .lst t []) ∨ (c ≠ nx ∧ H.get c = some z) := by
    intro c z hz
    rw [Heap.get_set] at hz
    by_cases e : c = nx
    · rw [if_pos e] at hz; injection hz with hz; exact .inl ⟨e, hz.symm⟩
    · rw [if_neg e] at hz; exact .inr ⟨e, hz⟩
  refine ⟨h.below, h.z, h.z0, fun b x hb => Nat.lt_succ_of_lt (h.fnx b x hb), fun c z hz => ?_, h.flt, fun c z hz => ?_, fun c c' z z' l l' hne hz hz' hl hl' => ?_, fun c z l hz hl hu => ?_⟩
  · rcases look c z hz with ⟨rfl, _⟩ | ⟨_, h1⟩
    · exact Nat.lt_succ_self _
    · exact Nat.lt_succ_of_lt (h.hnx c z h1)
  · rcases look c z hz with ⟨rfl, rfl⟩ | ⟨_, h1⟩
    · exact .inl ⟨rfl, hfr⟩
    · exact h.own' c z h1
  · rcases look c z hz with ⟨rfl, _⟩ | ⟨_, h1⟩
    · rw [hfr] at hl; cases hl
    · rcases look c' z' hz' with ⟨rfl, _⟩ | ⟨_, h2⟩
      · rw [hfr] at hl'; cases hl'
      · exact h.inj c c' z z' l l' hne h1 h2 hl hl'
  · rcases look c z hz with ⟨rfl, _⟩ | ⟨_, h1⟩
    · rw [hfr] at hl; cases hl
    · exact h.ob c z l h1 hl hu

theorem sub_del (H : Heap) (b : Nat) : Sub (H.del b) H := fun c x h => by
  rw [Heap.get_del] at h
  split at h
  · cases h
  · exact h

/-- A slice of a list goes on under a name of its own, and nothing else of the list. -/
theorem HRel.rename (hh : HRel base w0 Z φ H nx w) {b s off len : Nat} {cap : Option Nat} {t : Ty} {blk : Blk} {es : List (List AV)} {xs : List t.den} {v : Value} (hb : H.get b = some blk) (hrow : asRow blk = some (s, es)) (hs : s = t.sz) (hle : off + len ≤ es.length)
    (hx : xs.length = len) (hw : ∀ (i : Nat) (e : List AV), (seg off len es)[i]? = some e → ∃ x, xs[i]? = some x ∧ WeakS e (t.enc x)) (hv : Rep Z φ (.sl b s off len cap) v) :
    ∃ φ', PLe φ φ' ∧ Rep Z φ' (.sl nx t.sz 0 len none) v ∧ HRel base w0 Z φ' ((H.del b).set nx (.lst t xs)) (nx + 1) w := by
  have zero : len = 0 → ∀ ao, v = .slice ao 0 0 → ∃ φ', PLe φ φ' ∧ Rep Z φ' (.sl nx t.sz 0 len none) v ∧ HRel base w0 Z φ' ((H.del b).set nx (.lst t xs)) (nx + 1) w := by
    intro h0 ao hv0
    subst hv0
    have hx0 : xs = [] := List.eq_nil_of_length_eq_zero (by omega)
    rw [hx0, h0]
    refine ⟨φ, PLe.refl _, ?_, (hh.sub (sub_del H b)).ghostNew t⟩
    cases ao with
    | none => exact .sl0n (Nat.le_refl 0)
    | some a => exact .sl0s (cap := none) (Nat.le_refl 0) a
  cases hv with
  | sl0n hc => exact zero rfl _ rfl
  | sl0s hc a => exact zero rfl _ rfl
  | sl hl hls hc hlc hlm ha =>
    rename_i c l a
    obtain ⟨_, hr⟩ := hh.rowOf hb hrow hl
    have hseg : (seg off len es).length = len := by simp [seg]; omega
    have hr2 := rowRel_weak (row_shift hr hle) hs (by omega) hw
    have hle2 := PMap.le_set (x := ⟨l.B, l.ob + off * l.s, l.s, l.lim - off⟩) (hh.fresh (Nat.le_refl nx))
    refine ⟨φ.set nx ⟨l.B, l.ob + off * l.s, l.s, l.lim - off⟩, hle2, ?_, hh.adopt (c := nx) (Nat.le_refl _) hb hl (w' := w) rfl rfl rfl rfl (Nat.le_refl _) (fun _ _ _ => rfl) (rowRel_mono hle2 hr2)⟩
    refine .sl (PMap.set_self _ _ _) (by simp only; rw [hls, hs]) hlc hlc (by simp only; omega) ?_
    rcases ha with rfl | h0
    · left; simp only [Nat.zero_mul, Nat.add_zero]; rw [hls]
    · exact .inr h0

/-- Appended: what is left of the block of the first slice is forgotten. -/
def appT (P : Program) (t : TypeId) (x y : AV) (H : Heap) (nx : Nat) : Option (Out × List Bool) :=
  match sliceElem P t with
  | none => none
  | some e => match tyOf P 8 e with
    | none => none
    | some τ => match szOf P e, bytesOf P e, zeroCellsOf P e, elemsD H τ (τ.dec []) y with
      | some s, some by_, some z, some (ys, ps) => if s = τ.sz ∧ z.length = s then match x with
        | .nils | .emp => some ((.sl nx τ.sz 0 ys.length none, H.set nx (.lst τ ys), nx + 1), ps ++ [fitsN ys.length by_])
        | .sl b s' off len _ => if s' = τ.sz then match H.get b with
          | some (.lst τ' xs) => if h : τ' = τ then some ((.sl nx τ.sz 0 (len + ys.length) none, (H.del b).set nx (.lst τ (seg off len (castL h xs) ++ ys)), nx + 1), ps ++ [decide (off + len ≤ xs.length), fitsN (len + ys.length) by_]) else none
          | some (.row s4 es) => match mapD (τ.dec []) (seg off len es) with
            | some (xs, qs) => if off + len ≤ es.length ∧ s4 = τ.sz then some ((.sl nx τ.sz 0 (len + ys.length) none, (H.del b).set nx (.lst τ (xs ++ ys)), nx + 1), ps ++ (qs ++ [fitsN (len + ys.length) by_])) else none
            | none => none
          | _ => none
          else none
        | _ => none
        else none
      | _, _, _, _ => none

theorem fitsA_of {e : TypeId} {s n b : Nat} {z : List AV} (h1 : szOf P e = some s) (h2 : bytesOf P e = some b) (h3 : zeroCellsOf P e = some z) (h4 : z.length = s) (h5 : fitsN n b = true) : fitsA P e s n = some () := by
  unfold fitsA
  simp only [fitsN, Bool.and_eq_true, Nat.ble_eq] at h5
  simp [h1, h2, h3, h4, h5.1, h5.2]

theorem rep_forget {b s off len : Nat} {cap : Option Nat} {v : Value} (h : Rep Z φ (.sl b s off len cap) v) : Rep Z φ (.sl b s off len none) v := by
  cases h with
  | sl hl hls hc hlc hlm ha => exact .sl hl hls hlc hlc hlm ha
  | sl0n hc => exact .sl0n (Nat.le_refl 0)
  | sl0s hc a => exact .sl0s (cap := none) (Nat.le_refl 0) a

theorem append_core (hh : HRel base w0 Z φ H nx w) {t ty : TypeId} {x y r : AV} {ux uy : Value} {H' : Heap} {nx' : Nat} {ps : List Bool} (hx : Rep Z φ x ux) (hy : Rep Z φ y uy) (hr : appT P t x y H nx = some ((r, H', nx'), ps)) (hp : ∀ p ∈ ps, p) :
    ValOk base w0 Z φ r H' nx' ((Builtin.append_ #[t, t] ty #[ux, uy]).run P w) := by
  unfold appT at hr
  split at hr
  · cases hr
  rename_i e he
  split at hr
  · cases hr
  rename_i τ hτ
  split at hr
  rotate_left
  · cases hr
  rename_i s by_ z ys ps0 hs hby hz hys
  split at hr
  rotate_left
  · cases hr
  rename_i hsz
  obtain ⟨hsz, hzl⟩ := hsz
  subst hsz
  have newsOf : (∀ p ∈ ps0, p = true) → ∃ news, elems H y = some news ∧ news.length = ys.length ∧ (∀ (i : Nat) (e : List AV), news[i]? = some e → ∃ x, ys[i]? = some x ∧ WeakS e (τ.enc x)) ∧ fitsS news τ.sz = true := by
    intro hp0
    obtain ⟨news, h1, h2, h3⟩ := elemsD_rows hys hp0
    refine ⟨news, h1, h2, h3, ?_⟩
    cases news with
    | nil => rfl
    | cons e0 l =>
      obtain ⟨x0, _, hw⟩ := h3 0 e0 rfl
      simp [fitsS, (hw (fun _ => none) (fun _ => none)).1, Ty.enc_length]
  -- onto nothing
  have onNil : ∀ (x : AV) (v : Value), Rep Z φ x v → (x = .nils ∨ x = .emp) → (∀ p ∈ ps0, p = true) → fitsN ys.length by_ = true → ValOk base w0 Z φ (.sl nx τ.sz 0 ys.length none) (H.set nx (.lst τ ys)) (nx + 1) ((Builtin.append_ #[t, t] ty #[v, uy]).run P w) := by
    intro x v hx hxx hp0 hfit
    obtain ⟨news, h1, h2, h3, h4⟩ := newsOf hp0
    by_cases hn : news = []
    · have hap : aappend P t x y H nx = some (x, H, nx) := by
        unfold aappend
        rcases hxx with rfl | rfl <;> simp [he, hs, h1, hn, fitsS]
      obtain ⟨u, w', Z', φ', g1, g2, g3, g4, g5⟩ := sound_append (ty := ty) hh hx hy hap
      have hys0 : ys = [] := List.eq_nil_of_length_eq_zero (by rw [← h2, hn]; rfl)
      subst hys0
      refine ⟨u, w', Z', φ', g1, ?_, g3, g4, g5.ghostNew τ⟩
      rcases hxx with rfl | rfl
      · cases g2; exact .sl0n (Nat.le_refl 0)
      · cases g2; exact .sl0s (cap := none) (Nat.le_refl 0) _
    · have hfit' : fitsN news.length by_ = true := by rw [h2]; exact hfit
      have hap : aappend P t x y H nx = some (.sl nx τ.sz 0 news.length none, H.set nx (.row τ.sz news), nx + 1) := by
        unfold aappend
        rcases hxx with rfl | rfl <;> simp [he, hs, h1, hn, h4, fitsA_of hs hby hz hzl hfit']
      obtain ⟨u, w', Z', φ', g1, g2, g3, g4, g5⟩ := sound_append (ty := ty) hh hx hy hap
      rw [h2] at g2
      exact ⟨u, w', Z', φ', g1, g2, g3, g4, g5.retype rfl fun l hrow => rowRel_weak hrow rfl h2.symm h3⟩
  -- onto a list
  have onRow : ∀ (b off len : Nat) (cap : Option Nat) (blk : Blk) (es : List (List AV)) (xs : List τ.den), Rep Z φ (.sl b τ.sz off len cap) ux → H.get b = some blk → asRow blk = some (τ.sz, es) → off + len ≤ es.length → xs.length = len →
      (∀ (i : Nat) (e : List AV), (seg off len es)[i]? = some e → ∃ x, xs[i]? = some x ∧ WeakS e (τ.enc x)) → (∀ p ∈ ps0, p = true) → fitsN (len + ys.length) by_ = true →
      ValOk base w0 Z φ (.sl nx τ.sz 0 (len + ys.length) none) ((H.del b).set nx (.lst τ (xs ++ ys))) (nx + 1) ((Builtin.append_ #[t, t] ty #[ux, uy]).run P w) := by
    intro b off len cap blk es xs hx hb hrow hle hxl hxw hp0 hfit
    obtain ⟨news, h1, h2, h3, h4⟩ := newsOf hp0
    have hx := rep_forget hx
    by_cases hn : news = []
    · have hap : aappend P t (.sl b τ.sz off len none) y H nx = some (.sl b τ.sz off len none, H, nx) := by
        unfold aappend
        simp [he, hs, h1, hn, fitsS]
      obtain ⟨u, w', Z', φ', g1, g2, g3, g4, g5⟩ := sound_append (ty := ty) hh hx hy hap
      have hys0 : ys = [] := List.eq_nil_of_length_eq_zero (by rw [← h2, hn]; rfl)
      subst hys0
      obtain ⟨φ'', k1, k2, k3⟩ := g5.rename hb hrow rfl hle hxl hxw g2
      simp only [List.append_nil, List.length_nil, Nat.add_zero]
      exact ⟨u, w', Z', φ'', g1, k2, g3, g4.trans k1, k3⟩
    · have hfit' : fitsN (len + news.length) by_ = true := by rw [h2]; exact hfit
      have hap : aappend P t (.sl b τ.sz off len none) y H nx = some (.sl nx τ.sz 0 (len + news.length) none, (H.del b).set nx (.row τ.sz (seg off len es ++ news)), nx + 1) := by
        unfold aappend
        have : ¬ es.length < off + len := by omega
        simp [he, hs, h1, hn, h4, hb, hrow, this, fitsA_of hs hby hz hzl hfit', seg]
      obtain ⟨u, w', Z', φ', g1, g2, g3, g4, g5⟩ := sound_append (ty := ty) hh hx hy hap
      rw [h2] at g2
      have hsegl : (seg off len es).length = len := by simp [seg]; omega
      refine ⟨u, w', Z', φ', g1, g2, g3, g4, g5.retype rfl fun l hrow => rowRel_weak hrow rfl (by simp [hsegl, hxl, h2]) fun i e hi => ?_⟩
      by_cases hil : i < len
      · rw [List.getElem?_append_left (by omega)] at hi ⊢
        exact hxw i e hi
      · rw [List.getElem?_append_right (by omega), hsegl] at hi
        rw [List.getElem?_append_right (by omega), hxl]
        exact h3 _ e hi
  split at hr
  · simp only [Option.some.injEq, Prod.mk.injEq] at hr
    obtain ⟨⟨rfl, rfl, rfl⟩, rfl⟩ := hr
    exact onNil _ _ hx (.inl rfl) (fun p h => hp p (List.mem_append_left _ h)) (hp _ (List.mem_append_right _ (List.mem_singleton.2 rfl)))
  · simp only [Option.some.injEq, Prod.mk.injEq] at hr
    obtain ⟨⟨rfl, rfl, rfl⟩, rfl⟩ := hr
    exact onNil _ _ hx (.inr rfl) (fun p h => hp p (List.mem_append_left _ h)) (hp _ (List.mem_append_right _ (List.mem_singleton.2 rfl)))
  · rename_i b s' off len cap
    split at hr
    rotate_left
    · cases hr
    rename_i hs'
    subst hs'
    split at hr
    · rename_i τ' xs hb
      split at hr
      · rename_i ht
        subst ht
        simp only [Option.some.injEq, Prod.mk.injEq] at hr
        obtain ⟨⟨rfl, rfl, rfl⟩, rfl⟩ := hr
        have hle : off + len ≤ xs.length := of_decide_eq_true (hp _ (List.mem_append_right _ (by simp)))
        have hfit : fitsN (len + ys.length) by_ = true := hp _ (List.mem_append_right _ (by simp))
        refine onRow b off len cap _ _ (seg off len (castL rfl xs)) hx hb rfl (by simpa using hle) (by simp [seg, castL_self]; omega) (fun i e hi => ?_) (fun p h => hp p (List.mem_append_left _ h)) hfit
        have e1 : seg off len (xs.map τ'.enc) = (seg off len xs).map τ'.enc := by simp [seg, List.map_take, List.map_drop]
        rw [e1, List.getElem?_map] at hi
        cases hy : (seg off len xs)[i]? with
        | none => rw [hy] at hi; cases hi
        | some y => rw [hy] at hi; injection hi with hi; subst hi; exact ⟨y, hy, WeakS.refl _⟩
      · cases hr
    · rename_i s4 es hb
      split at hr
      · rename_i xs qs hm
        split at hr
        · rename_i hc
          obtain ⟨hle, rfl⟩ := hc
          simp only [Option.some.injEq, Prod.mk.injEq] at hr
          obtain ⟨⟨rfl, rfl, rfl⟩, rfl⟩ := hr
          obtain ⟨k1, k2⟩ := mapD_get hm
          have hsegl : (seg off len es).length = len := by simp [seg]; omega
          have hfit : fitsN (len + ys.length) by_ = true := hp _ (by simp)
          exact onRow b off len cap _ es xs hx hb rfl hle (by omega) (fun i e hi => let ⟨x, p, hx, hd, hq⟩ := k2 i e hi; ⟨x, hx, dec_weak hd fun q hq' => hp q (by simp [hq q hq'])⟩) (fun p h => hp p (List.mem_append_left _ h)) hfit
        · cases hr
      · cases hr
    · cases hr
  · cases hr
end
end Go.Lom
