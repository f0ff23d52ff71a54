/- Slices, composites, maps read: sound; and all quiet operations together. -/
import Derived.Test.YtnjaebjhfilljaaLomF
set_option linter.unusedSimpArgs false
namespace Go.Lom
open Go.RowKit

section
variable {P : Program} {base : Nat → Prop} {w0 : Start} {Z : ZMap} {φ : PMap} {H : Heap} {nx : Nat} {w : World}

/-- An optional operand. -/
def RepO (Z : ZMap) (φ : PMap) : Option AV → Option Value → Prop
  | none, none => True
  | some x, some u => Rep Z φ x u
  | _, _ => False

theorem run_bound {x : AV} {u : Value} {n most d : Nat} {code : BoundsCode} (h : bnd (some x) d most = some n) (hx : Rep Z φ x u) {most' : Nat} (hm : most ≤ most') (w : World) :
    (Instr.sliceBound u most' code).run P w = .ok n w := by
  unfold bnd at h
  simp only [Option.bind_eq_bind, Option.bind_eq_some_iff] at h
  obtain ⟨k, hk, h⟩ := h
  obtain ⟨kd, rfl⟩ := asI_some hk hx
  split at h
  · rename_i hh
    injection h with h; subst h
    unfold Instr.sliceBound
    refine run_bind' (x := (kd, k)) (w' := w) rfl ?_
    simp only
    rw [if_pos ⟨hh.1, by omega⟩]; rfl
  · cases h
theorem bnd_le {x : AV} {n most d : Nat} (h : bnd (some x) d most = some n) : n ≤ most := by
  unfold bnd at h
  simp only [Option.bind_eq_bind, Option.bind_eq_some_iff] at h
  obtain ⟨k, hk, h⟩ := h
  split at h
  · rename_i hh; injection h with h; omega
  · cases h

/-- The bounds of a slice expression without a third index. -/
theorem run_bounds2 {isSlice : Bool} {len cap h l most : Nat} {lo hi : Option AV} {ulo uhi : Option Value} (hh : bnd hi len most = some h) (hl : bnd lo 0 h = some l) (rlo : RepO Z φ lo ulo) (rhi : RepO Z φ hi uhi)
    (hm : most ≤ cap) (w : World) : (Instr.sliceBounds isSlice len cap ulo uhi none).run P w = .ok (l, h, cap) w := by
  cases hi with
  | none =>
    cases uhi with
    | some _ => exact rhi.elim
    | none =>
      simp only [bnd, Option.some.injEq] at hh; subst hh
      cases lo with
      | none =>
        cases ulo with
        | some _ => exact rlo.elim
        | none => simp only [bnd, Option.some.injEq] at hl; subst hl; simp [Instr.sliceBounds, go_sem]
      | some x =>
        cases ulo with
        | none => exact rlo.elim
        | some u => have := fun c => run_bound (P := P) (code := c) hl rlo (Nat.le_refl _) w; simp [Instr.sliceBounds, this, go_sem]
  | some x =>
    cases uhi with
    | none => exact rhi.elim
    | some u =>
      have hb := fun c => run_bound (P := P) (code := c) hh rhi hm w
      cases lo with
      | none =>
        cases ulo with
        | some _ => exact rlo.elim
        | none => simp only [bnd, Option.some.injEq] at hl; subst hl; simp [Instr.sliceBounds, hb, go_sem]
      | some x =>
        cases ulo with
        | none => exact rlo.elim
        | some u => have := fun c => run_bound (P := P) (code := c) hl rlo (Nat.le_refl _) w; simp [Instr.sliceBounds, this, hb, go_sem]
theorem run_bounds3 {isSlice : Bool} {len cap m h l d : Nat} {lo : Option AV} {ulo : Option Value} {x y : AV} {u v : Value} {most : Nat} (hmx : bnd (some y) d most = some m) (hm : most ≤ cap) (hh : bnd (some x) len m = some h) (hl : bnd lo 0 h = some l)
    (rlo : RepO Z φ lo ulo) (rx : Rep Z φ x u) (ry : Rep Z φ y v) (w : World) : (Instr.sliceBounds isSlice len cap ulo (some u) (some v)).run P w = .ok (l, h, m) w := by
  have h1 := fun c => run_bound (P := P) (code := c) hmx ry hm w
  have h2 := fun c => run_bound (P := P) (code := c) hh rx (Nat.le_refl _) w
  cases lo with
  | none =>
    cases ulo with
    | some _ => exact rlo.elim
    | none => simp only [bnd, Option.some.injEq] at hl; subst hl; simp [Instr.sliceBounds, h1, h2, go_sem]
  | some x =>
    cases ulo with
    | none => exact rlo.elim
    | some u => have := fun c => run_bound (P := P) (code := c) hl rlo (Nat.le_refl _) w; simp [Instr.sliceBounds, h1, h2, this, go_sem]

theorem bnd_le' {x : Option AV} {n most d : Nat} (h : bnd x d most = some n) (hd : d ≤ most) : n ≤ most := by
  cases x with
  | none => simp only [bnd, Option.some.injEq] at h; omega
  | some x => exact bnd_le h

/-- All bounds: with a third index or without. -/
theorem run_boundsAny {isSlice : Bool} {len cap most h l : Nat} {m : Option Nat} {lo hi mx : Option AV} {ulo uhi umx : Option Value}
    (hmx : mxB mx most = some m) (hm : most ≤ cap) (hlen : len ≤ most)
    (hh : bnd hi len (m.getD most) = some h) (hl : bnd lo 0 h = some l) (hn : (mx.isSome && hi.isNone) = false)
    (rlo : RepO Z φ lo ulo) (rhi : RepO Z φ hi uhi) (rmx : RepO Z φ mx umx) (w : World) :
    (Instr.sliceBounds isSlice len cap ulo uhi umx).run P w = .ok (l, h, m.getD cap) w ∧ l ≤ h ∧ h ≤ m.getD cap ∧ (∀ k, m = some k → k ≤ most) := by
  cases mx with
  | none =>
    cases umx with
    | some _ => exact rmx.elim
    | none =>
      simp only [mxB, Option.some.injEq] at hmx; subst hmx
      have := bnd_le' hh (by simpa using hlen)
      simp only [Option.getD_none] at this hh ⊢
      exact ⟨run_bounds2 hh hl rlo rhi hm w, bnd_le' hl (Nat.zero_le _), by omega, fun k hk => by cases hk⟩
  | some y =>
    cases umx with
    | none => exact rmx.elim
    | some v =>
      simp only [mxB, Option.map_eq_some_iff] at hmx
      obtain ⟨m', hm', rfl⟩ := hmx
      cases hi with
      | none => simp at hn
      | some x =>
        cases uhi with
        | none => exact rhi.elim
        | some u =>
          simp only [Option.getD_some] at hh ⊢
          exact ⟨run_bounds3 hm' hm hh hl rlo rhi rmx w, bnd_le' hl (Nat.zero_le _), bnd_le hh, fun k hk => by injection hk with hk; subst hk; exact bnd_le hm'⟩

theorem run_sliceAt {t e s : Nat} {ao : Option Addr} {len cap l h m : Nat} {ulo uhi umx : Option Value} (hu : P.underlying t = some (.slice e)) (hs : szOf P e = some s)
    (hb : (Instr.sliceBounds true len cap ulo uhi umx).run P w = .ok (l, h, m) w) :
    (Instr.sliceAt t (.slice ao len cap) ulo uhi umx).run P w = .ok (.slice (if m = l then ao else ao.map (·.add (l * s))) (h - l) (m - l)) w := by
  unfold Instr.sliceAt
  refine run_bind' (run_underlying' hu w) ?_
  unfold Instr.slice
  refine run_bind' (run_underlying' hu w) ?_
  refine run_bind' hb ?_
  exact run_bind' (run_szOf hs w) rfl

theorem slice_rs {t e s0 : Nat} {xs : List (List AV)} {u : Value} {lo hi mx : Option AV} {ulo uhi umx : Option Value} {m : Option Nat} {h l : Nat} (hu : P.underlying t = some (.slice e)) (hx : Rep Z φ (.rs xs) u) (rlo : RepO Z φ lo ulo) (rhi : RepO Z φ hi uhi) (rmx : RepO Z φ mx umx)
    (hn : ¬ (mx.isSome && hi.isNone) = true) (hs : szOf P e = some s0) (hm : mxB mx xs.length = some m) (hh : bnd hi xs.length (m.getD xs.length) = some h) (hl : bnd lo 0 h = some l) (hfit : fitsS xs s0 ≠ false) :
    ∃ q, (Instr.sliceAt t u ulo uhi umx).run P w = .ok q w ∧ Rep Z φ (.rs ((xs.take h).drop l)) q := by
  cases hx with
  | rs0 =>
    simp only [List.length_nil] at hm hh
    obtain ⟨hb, h1, h2, h3⟩ := run_boundsAny (P := P) (isSlice := true) (cap := 0) hm (Nat.le_refl _) (Nat.le_refl _) hh hl ((Bool.not_eq_true _).mp hn) rlo rhi rmx w
    refine ⟨_, run_sliceAt hu hs hb, ?_⟩
    have hm0 : m.getD 0 = 0 := by cases m with | none => rfl | some k => have := h3 k rfl; simp only [Option.getD_some]; omega
    have e1 : h - l = 0 := by omega
    have e2 : m.getD 0 - l = 0 := by omega
    have e3 : (([] : List (List AV)).take h).drop l = [] := by simp
    rw [e1, e2, e3]
    by_cases hml : m.getD 0 = l
    · rw [if_pos hml]; exact .rs0
    · rw [if_neg hml]; exact .rs0
  | rs us hxn hc ha h0 g1 g2 =>
  rename_i B off c s n a
  subst hxn
  obtain ⟨hb, h1, h2, h3⟩ := run_boundsAny (P := P) (isSlice := true) hm hc (Nat.le_refl _) hh hl ((Bool.not_eq_true _).mp hn) rlo rhi rmx w
  refine ⟨_, run_sliceAt hu hs hb, ?_⟩
  have hlx : h ≤ xs.length := by
    cases m with
    | none => exact bnd_le' hh (by simp)
    | some k =>
      have h4 := h3 k rfl
      cases hi with
      | none =>
        cases mx with
        | none => simp [mxB] at hm
        | some y => simp at hn
      | some y => have := bnd_le hh; simp only [Option.getD_some] at this; omega
  have hlen : ((xs.take h).drop l).length = h - l := by simp; omega
  have hget : ∀ i e, ((xs.take h).drop l)[i]? = some e → xs[l + i]? = some e := fun i e hi => by
    rw [List.getElem?_drop, List.getElem?_take] at hi
    split at hi
    · exact hi
    · cases hi
  by_cases hmc : m.getD c = l
  · rw [if_pos hmc]
    have : h - l = 0 := by omega
    rw [this] at hlen ⊢
    have hnil := List.eq_nil_of_length_eq_zero hlen
    rw [hnil]
    exact .rs (s := 0) (B := 0) (off := 0) (fun _ _ => Go.undef) rfl (by omega) (.inr rfl) (fun i e hi => by simp at hi) (fun i e j v hi => by simp at hi) (fun i e j v hi => by simp at hi)
  · rw [if_neg hmc]
    refine .rs (s := s) (B := B) (off := off + l * s) (fun i j => us (l + i) j) hlen (by omega) ?_ (fun i e hi => h0 _ _ (hget i e hi)) (fun i e j v hi hj => ?_) (fun i e j v hi hj => g2 _ _ _ _ (hget i e hi) hj)
    · by_cases hx0 : xs.length = 0
      · right; omega
      rcases ha with rfl | hz
      · left; show Addr.add _ _ = _; rw [add_none]; congr 1
        cases xs with
        | nil => exact absurd rfl hx0
        | cons e0 xs =>
          have h5 := (h0 0 e0 rfl).1
          simp only [fitsS, beq_eq_false_iff_ne, ne_eq, Decidable.not_not] at hfit
          rw [← h5, hfit]
      · right; omega
    · have := g1 _ _ _ _ (hget i e hi) hj
      rw [Nat.add_mul] at this
      rw [← this]; congr 1; omega

theorem sound_slice {t : TypeId} {x r : AV} {u : Value} {lo hi mx : Option AV} {ulo uhi umx : Option Value} (hx : Rep Z φ x u) (rlo : RepO Z φ lo ulo) (rhi : RepO Z φ hi uhi) (rmx : RepO Z φ mx umx)
    (hr : aslice P t x lo hi mx = some r) : ∃ q, (Instr.sliceAt t u ulo uhi umx).run P w = .ok q w ∧ Rep Z φ r q := by
  unfold aslice at hr
  split at hr
  · rename_i s hu
    cases hx
    split at hr
    · cases hr
    · rename_i hmx
      have hmx0 : mx = none := by simpa using hmx
      subst hmx0
      cases umx with
      | some _ => exact rmx.elim
      | none =>
        simp only [Option.bind_eq_bind, Option.bind_eq_some_iff, Option.some.injEq] at hr
        obtain ⟨h, hh, l, hl, rfl⟩ := hr
        have hb := run_bounds2 (P := P) (isSlice := false) hh hl rlo rhi (Nat.le_refl _) w
        refine ⟨.string ⟨((s.take h).drop l).toArray⟩, ?_, .str _⟩
        unfold Instr.sliceAt
        refine run_bind' (run_underlying' hu w) ?_
        unfold Instr.slice
        refine run_bind' (run_underlying' hu w) ?_
        simp only [Option.isSome_none, Bool.false_eq_true, if_false]
        rw [size_mk]
        refine run_bind' hb ?_
        have : (⟨s.toArray⟩ : ByteArray).extract l h = ⟨((s.take h).drop l).toArray⟩ := by
          apply ByteArray.ext
          rw [ByteArray.data_extract]
          apply Array.ext'
          simp [List.extract_eq_take_drop, List.drop_take]
        rw [this]; rfl
  · rename_i e b s off len cap hu
    split at hr
    · cases hr
    · rename_i hsn
      simp only [not_or, ne_eq, Decidable.not_not] at hsn
      obtain ⟨hs', hn⟩ := hsn
      simp only [Option.bind_eq_bind, Option.bind_eq_some_iff, Option.some.injEq] at hr
      obtain ⟨m, hm, h, hh, l, hl, rfl⟩ := hr
      have zero : ∀ ao : Option Addr, u = .slice ao 0 0 → len = 0 → capOk cap 0 0 → ∃ q, (Instr.sliceAt t u ulo uhi umx).run P w = .ok q w ∧ Rep Z φ (.sl b s (off + l) (h - l) (newCap m l cap)) q := by
        intro ao hu0 hl0 hc0
        subst hu0 hl0
        have hmost : cap.getD 0 ≤ 0 := by cases cap with | none => simp | some k => simp only [capOk] at hc0; simp; omega
        obtain ⟨hb, h1, h2, h3⟩ := run_boundsAny (P := P) (isSlice := true) (cap := 0) hm hmost (by omega) hh hl ((Bool.not_eq_true _).mp hn) rlo rhi rmx w
        refine ⟨_, run_sliceAt hu hs' hb, ?_⟩
        have hm0 : m.getD 0 = 0 := by cases m with | none => rfl | some k => have := h3 k rfl; simp only [Option.getD_some]; omega
        have e1 : h - l = 0 := by omega
        have e2 : m.getD 0 - l = 0 := by omega
        rw [e1, e2]
        have hcap : capOk (newCap m l cap) 0 0 := by
          cases m with
          | none => cases cap with
            | none => exact Nat.le_refl 0
            | some k => simp only [newCap, capOk, Option.map_some] at hc0 ⊢; omega
          | some m => simp only [newCap, capOk, Option.getD_some] at hm0 ⊢; omega
        cases ao with
        | none => by_cases hml : m.getD 0 = l
                  · rw [if_pos hml]; exact .sl0n hcap
                  · rw [if_neg hml]; exact .sl0n hcap
        | some a => by_cases hml : m.getD 0 = l
                    · rw [if_pos hml]; exact .sl0s hcap _
                    · rw [if_neg hml]; exact .sl0s hcap _
      cases hx with
      | sl0n hc0 => exact zero _ rfl rfl hc0
      | sl0s hc0 a => exact zero _ rfl rfl hc0
      | sl hf hls hc hlc hlm ha =>
      subst hls
      rename_i c lo2 a
      have hmost : cap.getD len ≤ c := by cases cap with | none => exact hlc | some k => simp only [capOk] at hc; simp [hc]
      have hlen : len ≤ cap.getD len := by cases cap with | none => simp | some k => simp only [capOk] at hc; simp; omega
      obtain ⟨hb, h1, h2, h3⟩ := run_boundsAny (P := P) (isSlice := true) hm hmost hlen hh hl ((Bool.not_eq_true _).mp hn) rlo rhi rmx w
      refine ⟨_, run_sliceAt hu hs' hb, ?_⟩
      have hcap : capOk (newCap m l cap) (h - l) (m.getD c - l) := by
        cases m with
        | some m => rfl
        | none =>
          cases cap with
          | none => simp only [newCap, capOk, Option.map_none, Option.getD_none] at h2 ⊢; omega
          | some k => simp only [newCap, capOk, Option.map_some, Option.getD_none] at hc ⊢; omega
      have hmc : m.getD c ≤ c := by
        cases m with
        | none => exact Nat.le_refl _
        | some k => have := h3 k rfl; simp only [Option.getD_some]; omega
      by_cases hml : m.getD c = l
      · rw [if_pos hml]
        exact .sl hf rfl hcap (by omega) (by omega) (.inr (by omega))
      · rw [if_neg hml]
        refine .sl hf rfl hcap (by omega) (by omega) ?_
        rcases ha with rfl | hc0
        · left; show Addr.add _ _ = _; rw [add_none, Nat.add_mul]; congr 1; omega
        · right; omega
  · rename_i e xs hu
    split at hr
    · cases hr
    · rename_i hn
      simp only [Option.bind_eq_bind, Option.bind_eq_some_iff] at hr
      obtain ⟨s0, hs, m, hm, h, hh, l, hl, hr⟩ := hr
      split at hr
      · cases hr
      rename_i hfit
      injection hr with hr; subst hr
      exact slice_rs hu hx rlo rhi rmx hn hs hm hh hl hfit
  · rename_i e τ xs hu
    split at hr
    · cases hr
    · rename_i hn
      simp only [Option.bind_eq_bind, Option.bind_eq_some_iff] at hr
      obtain ⟨s0, hs, m, hm, h, hh, l, hl, hr⟩ := hr
      split at hr
      · rename_i hfit
        injection hr with hr; subst hr
        cases hx with
        | rl hx =>
        obtain ⟨q, hq, hrep⟩ := slice_rs (w := w) hu hx rlo rhi rmx hn hs (by simpa using hm) (by simpa using hh) hl (by
          cases xs with
          | nil => simp [fitsS]
          | cons y ys => simp [fitsS, Ty.enc_length, hfit])
        rw [show ((xs.map τ.enc).take h).drop l = ((xs.take h).drop l).map τ.enc from by rw [List.map_drop, List.map_take]] at hrep
        exact ⟨q, hq, hrep.toRl⟩
      · cases hr
  · rename_i e hu
    split at hr
    · cases hr
    · rename_i hn
      simp only [Option.bind_eq_bind, Option.bind_eq_some_iff, Option.some.injEq] at hr
      obtain ⟨s0, hs, m, hm, h, hh, l, hl, rfl⟩ := hr
      cases hx
      obtain ⟨hb, h1, h2, h3⟩ := run_boundsAny (P := P) (isSlice := true) (cap := 0) hm (Nat.le_refl _) (Nat.le_refl _) hh hl ((Bool.not_eq_true _).mp hn) rlo rhi rmx w
      refine ⟨_, run_sliceAt hu hs hb, ?_⟩
      have hm0 : m.getD 0 = 0 := by cases m with | none => rfl | some k => have := h3 k rfl; simp only [Option.getD_some]; omega
      have e1 : h - l = 0 := by omega
      have e2 : m.getD 0 - l = 0 := by omega
      rw [e1, e2]
      by_cases hml : m.getD 0 = l
      · rw [if_pos hml]; exact .nils
      · rw [if_neg hml]; exact .nils
  · rename_i e hu
    split at hr
    · cases hr
    · rename_i hn
      simp only [Option.bind_eq_bind, Option.bind_eq_some_iff, Option.some.injEq] at hr
      obtain ⟨s0, hs, m, hm, h, hh, l, hl, rfl⟩ := hr
      cases hx
      obtain ⟨hb, h1, h2, h3⟩ := run_boundsAny (P := P) (isSlice := true) (cap := 0) hm (Nat.le_refl _) (Nat.le_refl _) hh hl ((Bool.not_eq_true _).mp hn) rlo rhi rmx w
      refine ⟨_, run_sliceAt hu hs hb, ?_⟩
      have hm0 : m.getD 0 = 0 := by cases m with | none => rfl | some k => have := h3 k rfl; simp only [Option.getD_some]; omega
      have e1 : h - l = 0 := by omega
      have e2 : m.getD 0 - l = 0 := by omega
      rw [e1, e2]
      by_cases hml : m.getD 0 = l
      · rw [if_pos hml]; exact .emp _
      · rw [if_neg hml]; exact .emp _
  · cases hr

end
end Go.Lom
