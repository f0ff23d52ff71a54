/- Composites, lengths, maps read: sound; and all quiet operations together. -/
import Derived.Test.YtnjaebjhfilljaaLomG
set_option linter.unusedSimpArgs false
namespace Go.Lom
open Go.RowKit

section
variable {P : Program} {base : Nat → Prop} {w0 : Start} {Z : ZMap} {φ : PMap} {H : Heap} {nx : Nat} {w : World}

theorem rep_cells {x : AV} {u : Value} {cs : List AV} (h : cellsOf x = some cs) (hx : Rep Z φ x u) :
    Reps Z φ cs u.cells ∧ cs.all oneC = true := by
  unfold cellsOf at h
  split at h
  · split at h
    · rename_i ha
      injection h with h; subst h
      cases hx with | agg hl hh => exact ⟨⟨hl, hh⟩, ha⟩
    · cases h
  · split at h
    · rename_i hne ho
      injection h with h; subst h
      have : u.cells = #[u] := by
        cases hx <;> first | rfl | (simp [oneC] at ho; done) | exact absurd rfl (hne _)
      rw [this]
      refine ⟨⟨rfl, fun i v q hi hq => ?_⟩, by simp [ho]⟩
      match i with
      | 0 => simp at hi hq; subst hi hq; exact hx
      | i + 1 => simp at hi
    · cases h

def foldSet (cells : Array Value) (off : Nat) : List Value → Array Value
  | [] => cells
  | c :: cs => foldSet (cells.setIfInBounds off c) (off + 1) cs

theorem foldSet_eq (off : Nat) : ∀ (l : List Value) (k : Nat) (cells : Array Value), (l.zipIdx k).foldl (fun (cs : Array Value) p => cs.setIfInBounds (off + p.2) p.1) cells = foldSet cells (off + k) l
  | [], _, _ => rfl
  | c :: l, k, cells => by
    simp only [List.zipIdx_cons, List.foldl_cons, foldSet]
    rw [foldSet_eq off l (k + 1)]; rfl

theorem reps_set {e : List AV} {us : Array Value} (h : Reps Z φ e us) {o : Nat} {v : AV} {u : Value} (hr : Rep Z φ v u) : Reps Z φ (e.set o v) (us.setIfInBounds o u) := by
  refine ⟨by simp [h.1], fun i a b hi hb => ?_⟩
  rw [List.getElem?_set] at hi
  rw [Array.getElem?_setIfInBounds] at hb
  by_cases ho : o = i
  · subst ho
    rw [if_pos rfl] at hi hb
    split at hi
    · rw [if_pos (by have := h.1; omega)] at hb
      injection hi with hi; injection hb with hb; subst hi hb; exact hr
    · cases hi
  · rw [if_neg ho] at hi hb
    exact h.2 i a b hi hb

theorem reps_splice : ∀ (cs : List AV) (us : List Value) (e : List AV) (cells : Array Value) (o : Nat), Reps Z φ e cells → us.length = cs.length → (∀ (i : Nat) (v : AV) (u : Value), cs[i]? = some v → us[i]? = some u → Rep Z φ v u) →
    Reps Z φ (splice e o cs) (foldSet cells o us)
  | [], us, e, cells, o, h, hl, _ => by
    cases us with
    | nil => exact h
    | cons _ _ => simp at hl
  | v :: cs, us, e, cells, o, h, hl, hr => by
    cases us with
    | nil => simp at hl
    | cons u us =>
      simp only [splice, foldSet]
      exact reps_splice cs us _ _ _ (reps_set h (hr 0 v u rfl rfl)) (by simpa using hl) fun i a b ha hb => hr (i + 1) a b (by simpa using ha) (by simpa using hb)

theorem splice_length : ∀ (cs e : List AV) (o : Nat), (splice e o cs).length = e.length
  | [], _, _ => rfl
  | _ :: cs, e, o => by simp [splice, splice_length cs]

theorem sound_fill {pl : Nat → Option (Nat × Nat)} : ∀ (ps : List (Nat × AV)) (qs : List (Nat × Value)) (e r : List AV) (cells : Array Value), Reps Z φ e cells → qs.length = ps.length →
    (∀ (i : Nat) (p : Nat × AV) (q : Nat × Value), ps[i]? = some p → qs[i]? = some q → p.1 = q.1 ∧ Rep Z φ p.2 q.2) → afill pl e ps = some r → ∃ c, Instr.fill pl cells qs = some c ∧ Reps Z φ r c
  | [], qs, e, r, cells, h, hl, _, hr => by
    cases qs with
    | nil => simp only [afill, Option.some.injEq] at hr; subst hr; exact ⟨cells, rfl, h⟩
    | cons _ _ => simp at hl
  | (i, v) :: ps, qs, e, r, cells, h, hl, hp, hr => by
    cases qs with
    | nil => simp at hl
    | cons q qs =>
      obtain ⟨k, u⟩ := q
      obtain ⟨h1, h2⟩ := hp 0 (i, v) (k, u) rfl rfl
      simp only at h1 h2
      subst h1
      simp only [afill, Option.bind_eq_bind, Option.bind_eq_some_iff] at hr
      obtain ⟨⟨off, size⟩, hpl, cs, hcs, hr⟩ := hr
      obtain ⟨hreps, _⟩ := rep_cells hcs h2
      split at hr
      · rename_i hh
        have e1 : u.cells.zipIdx.foldl (fun (cs : Array Value) p => cs.setIfInBounds (off + p.2) p.1) cells = foldSet cells off u.cells.toList := by
          rw [← Array.foldl_toList, Array.toList_zipIdx, foldSet_eq]; rfl
        obtain ⟨c, hc, hrc⟩ := sound_fill ps qs _ r (foldSet cells off u.cells.toList)
          (reps_splice cs u.cells.toList e cells off h (by simpa using hreps.1) fun i a b ha hb => hreps.2 i a b ha (by simpa using hb)) (by simpa using hl)
          (fun j p q hj hq => hp (j + 1) p q (by simpa using hj) (by simpa using hq)) hr
        refine ⟨c, ?_, hrc⟩
        unfold Instr.fill
        have h3 := hreps.1
        have h4 := h.1
        simp only [hpl]
        rw [if_neg (by simp only [ne_eq, gt_iff_lt, Bool.or_eq_true, decide_eq_true_eq, not_or, Decidable.not_not]; omega)]
        rw [e1]
        exact hc
      · cases hr

theorem run_mapM {α β : Type} (g : α → Sem β) (k : α → Option β) (hg : ∀ x y, k x = some y → (g x).run P w = .ok y w) : ∀ (l : List α) (ys : List β), l.mapM k = some ys → (l.mapM g).run P w = .ok ys w
  | [], ys, h => by simp at h; subst h; rfl
  | x :: l, ys, h => by
    rw [List.mapM_cons] at h ⊢
    simp only [Option.bind_eq_bind, Option.bind_eq_some_iff, Option.pure_def, Option.some.injEq] at h
    obtain ⟨y, hy, ys', h1, rfl⟩ := h
    exact run_bind' (hg x y hy) (run_bind' (run_mapM g k hg l ys' h1) rfl)

theorem run_places {fs : Array Field} {pl : List (Nat × Nat)} (h : placesOf P fs = some pl) (w : World) :
    (fs.mapM fun f => do pure (f.offset, ← sizeOf f.type) : Sem (Array (Nat × Nat))).run P w = .ok pl.toArray w := by
  rw [Array.mapM_eq_mapM_toList]
  have := run_mapM (P := P) (w := w) (fun (f : Field) => do pure (f.offset, ← sizeOf f.type)) (fun f => (szOf P f.type).map fun n => (f.offset, n)) (fun f y hy => by
    simp only [Option.map_eq_some_iff] at hy
    obtain ⟨n, hn, rfl⟩ := hy
    exact run_bind' (run_szOf hn w) rfl) fs.toList pl h
  rw [map_eq_pure_bind]
  exact run_bind' this rfl

theorem sound_build {t : TypeId} {ps : List (Nat × AV)} {qs : Array (Nat × Value)} {r : AV} (hl : qs.size = ps.length)
    (hp : ∀ (i : Nat) (p : Nat × AV) (q : Nat × Value), ps[i]? = some p → qs[i]? = some q → p.1 = q.1 ∧ Rep Z φ p.2 q.2) (hr : abuild P t ps = some r) :
    ∃ q, (Instr.build t qs).run P w = .ok q w ∧ Rep Z φ r q := by
  unfold abuild at hr
  simp only [Option.bind_eq_bind, Option.bind_eq_some_iff] at hr
  obtain ⟨z, hz, hr⟩ := hr
  unfold zeroCellsOf at hz
  simp only [Option.bind_eq_some_iff] at hz
  obtain ⟨z0, hz0, hz⟩ := hz
  obtain ⟨zu, hzu, hzr⟩ := run_zeroValue (Z := Z) (φ := φ) hz0 w
  obtain ⟨hzc, _⟩ := rep_cells hz hzr
  have hl' : qs.toList.length = ps.length := by simpa using hl
  have hp' : ∀ (i : Nat) (p : Nat × AV) (q : Nat × Value), ps[i]? = some p → qs.toList[i]? = some q → p.1 = q.1 ∧ Rep Z φ p.2 q.2 := fun i p q a b => hp i p q a (by simpa using b)
  split at hr
  · rename_i fs hu
    simp only [Option.bind_eq_some_iff, Option.map_eq_some_iff] at hr
    obtain ⟨pl, hpl, cs, hcs, rfl⟩ := hr
    obtain ⟨c, hc, hrc⟩ := sound_fill ps qs.toList z cs zu.cells hzc hl' hp' hcs
    refine ⟨.agg c, ?_, .agg hrc.1 hrc.2⟩
    unfold Instr.build
    refine run_bind' hzu (run_bind' (run_underlying' hu w) (run_bind' (run_places hpl w) ?_))
    have e1 : (fun x : Nat => pl.toArray[x]?) = fun i : Nat => pl[i]? := by funext i; simp
    rw [e1, hc]; rfl
  · rename_i n e hu
    simp only [Option.bind_eq_some_iff, Option.map_eq_some_iff] at hr
    obtain ⟨s, hs, cs, hcs, rfl⟩ := hr
    obtain ⟨c, hc, hrc⟩ := sound_fill ps qs.toList z cs zu.cells hzc hl' hp' hcs
    refine ⟨.agg c, ?_, .agg hrc.1 hrc.2⟩
    unfold Instr.build
    refine run_bind' hzu (run_bind' (run_underlying' hu w) (run_bind' (run_szOf hs w) ?_))
    rw [hc]; rfl
  · cases hr

theorem sound_extract {x r : AV} {u : Value} {i : Nat} (hx : Rep Z φ x u) (hr : aextract x i = some r) : ∃ q, (Instr.extract u i).run P w = .ok q w ∧ Rep Z φ r q := by
  unfold aextract at hr
  cases hx with
  | tup hl h =>
    rename_i cs us
    have hlt : i < us.size := by have := (List.getElem?_eq_some_iff.1 hr).1; omega
    refine ⟨us[i], ?_, h i r _ hr (Array.getElem?_eq_getElem hlt)⟩
    simp [Instr.extract, hlt, go_sem]
  | _ => simp at hr

theorem HRel.entries (h : HRel base w0 Z φ H nx w) {b : Nat} {es : List (AV × AV)} {l : Loc} (hf : φ b = some l) (hb : H.get b = some (.mp es)) :
    ∃ ms clk, w.heap[l.B]? = some (.map ms clk) ∧ ms.size = es.length ∧ ∀ (i : Nat) (k v : AV) (m : MapEntry), es[i]? = some (k, v) → ms[i]? = some m → Rep Z φ k m.key ∧ Rep Z φ v m.val := by
  obtain ⟨l', hf', _, hr⟩ := h.own b _ hb
  rw [hf] at hf'; injection hf' with hf'; subst hf'
  exact hr

theorem run_getObj_map' {B : Nat} {ms : Array MapEntry} {clk : Nat} (h : w.heap[B]? = some (.map ms clk)) : (getObj B).run P w = .ok (.map ms clk) w := by
  simp [getObj, Sem.run, h]

theorem sound_len (h : HRel base w0 Z φ H nx w) {t ty : TypeId} {x r : AV} {u : Value} (hx : Rep Z φ x u) (hr : alen P t x H = some r) :
    ∃ q, (Builtin.len_ #[t] ty #[u]).run P w = .ok q w ∧ Rep Z φ r q := by
  unfold alen at hr
  split at hr
  · rename_i s hu; cases hx; injection hr with hr; subst hr
    exact ⟨_, by simp [Builtin.len_, run_underlying' hu, size_mk, goInt, Sem.run_bind, go_sem], .int _ _⟩
  · rename_i n e hu; injection hr with hr; subst hr
    exact ⟨_, by simp [Builtin.len_, run_underlying' hu, goInt, Sem.run_bind, go_sem], .int _ _⟩
  · rename_i a hu
    split at hr
    · rename_i n e hu2
      injection hr with hr; subst hr
      exact ⟨_, by simp [Builtin.len_, run_underlying' hu, run_underlying' hu2, goInt, Sem.run_bind, go_sem], .int _ _⟩
    · cases hr
  · rename_i e hu; cases hx; injection hr with hr; subst hr
    exact ⟨_, by simp [Builtin.len_, run_underlying' hu, goInt, Sem.run_bind, go_sem], .int _ _⟩
  · rename_i e hu; cases hx; injection hr with hr; subst hr
    exact ⟨_, by simp [Builtin.len_, run_underlying' hu, goInt, Sem.run_bind, go_sem], .int _ _⟩
  · rename_i e xs hu
    cases hx with
    | rs0 =>
      injection hr with hr; subst hr
      exact ⟨_, by simp [Builtin.len_, run_underlying' hu, goInt, Sem.run_bind, go_sem], .int _ _⟩
    | rs us hn hc ha h0 h1 h2 =>
    subst hn
    injection hr with hr; subst hr
    exact ⟨_, by simp [Builtin.len_, run_underlying' hu, goInt, Sem.run_bind, go_sem], .int _ _⟩
  · rename_i e τ xs hu
    have hx := hx.ofRl
    injection hr with hr; subst hr
    generalize hys : xs.map τ.enc = ys at hx
    have hlen : xs.length = ys.length := by rw [← hys]; simp
    rw [hlen]
    cases hx with
    | rs0 => exact ⟨_, by simp [Builtin.len_, run_underlying' hu, goInt, Sem.run_bind, go_sem], .int _ _⟩
    | rs us hn hc ha h0 h1 h2 =>
    subst hn
    exact ⟨_, by simp [Builtin.len_, run_underlying' hu, goInt, Sem.run_bind, go_sem], .int _ _⟩
  · rename_i e b s off len cap hu
    cases hx with
    | sl0n hc =>
      injection hr with hr; subst hr
      exact ⟨_, by simp [Builtin.len_, run_underlying' hu, goInt, Sem.run_bind, go_sem], .int _ _⟩
    | sl0s hc a =>
      injection hr with hr; subst hr
      exact ⟨_, by simp [Builtin.len_, run_underlying' hu, goInt, Sem.run_bind, go_sem], .int _ _⟩
    | sl hf hs hc hl hm ha =>
    injection hr with hr; subst hr
    exact ⟨_, by simp [Builtin.len_, run_underlying' hu, goInt, Sem.run_bind, go_sem], .int _ _⟩
  · rename_i k e hu; cases hx; injection hr with hr; subst hr
    exact ⟨_, by simp [Builtin.len_, run_underlying' hu, goInt, Sem.run_bind, go_sem], .int _ _⟩
  · rename_i k e b hu
    simp only [Option.bind_eq_bind, Option.bind_eq_some_iff] at hr
    obtain ⟨blk, hb, es, hes, hr⟩ := hr
    cases blk <;> simp [asMp] at hes
    subst hes
    cases hx with
    | mp hf =>
    obtain ⟨ms, clk, hw, hsz, _⟩ := h.entries hf hb
    injection hr with hr; subst hr
    exact ⟨_, by simp [Builtin.len_, run_underlying' hu, run_getObj_map' hw, goInt, hsz, Sem.run_bind, go_sem], .int _ _⟩
  · cases hr

theorem sound_fold {f : AV → AV → Option AV} {g : Value → Value → Sem Value} (hfg : ∀ x y u v r, Rep Z φ x u → Rep Z φ y v → f x y = some r → ∃ q, (g u v).run P w = .ok q w ∧ Rep Z φ r q) :
    ∀ (l : List AV) (us : List Value) (x : AV) (u : Value) (r : AV), Rep Z φ x u → us.length = l.length → (∀ (i : Nat) (v : AV) (q : Value), l[i]? = some v → us[i]? = some q → Rep Z φ v q) → foldO f x l = some r →
      ∃ q, (us.foldlM g u).run P w = .ok q w ∧ Rep Z φ r q
  | [], us, x, u, r, hx, hl, _, hr => by
    cases us with
    | nil => simp only [foldO, Option.some.injEq] at hr; subst hr; exact ⟨u, rfl, hx⟩
    | cons _ _ => simp at hl
  | y :: l, us, x, u, r, hx, hl, hp, hr => by
    cases us with
    | nil => simp at hl
    | cons v us =>
      simp only [foldO, Option.bind_eq_some_iff] at hr
      obtain ⟨z, hz, hr⟩ := hr
      obtain ⟨q, hq, hrq⟩ := hfg x y u v z hx (hp 0 y v rfl rfl) hz
      obtain ⟨q2, hq2, hr2⟩ := sound_fold hfg l us z q r hrq (by simpa using hl) (fun i a b ha hb => hp (i + 1) a b (by simpa using ha) (by simpa using hb)) hr
      exact ⟨q2, run_bind' hq hq2, hr2⟩

theorem sound_min2 {x y r : AV} {u v : Value} (hx : Rep Z φ x u) (hy : Rep Z φ y v) (hr : minI x y = some r) : ∃ q, (Builtin.min2 u v).run P w = .ok q w ∧ Rep Z φ r q := by
  unfold minI at hr
  split at hr
  · cases hx; cases hy; injection hr with hr; subst hr; exact ⟨_, rfl, .int _ _⟩
  · cases hr
theorem sound_max2 {x y r : AV} {u v : Value} (hx : Rep Z φ x u) (hy : Rep Z φ y v) (hr : maxI x y = some r) : ∃ q, (Builtin.max2 u v).run P w = .ok q w ∧ Rep Z φ r q := by
  unfold maxI at hr
  split at hr
  · cases hx; cases hy; injection hr with hr; subst hr; exact ⟨_, rfl, .int _ _⟩
  · cases hr

end
end Go.Lom
