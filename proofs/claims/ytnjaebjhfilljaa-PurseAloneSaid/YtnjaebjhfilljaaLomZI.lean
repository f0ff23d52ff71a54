/- From what a row is given to contents, and back: plain lemmas. No conditions of its own. -/
import Derived.Test.YtnjaebjhfilljaaLomZH
import Derived.ChangeArms
import Derived.Carry
set_option linter.unusedSimpArgs false
set_option linter.unusedVariables false
set_option linter.constructorNameAsVariable false
namespace Go.Lom
open Go.RowKit Go.WideShapes Go.ChangeShapes

/-- Numbers in the range of their kinds, texts and lists of a length that there may be. -/
def Ty.rng : (t : Ty) → t.den → Prop
  | .i k, n => inR k n = true
  | .b, _ => True
  | .s, x => x.length ≤ maxLen
  | .sl t, xs => xs.length ≤ maxLen ∧ ∀ x ∈ xs, t.rng x
  | .pr x y, p => x.rng p.1 ∧ y.rng p.2

def fitFs (P : Program) (r : Ty → TypeId → Bool) : Ty → List Field → Nat → Bool
  | τ, [f], o => f.offset == o && P.cellsOf f.type == τ.sz && r τ f.type
  | .pr x y, f :: g :: fs, o => f.offset == o && P.cellsOf f.type == x.sz && r x f.type && fitFs P r y (g :: fs) (o + x.sz)
  | _, _, _ => false
/-- Is a Go type one of these contents? -/
def fitTy (P : Program) : Nat → Ty → TypeId → Bool
  | 0, _, _ => false
  | d + 1, τ, t => match P.underlying t with
    | some (.int k) => (match τ with | .i k' => decide (k = k') | _ => false)
    | some .bool => (match τ with | .b => true | _ => false)
    | some .string => (match τ with | .s => true | _ => false)
    | some (.slice e) => (match τ with | .sl τ' => P.cellsOf e == τ'.sz && Nat.blt 0 τ'.sz && fitTy P d τ' e | _ => false)
    | some (.struct fs) => P.cellsOf t == τ.sz && fitFs P (fitTy P d) τ fs.toList 0
    | _ => false

section
variable {H : Type} {enc : TypeId × Value → H} {P : Program} {W : World}

/-- Cells that hold a content. -/
def CellsR (W : World) (cs : List Value) (τ : Ty) (y : τ.den) : Prop :=
  cs.length = τ.sz ∧ ∀ (j : Nat) (v : AV) (u : Value), (τ.enc y)[j]? = some v → cs[j]? = some u → Rep (zAll W) noMap v u

theorem cells_get {w : World} {a : Addr} {n : Nat} {cs : List Value} (h : w.cells? 0 a n = some cs) : cs.length = n ∧ ∀ (i : Nat) (u : Value), cs[i]? = some u → w.cell? (a.add i) = some u := by
  unfold World.cells? at h
  rw [if_pos (Nat.zero_le _)] at h
  refine ⟨by have := mapM_some_length h; simpa using this, fun i u hu => ?_⟩
  have hlt : i < cs.length := (List.getElem?_eq_some_iff.1 hu).1
  have hl : cs.length = n := by have := mapM_some_length h; simpa using this
  have := mapM_some_get h i i (by rw [List.getElem?_range (by omega)])
  rw [this, hu]

theorem fits_fields {r : Ty → TypeId → Bool} {n : Nat} (hr : ∀ (τ : Ty) (t : TypeId) (cs : List Value) (x : DataW H × List MemPlace), r τ t = true → DataW.trod enc P W 0 (fun _ => true) true n t cs = some x → ∃ y : τ.den, CellsR W cs τ y ∧ τ.rng y) {cs : List Value} :
    ∀ (fs : List Field) (τ : Ty) (o : Nat), fitFs P r τ fs o = true → o + τ.sz ≤ cs.length → (∀ f ∈ fs, ∃ x, DataW.trod enc P W 0 (fun _ => true) true n f.type ((cs.drop f.offset).take (P.cellsOf f.type)) = some x) →
    ∃ y : τ.den, CellsR W ((cs.drop o).take τ.sz) τ y ∧ τ.rng y
  | [], τ, o, h, _, _ => by unfold fitFs at h; cases τ <;> cases h
  | [f], τ, o, h, hle, hx => by
    have h : (f.offset == o && P.cellsOf f.type == τ.sz && r τ f.type) = true := by unfold fitFs at h; cases τ <;> exact h
    simp only [Bool.and_eq_true, beq_iff_eq] at h
    obtain ⟨⟨h1, h2⟩, h3⟩ := h
    obtain ⟨x, hx⟩ := hx f (List.mem_singleton.2 rfl)
    rw [h1, h2] at hx
    exact hr τ f.type _ x h3 hx
  | f :: g :: fs, τ, o, h, hle, hx => by
    cases τ with
    | pr a b =>
      have h : (f.offset == o && P.cellsOf f.type == a.sz && r a f.type && fitFs P r b (g :: fs) (o + a.sz)) = true := by unfold fitFs at h; exact h
      simp only [Bool.and_eq_true, beq_iff_eq] at h
      obtain ⟨⟨⟨h1, h2⟩, h3⟩, h4⟩ := h
      simp only [Ty.sz] at hle
      obtain ⟨x, hxf⟩ := hx f (List.mem_cons_self ..)
      rw [h1, h2] at hxf
      obtain ⟨y1, c1, r1⟩ := hr a f.type _ x h3 hxf
      obtain ⟨y2, c2, r2⟩ := fits_fields hr (g :: fs) b (o + a.sz) h4 (by omega) fun k hk => hx k (List.mem_cons_of_mem _ hk)
      refine ⟨(y1, y2), ⟨by simp [Ty.sz]; omega, fun j v u hv hu => ?_⟩, r1, r2⟩
      have hu' : cs[o + j]? = some u ∧ j < a.sz + b.sz := by
        simp only [Ty.sz] at hu
        rw [List.getElem?_take] at hu
        split at hu
        · rename_i hj; rw [List.getElem?_drop] at hu; exact ⟨hu, hj⟩
        · cases hu
      simp only [Ty.enc] at hv
      by_cases hj : j < (a.enc y1).length
      · rw [List.getElem?_append_left hj] at hv
        rw [Ty.enc_length] at hj
        exact c1.2 j v u hv (by rw [List.getElem?_take, if_pos hj, List.getElem?_drop]; exact hu'.1)
      · rw [List.getElem?_append_right (by omega), Ty.enc_length] at hv
        rw [Ty.enc_length] at hj
        refine c2.2 (j - a.sz) v u hv ?_
        rw [List.getElem?_take, if_pos (by omega), List.getElem?_drop, ← hu'.1]
        congr 1; omega
    | _ => unfold fitFs at h; cases h

theorem choose_list {α : Type} {n : Nat} {p : Nat → α → Prop} (h : ∀ i, i < n → ∃ y, p i y) : ∃ ys : List α, ys.length = n ∧ ∀ (i : Nat) (y : α), ys[i]? = some y → p i y := by
  induction n with
  | zero => exact ⟨[], rfl, fun i y hi => by simp at hi⟩
  | succ n ih =>
    obtain ⟨ys, h1, h2⟩ := ih fun i hi => h i (by omega)
    obtain ⟨y, hy⟩ := h n (by omega)
    refine ⟨ys ++ [y], by simp [h1], fun i z hz => ?_⟩
    by_cases hi : i < ys.length
    · rw [List.getElem?_append_left hi] at hz; exact h2 i z hz
    · rw [List.getElem?_append_right (by omega)] at hz
      have : i - ys.length = 0 := by
        by_cases h0 : i - ys.length = 0
        · exact h0
        · rw [List.getElem?_eq_none (by simp; omega)] at hz; cases hz
      rw [this] at hz
      injection hz with hz; subst hz
      have : i = n := by omega
      rw [this]; exact hy

theorem trod_cells : ∀ (d n : Nat) (τ : Ty) (t : TypeId) (cs : List Value) (x : DataW H × List MemPlace), fitTy P d τ t = true → DataW.trod enc P W 0 (fun _ => true) true n t cs = some x → ∃ y : τ.den, CellsR W cs τ y ∧ τ.rng y
  | 0, n, τ, t, cs, x, h, _ => by simp [fitTy] at h
  | d + 1, n, τ, t, cs, x, h, hx => by
    unfold fitTy at h
    split at h
    · rename_i k hu
      split at h
      · rename_i k'
        have hk := of_decide_eq_true h
        subst hk
        obtain ⟨m, rfl, rfl, hw⟩ := DataW.trod_int hu hx
        refine ⟨m, ⟨rfl, fun j v u hv hu => ?_⟩, ?_⟩
        · cases j <;> simp [Ty.enc] at hv hu
          subst hv hu; exact .int _ _
        · show inR k m = true
          simp only [Lit.wf, Bool.and_eq_true, decide_eq_true_eq] at hw
          rw [inR_iff]
          cases k <;> simp [IntKind.min, IntKind.max, IntKind.signed, IntKind.bits, loK, hiK] at hw ⊢ <;> omega
      · cases h
    · rename_i hu
      split at h
      · obtain ⟨b, rfl, rfl⟩ := DataW.trod_bool hu hx
        refine ⟨b, ⟨rfl, fun j v u hv hu => ?_⟩, trivial⟩
        cases j <;> simp [Ty.enc] at hv hu
        subst hv hu; exact .bool _
      · cases h
    · rename_i hu
      split at h
      · obtain ⟨s, rfl, hs⟩ := DataW.trod_string hu hx
        refine ⟨s.data.toList, ⟨rfl, fun j v u hv hu => ?_⟩, ?_⟩
        · cases j <;> simp [Ty.enc] at hv hu
          subst hv hu
          exact .str _
        · show s.data.toList.length ≤ maxLen
          rw [Array.length_toList]; exact hs.2
      · cases h
    · rename_i e hu
      split at h
      · rename_i τ'
        simp only [Bool.and_eq_true, beq_iff_eq] at h
        obtain ⟨⟨h1, h2⟩, h3⟩ := h
        have h2 : 0 < τ'.sz := Nat.le_of_ble_eq_true h2
        rcases DataW.trod_slice hu hx with ⟨rfl, _⟩ | ⟨a, len, cap, elems, rest, m, rfl, rfl, _, _, hlc, hcm, hel, hget, _, _⟩
        · refine ⟨[], ⟨rfl, fun j v u hv hu => ?_⟩, Nat.zero_le _, fun x hx => by simp at hx⟩
          cases j <;> simp [Ty.enc] at hv hu
          subst hv hu; exact Rep.toRl .rs0
        · rw [h1] at hget
          have each : ∀ i, i < len → ∃ y : τ'.den, (∃ ci, W.cells? 0 (a.add (i * τ'.sz)) τ'.sz = some ci ∧ CellsR W ci τ' y) ∧ τ'.rng y := by
            intro i hi
            have hg := hget i hi
            rw [List.getElem?_eq_getElem (show i < elems.length by omega)] at hg
            obtain ⟨ci, hci, htr⟩ := Option.bind_eq_some_iff.1 hg
            obtain ⟨y, hy, hyr⟩ := trod_cells d m τ' e ci _ h3 htr
            exact ⟨y, ⟨ci, hci, hy⟩, hyr⟩
          obtain ⟨ys, hyl, hys⟩ := choose_list each
          refine ⟨ys, ⟨rfl, fun j v u hv hu => ?_⟩, by rw [hyl]; omega, fun x hx => ?_⟩
          · cases j <;> simp [Ty.enc] at hv hu
            subst hv hu
            apply Rep.toRl
            by_cases hl0 : len = 0
            · subst hl0
              have : ys = [] := List.eq_nil_of_length_eq_zero hyl
              subst this
              exact rep_rs_nil a cap
            · have cell : ∀ (i : Nat) (ei : List AV) (j : Nat) (v : AV), (ys.map τ'.enc)[i]? = some ei → ei[j]? = some v → ∃ u, W.cell? (a.add (i * τ'.sz) |>.add j) = some u ∧ Rep (zAll W) noMap v u := by
                intro i ei j v hi hj
                rw [List.getElem?_map] at hi
                cases hy : ys[i]? with
                | none => rw [hy] at hi; cases hi
                | some y =>
                  rw [hy] at hi
                  simp only [Option.map_some, Option.some.injEq] at hi
                  subst hi
                  obtain ⟨⟨ci, hci, hcr⟩, _⟩ := hys i y hy
                  obtain ⟨g1, g2⟩ := cells_get hci
                  have hjl : j < ci.length := by rw [hcr.1, ← τ'.enc_length y]; exact (List.getElem?_eq_some_iff.1 hj).1
                  exact ⟨_, g2 j _ (List.getElem?_eq_getElem hjl), hcr.2 j v _ hj (List.getElem?_eq_getElem hjl)⟩
              have hspot : a.spot = none := by
                have h0 : (ys.map τ'.enc)[0]? = some (τ'.enc ys[0]) := by rw [List.getElem?_map, List.getElem?_eq_getElem (by omega)]; rfl
                have hj0 : 0 < (τ'.enc ys[0]).length := by rw [τ'.enc_length]; exact h2
                obtain ⟨u, hu, _⟩ := cell 0 _ 0 _ h0 (List.getElem?_eq_getElem hj0)
                simp only [Nat.zero_mul, Addr.add, if_pos] at hu
                cases hsp : a.spot with
                | none => rfl
                | some q =>
                  unfold World.cell? at hu
                  split at hu
                  · rw [hsp] at hu; simp at hu
                  · cases hu
              have ha : a = ⟨a.block, a.off, none⟩ := by cases a; simp only at hspot; subst hspot; rfl
              refine .rs (B := a.block) (off := a.off) (s := τ'.sz) (fun i j => (W.cell? ⟨a.block, a.off + i * τ'.sz + j, none⟩).getD Go.undef) (by simp [hyl]) hlc (.inl ha) (fun i ei hi => ?_) (fun i ei j v hi hj => ?_) fun i ei j v hi hj => ?_
              · rw [List.getElem?_map] at hi
                cases hy : ys[i]? with
                | none => rw [hy] at hi; cases hi
                | some y => rw [hy] at hi; injection hi with hi; subst hi; exact ⟨τ'.enc_length y, τ'.enc_oneC y⟩
              all_goals
                obtain ⟨u, hu, hr⟩ := cell i ei j v hi hj
                rw [ha, add_none, add_none] at hu
              · rw [hu]
                unfold World.cell? at hu
                unfold zcell zAll
                simp only at hu
                split at hu
                · rename_i c T fz hc
                  rw [hc]
                  simpa using hu
                · cases hu
              · rw [hu]; exact hr
          · obtain ⟨i, hi, hxi⟩ := List.mem_iff_getElem.1 hx
            exact (hys i x (by rw [List.getElem?_eq_getElem hi, hxi])).2
      · cases h
    · rename_i fs hu
      simp only [Bool.and_eq_true, beq_iff_eq] at h
      obtain ⟨xs, m, rfl, _, hl, hxl, hf⟩ := DataW.trod_struct hu hx
      have := fits_fields (cs := cs) (fun τ t cs x => trod_cells d m τ t cs x) fs.toList τ 0 h.2 (by omega) fun f hf' => by
        obtain ⟨i, hi, hfi⟩ := List.mem_iff_getElem.1 hf'
        have hi' : i < xs.length := by simp at hi; omega
        refine ⟨xs[i], ?_⟩
        rw [hf i f (by simp at hi; rw [Array.getElem?_eq_getElem hi, ← hfi]; simp), List.getElem?_eq_getElem hi']
      rw [List.drop_zero, List.take_of_length_le (by omega)] at this
      exact this
    · cases h

/-! ### Arguments of a row -/
def rngs : (ts : List Ty) → dens ts → Prop
  | [], _ => True
  | t :: ts, x => t.rng x.1 ∧ rngs ts x.2
def fitTop (P : Program) (d : Nat) (τ : Ty) (t : TypeId) : Bool :=
  fitTy P d τ t && (match τ with
    | .pr _ _ => true
    | _ => match P.underlying t with
      | some (.struct _) => false
      | some (.array _ _) => false
      | _ => true)
def fitAll (P : Program) (d : Nat) : List Ty → List TypeId → Bool
  | [], [] => true
  | τ :: τs, t :: ts => fitTop P d τ t && fitAll P d τs ts
  | _, _ => false

theorem trod_val {d : Nat} {τ : Ty} {t : TypeId} {v : Value} {x : DataW H} {ps : List MemPlace} (h : fitTop P d τ t = true) (hT : DataW.Trod enc P W 0 (fun _ => true) true t v x ps) (hok : Value.okWide P W .any 0 t v) :
    ∃ y : τ.den, Rep (zAll W) noMap (τ.val y) v ∧ τ.rng y := by
  unfold fitTop at h
  rw [Bool.and_eq_true] at h
  obtain ⟨n, hn⟩ := hT
  obtain ⟨y, ⟨hl, hc⟩, hr⟩ := trod_cells d n τ t _ _ h.1 hn
  refine ⟨y, ?_, hr⟩
  have hnot : (match P.underlying t with
      | some (.struct _) => false
      | some (.array _ _) => false
      | _ => true) = true → ∀ cs, v ≠ .agg cs := by
    intro hu cs hv
    subst hv
    unfold Value.okWide at hok
    split at hok
    · rename_i hs; rw [hs] at hu; cases hu
    · rename_i hs; rw [hs] at hu; cases hu
    · unfold Cell.okWide at hok
      split at hok <;> try (rename_i e; cases e; done)
      unfold Cell.ok at hok
      split at hok <;> first | (rename_i e; cases e; done) | exact hok
  have single : (∀ cs, v ≠ .agg cs) → v.cells = #[v] := fun hne => by
    cases v <;> first | rfl | exact absurd rfl (hne _)
  have one : ∀ (a : AV), τ.enc y = [a] → (∀ cs, v ≠ .agg cs) → Rep (zAll W) noMap a v := fun a ha hne => hc 0 a v (by rw [ha]; rfl) (by rw [single hne]; rfl)
  cases τ with
  | i k => exact one _ rfl (hnot h.2)
  | b => exact one _ rfl (hnot h.2)
  | s => exact one _ rfl (hnot h.2)
  | sl t' => exact one _ rfl (hnot h.2)
  | pr a b =>
    have hs : ∃ fs, P.underlying t = some (.struct fs) := by
      cases d with
      | zero => simp [fitTy] at h
      | succ d =>
        have h1 := h.1
        unfold fitTy at h1
        split at h1
        · cases h1
        · cases h1
        · cases h1
        · cases h1
        · rename_i fs hu; exact ⟨fs, hu⟩
        · cases h1
    obtain ⟨fs, hu⟩ := hs
    unfold Value.okWide at hok
    rw [hu] at hok
    obtain ⟨cs, rfl, _, _⟩ := hok
    have hl : cs.toList.length = (Ty.pr a b).sz := hl
    refine .agg (by rw [Ty.enc_length, ← hl, Array.length_toList]) fun i w u hw hu => hc i w u hw (by rw [← hu]; exact Array.getElem?_toList)

theorem args_contents {d : Nat} : ∀ {τs : List Ty} {ts : List TypeId} {vs : List Value} {ds : List (DataW H)} {ps : List MemPlace}, fitAll P d τs ts = true → DataW.TrodAll enc P W 0 (fun _ => true) true ts vs ds ps →
    (∀ (j : Nat) t v, ts[j]? = some t → vs[j]? = some v → Value.okWide P W .any 0 t v) → ∃ y : dens τs, Reps (zAll W) noMap (vals τs y) vs.toArray ∧ rngs τs y
  | [], [], [], _, _, h, _, _ => ⟨(), ⟨rfl, fun i v u hv => by simp [vals] at hv⟩, trivial⟩
  | [], [], _ :: _, _, _, _, hT, _ => by simp [DataW.TrodAll] at hT
  | τ :: τs, t :: ts, [], _, _, _, hT, _ => by simp [DataW.TrodAll] at hT
  | τ :: τs, t :: ts, v :: vs, [], _, _, hT, _ => by simp [DataW.TrodAll] at hT
  | τ :: τs, t :: ts, v :: vs, x :: ds, ps, h, hT, hok => by
    simp only [fitAll, Bool.and_eq_true] at h
    obtain ⟨p, q, h1, h2, _⟩ := hT
    obtain ⟨y, hy, hry⟩ := trod_val h.1 h1 (hok 0 t v rfl rfl)
    obtain ⟨z, hz, hrz⟩ := args_contents (d := d) h.2 h2 fun j t' v' ht hv => hok (j + 1) t' v' (by simpa using ht) (by simpa using hv)
    refine ⟨(y, z), ?_, hry, hrz⟩
    have := reps_cons_mk hy hz
    rw [show (#[v] ++ vs.toArray : Array Value) = (v :: vs).toArray from by simp] at this
    exact this
  | [], t :: ts, _, _, _, h, _, _ => by simp [fitAll] at h
  | τ :: τs, [], _, _, _, h, _, _ => by simp [fitAll] at h

/-- The arguments, read again behind the call. -/
theorem trodAll_stays (hl : laidOutB P = true) {W' : World} (hb : Below W.heap.size W W') : ∀ {ts : List TypeId} {vs : List Value} {ds : List (DataW H)} {ps : List MemPlace}, (ts.all fun t => P.readableRec t && decide (t < P.types.size)) = true →
    DataW.TrodAll enc P W 0 (fun _ => true) true ts vs ds ps → (∀ x ∈ ps, x.block < W.heap.size) → ∀ sp : Nat → Bool, (∀ x ∈ ps, sp x.block = true) → DataW.TrodAll enc P W' 0 sp true ts vs ds ps
  | [], [], [], ps, _, hT, _, _, _ => hT
  | [], _ :: _, _, _, _, hT, _, _, _ => by simp [DataW.TrodAll] at hT
  | [], [], _ :: _, _, _, hT, _, _, _ => by simp [DataW.TrodAll] at hT
  | _ :: _, [], _, _, _, hT, _, _, _ => by simp [DataW.TrodAll] at hT
  | _ :: _, _ :: _, [], _, _, hT, _, _, _ => by simp [DataW.TrodAll] at hT
  | t :: ts, v :: vs, x :: ds, ps, hr, hT, hlt, sp, hsp => by
    simp only [List.all_cons, Bool.and_eq_true, decide_eq_true_eq] at hr
    obtain ⟨p, q, h1, h2, rfl⟩ := hT
    exact ⟨p, q, WideElems.Trod_stays hl hr.1.1 hr.1.2 h1 (fun x hx => hb.same (hlt x (List.mem_append_left _ hx))) fun x hx => hsp x (List.mem_append_left _ hx),
      trodAll_stays hl hb (by simpa using hr.2) h2 (fun x hx => hlt x (List.mem_append_right _ hx)) sp fun x hx => hsp x (List.mem_append_right _ hx), rfl⟩
end

/-- A law of contents: what its function's contract says of a row. -/
theorem law_of {P : Program} {k : FuncId} {τs : List Ty} {spec : Spec (τs.map .v) [.b]} (h : PCok P k (τs.map .v) [.b] spec) (hs : ∀ y : dens τs, rngs τs y → ∃ x : densA (τs.map .v), valsA (τs.map .v) x = vals τs y ∧ spec x fun r => r = (true, ())) {w : World} {us : Array Value} {y : dens τs}
    (hr : Reps (zAll w) noMap (vals τs y) us) (hy : rngs τs y) : Calls P k us w fun e w' => e = .returned (.bool true) ∧ Below w.heap.size w w' := by
  obtain ⟨x, hx, hsx⟩ := hs y hy
  have := h x _ hsx
  rw [hx] at this
  refine calls_true (this.mono fun e G m he => ?_) hr
  obtain ⟨_, _, r, rfl, rfl⟩ := he
  rfl
end Go.Lom
