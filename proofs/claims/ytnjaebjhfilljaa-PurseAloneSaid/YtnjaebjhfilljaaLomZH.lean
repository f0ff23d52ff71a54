/- Loops and functions by their contracts: the tables, and what is to be shown. No conditions of its own. -/
import Derived.Test.YtnjaebjhfilljaaLomZG
set_option linter.unusedSimpArgs false
set_option linter.unusedVariables false
set_option linter.constructorNameAsVariable false
namespace Go.Lom
open Go.RowKit

section
variable {base : Nat → Prop} {w0 : Start} {Z Z' : ZMap} {φ φ' : PMap} {H : Heap} {nx : Nat} {w w' : World}

theorem getAll_ok {σ : St} {Hf : Heap} {tmps : Array Value} {φ0 : PMap} (hh : HRel base w0 Z φ0 σ.H σ.nx w) (hfr : FrRel Z φ0 σ.fr tmps) (hsub : Sub Hf σ.H) (hfz : Froze φ0 Hf w Z Z') : ∀ (s : Shape) (x : shDen s) (ps : List Bool) (φ : PMap) (used : List Nat) (F : Fr) (H : Heap) (n : Nat),
    Half base w0 Z' φ0 σ.H tmps w φ used F H n → getAll σ Hf s = some (x, ps) → (∀ p ∈ ps, p = true) → (used ++ ownN σ s).Nodup → (∀ b ∈ ownN σ s, ∀ y l, σ.H.get b = some y → φ0 b = some l → Z' l.B = none) →
    ∃ φ', Half base w0 Z' φ0 σ.H tmps w φ' (used ++ ownN σ s) (putAll s x (F, H, n)).1 (putAll s x (F, H, n)).2.1 (putAll s x (F, H, n)).2.2
  | [], x, ps, φ, used, F, H, n, hf, _, _, _, _ => ⟨φ, by simpa [ownN, putAll] using hf⟩
  | p :: s, x, ps, φ, used, F, H, n, hf, hg, hp, hnd, hzn => by
    have hg : pairD (get1 σ Hf p.1 p.2) (getAll σ Hf s) = some (x, ps) := hg
    unfold pairD at hg
    split at hg
    · rename_i y q hy
      split at hg
      · rename_i z r hz
        simp only [Option.some.injEq, Prod.mk.injEq] at hg
        obtain ⟨rfl, rfl⟩ := hg
        simp only [ownN] at hnd hzn ⊢
        rw [← List.append_assoc] at hnd ⊢
        obtain ⟨φ1, _, h1⟩ := step1 hh hfr hsub hfz hf hy (fun p hp' => hp p (List.mem_append_left _ hp')) (List.nodup_append.1 hnd).1 fun b hb => hzn b (List.mem_append_left _ hb)
        exact getAll_ok hh hfr hsub hfz s z r φ1 _ _ _ _ h1 hz (fun p hp' => hp p (List.mem_append_right _ hp')) hnd fun b hb => hzn b (List.mem_append_right _ hb)
      · cases hg
    · cases hg
end

theorem exSt_ok {s : Shape} {σ : St} {x : shDen s} {ps : List Bool} (h : exSt s σ = some (x, ps)) (hp : ∀ p ∈ ps, p = true) : Ent σ (shSt s x) := by
  intro P base w0 Z φ N a w hs
  unfold exSt at h
  split at h
  rotate_left
  · cases h
  rename_i hdf
  split at h
  rotate_left
  · cases h
  rename_i hnd
  have hsub : Sub (dropN (ownN σ s) σ.H) σ.H := fun b y hy => by
    rw [get_dropN] at hy
    split at hy
    · cases hy
    · exact hy
  have hHf := hs.heap.sub hsub
  have hstart : Half base w0 (frz Z φ (dropN (ownN σ s) σ.H) w) φ σ.H a.tmps w (fun _ => none) [] [] [] 0 :=
    ⟨hHf.frozen (fun b x h => (nomatch h)), (fun i y l h => by simp [Heap.get] at h), fun t => Rep.undef _⟩
  obtain ⟨φ', hf⟩ := getAll_ok hs.heap hs.fr hsub (frz_froze hHf) s x ps _ [] [] [] 0 hstart h hp (by simpa using noDup_nodup hnd) fun b hb y l hy hl => by
    have hz := (hs.heap.ownAt hy hl).1
    rcases frz_cases (Z := Z) (φ := φ) (H := dropN (ownN σ s) σ.H) (w := w) l.B with g1 | ⟨_, ⟨b2, y2, l2, hb2, hl2, he⟩, _⟩
    · rw [g1]; exact hz
    · rw [get_dropN] at hb2
      split at hb2
      · cases hb2
      · rename_i hc
        have hne : b2 ≠ b := fun e => hc (by rw [e]; simpa using hb)
        exact absurd he (hs.heap.inj b2 b y2 y l2 l hne hb2 hy hl2 hl)
  refine ⟨_, φ', (frz_froze hHf).1, hf.fr, hs.size, ?_, hf.heap⟩
  have := hs.df.1
  rw [hdf] at this
  have hnil := List.eq_nil_of_length_eq_zero (by simpa using this)
  rw [hnil]
  exact ⟨rfl, fun i x d h => by simp [shSt] at h⟩

theorem Ent.refl (σ : St) : Ent σ σ := fun P base w0 Z φ N a w hs => ⟨Z, φ, ZLe.refl _, hs⟩

section
variable {P : Program} {N : Nat}
theorem swp_ent {c : Code} {Q : AX → St → Prop} {σ σ' : St} (h : Ent σ σ') (hq : SWp P N 0 c Q σ') : SWp P N 0 c Q σ := by
  intro base w0 Z φ a w hs
  obtain ⟨Z', φ', hZ, hs'⟩ := h P base w0 Z φ N a w hs
  exact wp_mono (hq base w0 Z' φ' a w hs') fun e a w hl => hl.mono hZ (fun b x hb => by omega) fun _ _ h => h

def AX.calm : AX → Bool
  | .panic _ => false
  | _ => true
theorem swp_exits {c : Code} {Q Q' : AX → St → Prop} {σ : St} (h : SWp P N 0 c Q' σ) (hq : ∀ e τ, Q' e τ → e.calm = true ∧ ∃ τ', Ent τ τ' ∧ Q e τ') : SWp P N 0 c Q σ := by
  intro base w0 Z φ a w hs
  refine wp_mono (h base w0 Z φ a w hs) fun e a w hl => ?_
  obtain ⟨Z1, φ1, x, τ, h1, h2, h3, h4, h5⟩ := hl
  obtain ⟨hc, τ', hE, hQ⟩ := hq x τ h5
  obtain ⟨Z2, φ2, hZ, hs'⟩ := hE P base w0 Z1 φ1 N a w h4
  refine ⟨Z2, φ2, x, τ', h1.trans hZ, fun b x hb => by omega, ?_, hs', hQ⟩
  cases x with
  | panic v => cases hc
  | normal => cases e <;> exact h3
  | exit i => cases e <;> exact h3
  | ret => cases e <;> exact h3
end

/-- What is asked of the contents of a state of a shape. -/
def backK (s : Shape) (K : shDen s → Prop) : St → Prop := fun σ =>
  match exSt s σ with
  | some (x, ps) => allP ps (K x)
  | none => False
theorem backK_ok {s : Shape} {K : shDen s → Prop} {σ : St} (h : backK s K σ) : ∃ x, Ent σ (shSt s x) ∧ K x := by
  unfold backK at h
  split at h
  · rename_i x ps he
    rw [allP_iff] at h
    exact ⟨x, exSt_ok he h.1, h.2⟩
  · exact h.elim
def exitK (ex : AX → Option Shape) (Q : AX → St → Prop) : AX → St → Prop := fun e σ =>
  match e.calm with
  | true => match ex e with
    | some s => backK s (fun x => Q e (shSt s x)) σ
    | none => False
  | false => False
theorem exitK_ok {ex : AX → Option Shape} {Q : AX → St → Prop} {e : AX} {σ : St} (h : exitK ex Q e σ) : e.calm = true ∧ ∃ τ, Ent σ τ ∧ Q e τ := by
  unfold exitK at h
  split at h
  · rename_i hc
    split at h
    · rename_i s hs
      obtain ⟨x, h1, h2⟩ := backK_ok h
      exact ⟨hc, _, h1, h2⟩
    · exact h.elim
  · exact h.elim

/-- The contract of a loop. -/
structure LC where
  sh : Shape
  spec : shDen sh → (AX → St → Prop) → Prop
/-- The contract of a function. -/
structure FC where
  as : List AT
  rs : List Ty
  spec : Spec as rs

def LpOk (P : Program) (k : FuncId) (j : Nat) (c : LC) : Prop := ∀ fn fb code, P.funcs[k]? = some fn → fn.body = some fb → (loopsOf fb)[j]? = some code → ∀ x Q, c.spec x Q → SWp P fn.ntmps 0 (.loop code) Q (shSt c.sh x)
def FnOk (P : Program) (k : FuncId) (c : FC) : Prop := PCok P k c.as c.rs c.spec

/-- Is there a contract? -/
def hasF : List (Nat × FC) → Nat → Bool
  | [], _ => false
  | (k, _) :: l, i => match Nat.beq i k with
    | true => true
    | false => hasF l i
/-- The first contract of a function whose arguments these are. -/
def tryF : List (Nat × FC) → Nat → List AV → Heap → Nat → (AE → Heap → Nat → Prop) → Prop
  | [], _, _, _, _, _ => False
  | (k, c) :: l, i, avs, H, nx, R => match Nat.beq i k with
    | true => pcD c.as c.rs c.spec avs H nx R (tryF l i avs H nx R)
    | false => tryF l i avs H nx R
/-- The first contract of a loop whose shape the state has. -/
def tryL : List (Nat × Nat × LC) → Nat → Nat → St → (AX → St → Prop) → Prop
  | [], _, _, _, _ => False
  | (k, j, c) :: l, i, n, σ, K => match Nat.beq i k && Nat.beq n j with
    | true => match exSt c.sh σ with
      | some (x, ps) => allP ps (c.spec x K)
      | none => tryL l i n σ K
    | false => tryL l i n σ K
def mkTab (fs : List (Nat × FC)) (ls : List (Nat × Nat × LC)) : Tab where
  fn k := match hasF fs k with
    | true => some (tryF fs k)
    | false => none
  lp k n0 j σ K := match n0 with
    | 0 => tryL ls k j σ K
    | _ + 1 => False

structure Good (P : Program) (fs : List (Nat × FC)) (ls : List (Nat × Nat × LC)) : Prop where
  fn : ∀ k avs H nx R, tryF fs k avs H nx R → SCall P k avs H nx R
  lp : ∀ k j σ K, tryL ls k j σ K → ∃ c, LpOk P k j c ∧ backK c.sh (fun x => c.spec x K) σ

theorem good_nil (P : Program) : Good P [] [] := ⟨fun k avs H nx R h => h.elim, fun k j σ K h => h.elim⟩
theorem Good.addF {P : Program} {fs : List (Nat × FC)} {ls : List (Nat × Nat × LC)} (h : Good P fs ls) {k : Nat} {c : FC} (hc : FnOk P k c) : Good P ((k, c) :: fs) ls := by
  refine ⟨fun i avs H nx R hd => ?_, h.lp⟩
  unfold tryF at hd
  split at hd
  · rename_i e
    rw [Nat.eq_of_beq_eq_true e] at hd ⊢
    exact pcD_ok hc hd fun ho => h.fn k avs H nx R ho
  · exact h.fn i avs H nx R hd
theorem Good.addL {P : Program} {fs : List (Nat × FC)} {ls : List (Nat × Nat × LC)} (h : Good P fs ls) {k j : Nat} {c : LC} (hc : LpOk P k j c) : Good P fs ((k, j, c) :: ls) := by
  refine ⟨h.fn, fun i n σ K hd => ?_⟩
  unfold tryL at hd
  split at hd
  · rename_i e
    rw [Bool.and_eq_true] at e
    split at hd
    · rename_i x ps he
      refine ⟨c, ?_, ?_⟩
      · rw [Nat.eq_of_beq_eq_true e.1, Nat.eq_of_beq_eq_true e.2]; exact hc
      · unfold backK; rw [he]; exact hd
    · exact h.lp i n σ K hd
  · exact h.lp i n σ K hd

theorem Good.tab {P : Program} {fs : List (Nat × FC)} {ls : List (Nat × Nat × LC)} (h : Good P fs ls) : TabOk P (mkTab fs ls) := by
  refine ⟨fun k c hc avs H nx R hx => ?_, fun k fn fb hf hb n0 i code hcode σ Q hq => ?_⟩
  · simp only [mkTab] at hc
    split at hc
    · injection hc with hc; subst hc
      exact h.fn k avs H nx R hx
    · cases hc
  · rw [Nat.zero_add] at hq
    simp only [mkTab] at hq
    split at hq
    · obtain ⟨c, hc, hk⟩ := h.lp k i σ Q hq
      obtain ⟨x, h1, h2⟩ := backK_ok hk
      exact swp_ent h1 (hc fn fb code hf hb hcode x Q h2)
    · exact hq.elim

/-- Loops within a loop. -/
theorem loops_in : ∀ (c : Code) (j : Nat) (b : Code), (loopsOf c)[j]? = some b → ∀ i d, (loopsOf b)[i]? = some d → (loopsOf c)[j + 1 + i]? = some d := by
  have app : ∀ (x y : List Code), (∀ j b, x[j]? = some b → ∀ i d, (loopsOf b)[i]? = some d → x[j + 1 + i]? = some d) → (∀ j b, y[j]? = some b → ∀ i d, (loopsOf b)[i]? = some d → y[j + 1 + i]? = some d) →
      ∀ j b, (x ++ y)[j]? = some b → ∀ i d, (loopsOf b)[i]? = some d → (x ++ y)[j + 1 + i]? = some d := by
    intro x y hx hy j b hj i d hi
    by_cases hlt : j < x.length
    · rw [List.getElem?_append_left hlt] at hj
      have := hx j b hj i d hi
      rw [List.getElem?_append_left (List.getElem?_eq_some_iff.1 this).1]; exact this
    · rw [List.getElem?_append_right (by omega)] at hj
      have := hy _ b hj i d hi
      rw [List.getElem?_append_right (by omega), ← this]
      congr 1; omega
  intro c
  induction c with
  | seq a b iha ihb => exact app _ _ iha ihb
  | cond _ a b iha ihb => exact app _ _ iha ihb
  | block _ c ih => exact ih
  | scope c ih => exact ih
  | loop c ih =>
    intro j b hj i d hi
    cases j with
    | zero =>
      simp only [loopsOf, List.getElem?_cons_zero, Option.some.injEq] at hj
      subst hj
      simp only [loopsOf]
      rw [show 0 + 1 + i = i + 1 from by omega, List.getElem?_cons_succ]; exact hi
    | succ j =>
      simp only [loopsOf, List.getElem?_cons_succ] at hj
      simp only [loopsOf]
      rw [show j + 1 + 1 + i = (j + 1 + i) + 1 from by omega, List.getElem?_cons_succ]
      exact ih j b hj i d hi
  | _ => intro j b hj; simp [loopsOf] at hj

/-- What is to be shown of a loop. -/
def xloop (P : Program) (fs : List (Nat × FC)) (ls : List (Nat × Nat × LC)) (n : Nat) (k j : Nat) (c : LC) (ex : AX → Option Shape) (m : shDen c.sh → Nat) (x : shDen c.sh) (Q : AX → St → Prop) : Prop :=
  match P.funcs[k]? with
  | none => False
  | some fn => match fn.body with
    | none => False
    | some fb => match (loopsOf fb)[j]? with
      | none => False
      | some code => xc P fn.ntmps (xcall P (mkTab fs ls) n) ((mkTab fs ls).lp k 0) code (j + 1) (AX.then (backK c.sh fun x' => m x' < m x ∧ c.spec x' Q) (exitK ex Q)) (shSt c.sh x)
theorem lp_of {P : Program} {fs : List (Nat × FC)} {ls : List (Nat × Nat × LC)} (hT : Good P fs ls) {n k j : Nat} {c : LC} {ex : AX → Option Shape} {m : shDen c.sh → Nat} (h : ∀ x Q, c.spec x Q → xloop P fs ls n k j c ex m x Q) : LpOk P k j c := by
  intro fn fb code hf hb hcode x Q hx
  have key : ∀ x, c.spec x Q → xc P fn.ntmps (xcall P (mkTab fs ls) n) ((mkTab fs ls).lp k 0) code (j + 1) (AX.then (backK c.sh fun x' => m x' < m x ∧ c.spec x' Q) (exitK ex Q)) (shSt c.sh x) := fun x hx => by
    have := h x Q hx
    unfold xloop at this
    simp only [hf, hb, hcode] at this
    exact this
  have hcall := xcall_ok hT.tab n
  have hloops : LoopsOk P fn.ntmps 0 ((mkTab fs ls).lp k 0) (j + 1) (loopsOf code) := fun i d hd σ Q hq => hT.tab.lp k fn fb hf hb 0 (j + 1 + i) d (loops_in fb j code hcode i d hd) σ Q (by rw [Nat.zero_add]; exact hq)
  refine swp_exits (Q' := fun e τ => e.calm = true ∧ ∃ τ', Ent τ τ' ∧ Q e τ') ?_ fun e τ h => h
  refine swp_loop (fun n σ => ∃ x, Ent σ (shSt c.sh x) ∧ c.spec x Q ∧ m x = n) ⟨x, Ent.refl _, hx, rfl⟩ fun n' σ ⟨y, h1, h2, h3⟩ => ?_
  refine swp_ent h1 ((xc_ok hcall code (j + 1) _ _ hloops (key y h2)).mono fun e τ he => ?_)
  cases e with
  | normal =>
    obtain ⟨z, g1, g2, g3⟩ := backK_ok he
    exact ⟨m z, by rw [← h3]; exact g2, z, g1, g3, rfl⟩
  | exit i => exact exitK_ok (ex := ex) he
  | ret => exact exitK_ok (ex := ex) he
  | panic v => exact exitK_ok (ex := ex) he

/-- What is to be shown of a function. -/
def xfn (P : Program) (fs : List (Nat × FC)) (ls : List (Nat × Nat × LC)) (n : Nat) (k : Nat) (c : FC) (x : densA c.as) (K : dens c.rs → Prop) : Prop :=
  xinl P (xcall P (mkTab fs ls) n) (mkTab fs ls).lp k (valsA c.as x) [] 0 (resK c.rs K)
theorem fn_of {P : Program} {fs : List (Nat × FC)} {ls : List (Nat × Nat × LC)} (hT : Good P fs ls) {n k : Nat} {c : FC} (h : ∀ x K, c.spec x K → xfn P fs ls n k c x K) : FnOk P k c :=
  pc_of (xcall_ok hT.tab n) (fun fn fb hf hb => hT.tab.lp k fn fb hf hb) fun x K hx => by have := h x K hx; unfold xfn at this; exact this
attribute [irreducible] xloop xfn
end Go.Lom
