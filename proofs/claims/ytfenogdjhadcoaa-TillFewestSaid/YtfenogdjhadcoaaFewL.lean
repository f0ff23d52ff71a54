/- Payments: the payment is the best one. No conditions. -/
import Derived.Test.YtfenogdjhadcoaaFewT
import Derived.Test.YtfenogdjhadcoaaPaysP
set_option linter.unusedVariables false
set_option linter.unusedSimpArgs false
set_option linter.constructorNameAsVariable false
namespace Go.P8
open Go.Lom Go.Proofs Go

/-- So many pieces of each kind are there, and are the sum. -/
def feas : List (Int × Int) → Int → List Int → Prop
  | [], s, ws => s = 0 ∧ ws = []
  | x :: l, s, ws => ∃ w r, ws = w :: r ∧ 0 ≤ w ∧ w ≤ x.2 ∧ feas l (s - w * x.1) r
theorem feas_pos : ∀ {l : List (Int × Int)} {s : Int} {ws : List Int}, (∀ x ∈ l, 1 ≤ x.1) → feas l s ws → 0 ≤ s
  | [], s, ws, _, h => by have := h.1; omega
  | x :: l, s, ws, hc, ⟨w, r, e, h0, h1, h2⟩ => by
    have ih := feas_pos (fun y hy => hc y (List.mem_cons_of_mem _ hy)) h2
    have := hc x List.mem_cons_self
    have : 0 ≤ w * x.1 := Int.mul_nonneg h0 (by omega)
    omega
theorem few_way {x : Int × Int} {l : List (Int × Int)} {s w : Int} (hc : 1 ≤ x.1) (hs : 0 ≤ s) (h0 : 0 ≤ w) (h1 : w ≤ x.2) (h2 : 0 ≤ s - w * x.1) : few (x :: l) s ≤ w + few l (s - w * x.1) ∧ w ≤ min x.2 (s.tdiv x.1) := by
  have hw : w ≤ s.tdiv x.1 := (mul_iff h0 hs hc).1 (by omega)
  exact ⟨minF_way (few l) x.1 s (min x.2 (s.tdiv x.1) + 1).toNat 0 1073741824 w h0 (by omega), by omega⟩
theorem few_opt : ∀ {l : List (Int × Int)} {s : Int} {ws : List Int}, (∀ x ∈ l, 1 ≤ x.1) → feas l s ws → few l s ≤ ws.sum
  | [], s, ws, _, ⟨h1, h2⟩ => by subst h1 h2; simp [few]
  | x :: l, s, ws, hc, ⟨w, r, e, h0, h1, h2⟩ => by
    have hc2 : ∀ y ∈ l, 1 ≤ y.1 := fun y hy => hc y (List.mem_cons_of_mem _ hy)
    have hx := hc x List.mem_cons_self
    have hp := feas_pos hc2 h2
    have hm : 0 ≤ w * x.1 := Int.mul_nonneg h0 (by omega)
    have ih := few_opt hc2 h2
    have := (few_way (l := l) hx (show 0 ≤ s by omega) h0 h1 hp).1
    rw [e, List.sum_cons]; omega
theorem topN_max {g : Int → Int} {c s t : Int} : ∀ {n : Nat} {j : Int}, 0 ≤ j → j ≤ n → j + g (s - j * c) = t → j ≤ topN g c s t n
  | 0, j, h0, h1, h2 => by unfold topN; omega
  | n + 1, j, h0, h1, h2 => by
    unfold topN
    split
    · push_cast at h1; omega
    · rename_i h
      refine topN_max h0 ?_ h2
      have : j ≠ (n : Int) + 1 := fun e => h (by rw [← e]; exact h2)
      push_cast at h1; omega
theorem cons_has {x : Int × Int} {l : List (Int × Int)} {s : Int} (hx : 1 ≤ x.1 ∧ 0 ≤ x.2) (hs : 0 ≤ s) (hf : few (x :: l) s < 1073741824) : hasN (few l) x.1 s (few (x :: l) s) ((min x.2 (s.tdiv x.1)).toNat : Nat) := by
  have q := (quo_bd hs hx.1).1
  rcases few_cons_is x l s with e | ⟨j, h1, h2, h3⟩
  · omega
  · exact ⟨j, h1, by omega, h3.symm⟩
theorem payL_feas : ∀ {l : List (Int × Int)} {s : Int}, (∀ x ∈ l, 1 ≤ x.1 ∧ 0 ≤ x.2) → 0 ≤ s → few l s < 1073741824 → feas l s (payL l s) ∧ (payL l s).sum = few l s
  | [], s, _, hs, hf => by
    unfold few at hf ⊢
    split
    · rename_i h; exact ⟨⟨h, rfl⟩, rfl⟩
    · rename_i h; rw [if_neg h] at hf; omega
  | x :: l, s, hc, hs, hf => by
    have hx := hc x List.mem_cons_self
    have sp := topN_spec (cons_has hx hs hf)
    obtain ⟨a0, a1, a2⟩ := sp
    have q := (quo_bd hs hx.1).1
    have hb := mul_bd a0 hs hx.1 (show topN (few l) x.1 s (few (x :: l) s) (min x.2 (s.tdiv x.1)).toNat ≤ s.tdiv x.1 by omega)
    have n0 := few_nonneg l (s - topN (few l) x.1 s (few (x :: l) s) (min x.2 (s.tdiv x.1)).toNat * x.1)
    have ih := payL_feas (l := l) (s := s - topN (few l) x.1 s (few (x :: l) s) (min x.2 (s.tdiv x.1)).toNat * x.1) (fun y hy => hc y (List.mem_cons_of_mem _ hy)) (by omega) (by omega)
    refine ⟨⟨_, _, rfl, a0, by omega, ih.1⟩, ?_⟩
    unfold payL
    rw [List.sum_cons, ih.2]; exact a2
theorem payL_lex : ∀ {l : List (Int × Int)} {s : Int} {ws : List Int}, (∀ x ∈ l, 1 ≤ x.1 ∧ 0 ≤ x.2) → 0 ≤ s → few l s < 1073741824 → feas l s ws → ws.sum = few l s → aheadB (payL l s) ws = false
  | [], s, ws, _, _, _, ⟨h1, h2⟩, _ => by subst h2; rfl
  | x :: l, s, ws, hc, hs, hf, ⟨w, r, e, h0, h1, h2⟩, hsum => by
    have hx := hc x List.mem_cons_self
    have hc2 : ∀ y ∈ l, 1 ≤ y.1 ∧ 0 ≤ y.2 := fun y hy => hc y (List.mem_cons_of_mem _ hy)
    have hp := feas_pos (fun y hy => (hc2 y hy).1) h2
    have hw := few_way (l := l) hx.1 hs h0 h1 hp
    have ho := few_opt (fun y hy => (hc2 y hy).1) h2
    rw [e, List.sum_cons] at hsum
    have heq : w + few l (s - w * x.1) = few (x :: l) s := by omega
    have q := (quo_bd hs hx.1).1
    have hm := topN_max (n := (min x.2 (s.tdiv x.1)).toNat) h0 (by omega) heq
    rw [e]
    unfold payL aheadB
    split
    · rename_i ht
      rw [ht]
      exact payL_lex hc2 hp (by omega) h2 (by omega)
    · exact decide_eq_false (by omega)

/-! lists -/
theorem feas_mk : ∀ {cs hv o : List Int}, o.length = cs.length → hv.length = cs.length → (∀ i : Nat, i < o.length → 0 ≤ o.getD i 0 ∧ o.getD i 0 ≤ hv.getD i 0) → feas (cs.zip hv) (valueN cs o) o
  | [], hv, [], _, _, _ => by simp [feas, valueN]
  | [], hv, _ :: _, h, _, _ => by simp at h
  | _ :: _, _, [], h, _, _ => by simp at h
  | _ :: _, [], _ :: _, _, h, _ => by simp at h
  | c :: cs, v :: hv, w :: o, h1, h2, h3 => by
    have ih := feas_mk (cs := cs) (hv := hv) (o := o) (by simpa using h1) (by simpa using h2) fun i hi => by
      have := h3 (i + 1) (by simpa using hi); simpa using this
    have h0 := h3 0 (by simp)
    simp only [List.getD_cons_zero] at h0
    refine ⟨w, o, rfl, h0.1, h0.2, ?_⟩
    simp only [valueN]
    rw [show w * c + valueN cs o - w * c = valueN cs o by omega]
    exact ih
theorem feas_at : ∀ {cs hv ws : List Int} {s : Int}, hv.length = cs.length → feas (cs.zip hv) s ws → ws.length = cs.length ∧ valueN cs ws = s ∧ ∀ i : Nat, i < ws.length → 0 ≤ ws.getD i 0 ∧ ws.getD i 0 ≤ hv.getD i 0
  | [], [], ws, s, _, h => by obtain ⟨h1, h2⟩ := h; subst h1 h2; simp [valueN]
  | [], _ :: _, _, _, h, _ => by simp at h
  | _ :: _, [], _, _, h, _ => by simp at h
  | c :: cs, v :: hv, ws, s, hl, h => by
    obtain ⟨w, r, e, h0, h1, h2⟩ := h
    obtain ⟨a, b, d⟩ := feas_at (by simpa using hl) h2
    subst e
    refine ⟨by simp [a], ?_, fun i hi => ?_⟩
    · simp only [valueN]; rw [b]; simp only; omega
    · cases i with
      | zero => simp only [List.getD_cons_zero]; exact ⟨h0, h1⟩
      | succ i => simp only [List.getD_cons_succ]; exact d i (by simpa using hi)
theorem goodF_iff {cs l hv : List Int} : goodF cs l hv 0 = true ↔ ∀ i : Nat, i < l.length → goodAt cs l hv i = true := by
  unfold goodF
  rw [List.all_eq_true]
  exact ⟨fun h i hi => h i (by rw [List.mem_range']; exact ⟨i, by omega, by omega⟩), fun h i hi => h i (by rw [List.mem_range'] at hi; obtain ⟨j, hj, rfl⟩ := hi; omega)⟩
theorem goodAt_iff {cs l hv : List Int} {i : Nat} : goodAt cs l hv i = true ↔ i < cs.length ∧ i < hv.length ∧ (0 ≤ l.getD i 0 ∧ l.getD i 0 ≤ hv.getD i 0) ∧ (1 ≤ cs.getD i 0 ∧ cs.getD i 0 ≤ 50000) ∧ l.getD i 0 ≤ 100 := by
  unfold goodAt
  simp only [Bool.and_eq_true, decide_eq_true_eq, and_assoc]
theorem good_mk {cs hv ws : List Int} (h : okC cs hv) (hl : ws.length = cs.length) (hr : ∀ i : Nat, i < ws.length → 0 ≤ ws.getD i 0 ∧ ws.getD i 0 ≤ hv.getD i 0) : goodF cs ws hv 0 = true := by
  rw [goodF_iff]
  intro i hi
  rw [goodAt_iff]
  have hh := h.len.1
  have c := h.coins _ (getD_in (show i < cs.length by omega))
  have v := h.haves _ (getD_in (show i < hv.length by omega))
  have := hr i hi
  exact ⟨by omega, by omega, this, c, by omega⟩
theorem value_add : ∀ {cs a b : List Int}, a.length = cs.length → b.length = cs.length → valueN cs (addL a b) = valueN cs a + valueN cs b
  | [], a, b, _, _ => by rw [valueN_nil, valueN_nil, valueN_nil]; rfl
  | _ :: _, [], _, h, _ => by simp at h
  | _ :: _, _ :: _, [], _, h => by simp at h
  | c :: cs, x :: a, y :: b, h1, h2 => by
    have ih := value_add (cs := cs) (a := a) (b := b) (by simpa using h1) (by simpa using h2)
    unfold addL at ih ⊢
    simp only [List.zipWith_cons_cons, valueN]
    rw [ih, Int.add_mul]; omega
theorem zip_ok {cs hv : List Int} (h : okC cs hv) : ∀ x ∈ cs.zip hv, 1 ≤ x.1 ∧ 0 ≤ x.2 := fun x hx => by
  obtain ⟨a, b⟩ := x
  have h1 := List.of_mem_zip hx
  exact ⟨(h.coins _ h1.1).1, (h.haves _ h1.2).1⟩
theorem payR_ok {cs hv : List Int} (h : okC cs hv) {s : Int} (hs : 0 ≤ s) (hf : few (cs.zip hv) s < 1073741824) : (payR cs hv s = (payL (cs.zip hv) s, 0)) ∧ (payL (cs.zip hv) s).length = cs.length ∧ valueN cs (payL (cs.zip hv) s) = s ∧ goodF cs (payL (cs.zip hv) s) hv 0 = true ∧ (payL (cs.zip hv) s).sum = few (cs.zip hv) s := by
  obtain ⟨f1, f2⟩ := payL_feas (zip_ok h) hs hf
  obtain ⟨a, b, c⟩ := feas_at h.len.1 f1
  exact ⟨by unfold payR; rw [if_neg (by omega)], a, b, good_mk h a c, f2⟩
theorem sum_bd8 : ∀ {l : List Int}, (∀ x ∈ l, x ≤ 100) → l.sum ≤ 100 * l.length
  | [], _ => by simp
  | x :: l, h => by
    have := h x List.mem_cons_self
    have := sum_bd8 fun y hy => h y (List.mem_cons_of_mem _ hy)
    rw [List.sum_cons, List.length_cons]; push_cast; omega
theorem good_rng {cs l hv : List Int} (h : goodF cs l hv 0 = true) : ∀ y ∈ l, 0 ≤ y ∧ y ≤ 100 := fun y hy => by
  obtain ⟨i, hi, rfl⟩ := List.mem_iff_getElem.1 hy
  have := goodAt_iff.1 (goodF_iff.1 h i hi)
  rw [List.getD_eq_getElem?_getD, List.getElem?_eq_getElem hi] at this
  exact ⟨this.2.2.1.1, this.2.2.2.2⟩
/-- The best payment, against another one. -/
theorem best_pay {cs hv o : List Int} (h : okC cs hv) (hl : o.length = cs.length) (hg : goodF cs o hv 0 = true) (hs : 0 ≤ valueN cs o) :
    few (cs.zip hv) (valueN cs o) < 1073741824 ∧ few (cs.zip hv) (valueN cs o) ≤ o.sum ∧ (o.sum = few (cs.zip hv) (valueN cs o) → aheadB (payL (cs.zip hv) (valueN cs o)) o = false) := by
  have hr : ∀ i : Nat, i < o.length → 0 ≤ o.getD i 0 ∧ o.getD i 0 ≤ hv.getD i 0 := fun i hi => (goodAt_iff.1 (goodF_iff.1 hg i hi)).2.2.1
  have hf := feas_mk hl h.len.1 hr
  have ho := few_opt (fun x hx => (zip_ok h x hx).1) hf
  have hb := sum_bd8 fun y hy => (good_rng hg y hy).2
  have h8 := h.len.2
  have hlt : few (cs.zip hv) (valueN cs o) < 1073741824 := by omega
  exact ⟨hlt, ho, fun e => payL_lex (zip_ok h) hs hlt hf e⟩
end Go.P8
