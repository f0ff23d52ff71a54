/- Purses: what an act answers, and what it leaves. No conditions. -/
import Derived.Test.YtnjaebjhfilljaaPortP2
set_option linter.unusedSimpArgs false
set_option linter.unusedVariables false
set_option linter.constructorNameAsVariable false
namespace Go.P7
open Go.Lom Go.Proofs Go

/-- A surplus: pledge, sum, day, state, over. -/
abbrev Su : Type := Tx × Int × Int × Int × Int
abbrev Nt : Type := Int × Int × Int
/-- day, welfare, term, surpluses, notes -/
abbrev PS : Type := Int × Int × Int × List Su × List Nt
def U0 : Su := ([], 0, 0, 0, 0)
/-- kind, day, price, parts, pledge, weights -/
abbrev Ac : Type := Int × Int × Int × List Pa × Tx × List Int
def ofB (p : Tx) (x : Su) : Bool := decide (x.1 = p)
def dayOk (s : PS) (d : Int) : Bool := decide (0 ≤ d ∧ d ≤ 36500 ∧ s.1 ≤ d)
def noted (s : PS) (k d n wf : Int) (ss : List Su) : PS := (d, wf, s.2.2.1, ss, s.2.2.2.2 ++ [(k, d, n)])
def newSu (d : Int) : List Pa → List Po → List Su
  | p :: ps, o :: os => if 0 < o.2.2 then (p.1, o.2.2, d, 1, 0) :: newSu d ps os else newSu d ps os
  | _, _ => []
def sellI (s : PS) (d price : Int) (ps : List Pa) : PS × List Po × Int :=
  if dayOk s d = false then (s, [], 34) else if (portR price ps).2 ≠ 0 then (s, [], (portR price ps).2) else
  if ps.any (fun p => s.2.2.2.1.any (ofB p.1)) = true then (s, [], 33) else if s.2.2.2.1.length + (newSu d ps (portR price ps).1).length > 256 then (s, [], 6) else
  (noted s 1 d price s.2.1 (s.2.2.2.1 ++ newSu d ps (portR price ps).1), (portR price ps).1, 0)
/-- Does a held surplus pass by a day? -/
def passB (t d : Int) (x : Su) : Bool := decide (x.2.2.1 + t ≤ d)
def heldB (x : Su) : Bool := decide (x.2.2.2.1 = 1)
def overI (x : Su) (st d : Int) : Su := (x.1, x.2.1, x.2.2.1, st, d)
def ixS (ss : List Su) (p : Tx) : Int := firstIx (ofB p) ss 0
def payI (s : PS) (d : Int) (p : Tx) : PS × Int × Int :=
  if dayOk s d = false then (s, 0, 34) else if ixS s.2.2.2.1 p < 0 then (s, 0, 73) else
  if (heldB (s.2.2.2.1.getD (ixS s.2.2.2.1 p).toNat U0) && !passB s.2.2.1 d (s.2.2.2.1.getD (ixS s.2.2.2.1 p).toNat U0)) = false then (s, 0, 73) else
  (noted s 2 d (s.2.2.2.1.getD (ixS s.2.2.2.1 p).toNat U0).2.1 s.2.1 (s.2.2.2.1.set (ixS s.2.2.2.1 p).toNat (overI (s.2.2.2.1.getD (ixS s.2.2.2.1 p).toNat U0) 2 d)), (s.2.2.2.1.getD (ixS s.2.2.2.1 p).toNat U0).2.1, 0)
def goB (t d : Int) (x : Su) : Bool := heldB x && passB t d x
def passS (t d : Int) (x : Su) : Su := if goB t d x = true then overI x 3 d else x
def passN (t d : Int) (l : List Su) : Int := ((l.filter (goB t d)).map (·.2.1)).sum
def passI (s : PS) (d : Int) : PS × Int × Int :=
  if dayOk s d = false then (s, 0, 34) else (noted s 3 d (passN s.2.2.1 d s.2.2.2.1) (s.2.1 + passN s.2.2.1 d s.2.2.2.1) (s.2.2.2.1.map (passS s.2.2.1 d)), passN s.2.2.1 d s.2.2.2.1, 0)
def giveI (s : PS) (d : Int) (w : List Int) : PS × List Int × Int :=
  if dayOk s d = false then (s, [], 34) else if validW w = false then (s, [], 70) else (noted s 4 d s.2.1 0 s.2.2.2.1, shareL w s.2.1, 0)
def actI (s : PS) (a : Ac) : PS × List Po × List Int × Int :=
  if a.1 = 1 then ((sellI s a.2.1 a.2.2.1 a.2.2.2.1).1, (sellI s a.2.1 a.2.2.1 a.2.2.2.1).2.1, [], (sellI s a.2.1 a.2.2.1 a.2.2.2.1).2.2)
  else if a.1 = 2 then ((payI s a.2.1 a.2.2.2.2.1).1, [], [(payI s a.2.1 a.2.2.2.2.1).2.1], (payI s a.2.1 a.2.2.2.2.1).2.2)
  else if a.1 = 3 then ((passI s a.2.1).1, [], [(passI s a.2.1).2.1], (passI s a.2.1).2.2)
  else ((giveI s a.2.1 a.2.2.2.2.2).1, [], (giveI s a.2.1 a.2.2.2.2.2).2.1, (giveI s a.2.1 a.2.2.2.2.2).2.2)

/-! the invariant -/
/-- The sum of those of which something is true. -/
def sumB (P : Su → Bool) (l : List Su) : Int := ((l.filter P).map (·.2.1)).sum
def overB (x : Su) : Bool := decide (x.2.2.2.1 = 3)
abbrev passedN (l : List Su) : Int := sumB overB l
abbrev waitsN (l : List Su) : Int := sumB heldB l
structure suOk (d : Int) (x : Su) : Prop where
  sum : 1 ≤ x.2.1 ∧ x.2.1 ≤ 67108864
  day : 0 ≤ x.2.2.1 ∧ x.2.2.1 ≤ d
  st : 1 ≤ x.2.2.2.1 ∧ x.2.2.2.1 ≤ 3
  word : x.1.length ≤ 16
structure okP (s : PS) : Prop where
  term : 0 ≤ s.2.2.1 ∧ s.2.2.1 ≤ 12000
  day : 0 ≤ s.1 ∧ s.1 ≤ 36500
  len : s.2.2.2.1.length ≤ 256
  su : ∀ x ∈ s.2.2.2.1, suOk s.1 x
  one : (s.2.2.2.1.map (·.1)).Nodup
  wf : 0 ≤ s.2.1 ∧ s.2.1 ≤ passedN s.2.2.2.1
/-- Where the map of a purse says that the surplus of a pledge lies. -/
def mapS (m : List (Tx × Int)) (ss : List Su) : Prop := ∀ p : Tx, tmGet .s m p = (if ixS ss p < 0 then none else some (ixS ss p))

theorem sumB_nil (P : Su → Bool) : sumB P [] = 0 := rfl
theorem sumB_cons (P : Su → Bool) (x : Su) (l : List Su) : sumB P (x :: l) = (if P x = true then x.2.1 else 0) + sumB P l := by
  unfold sumB
  rw [List.filter_cons]
  split <;> simp
theorem sumB_append (P : Su → Bool) : ∀ a b : List Su, sumB P (a ++ b) = sumB P a + sumB P b
  | [], b => by rw [List.nil_append, sumB_nil]; omega
  | x :: a, b => by rw [List.cons_append, sumB_cons, sumB_cons, sumB_append P a b]; omega
theorem sumB_bd {P : Su → Bool} : ∀ {l : List Su}, (∀ x ∈ l, 0 ≤ x.2.1 ∧ x.2.1 ≤ 67108864) → 0 ≤ sumB P l ∧ sumB P l ≤ l.length * 67108864
  | [], _ => by rw [sumB_nil]; simp
  | x :: l, h => by
    have h1 := h x (List.mem_cons_self)
    have h2 := sumB_bd (P := P) fun y hy => h y (List.mem_cons_of_mem _ hy)
    rw [sumB_cons, List.length_cons]
    push_cast
    split <;> omega
theorem sumB_set (P : Su → Bool) {y : Su} : ∀ {l : List Su} {i : Nat}, i < l.length → sumB P (l.set i y) = sumB P l + (if P y = true then y.2.1 else 0) - (if P (l.getD i U0) = true then (l.getD i U0).2.1 else 0)
  | [], _, h => by simp at h
  | x :: l, 0, _ => by rw [List.set_cons_zero, sumB_cons, sumB_cons]; simp only [List.getD_cons_zero]; omega
  | x :: l, i + 1, h => by
    have := sumB_set P (y := y) (l := l) (i := i) (by simpa using h)
    rw [List.set_cons_succ, sumB_cons, sumB_cons, this, List.getD_cons_succ]; omega
theorem passN_eq (t d : Int) (l : List Su) : passN t d l = sumB (goB t d) l := rfl
theorem pass_waits (t d : Int) : ∀ l : List Su, waitsN (l.map (passS t d)) = waitsN l - passN t d l
  | [] => rfl
  | x :: l => by
    have ih := pass_waits t d l
    rw [passN_eq] at ih ⊢
    rw [List.map_cons]
    unfold waitsN at *
    rw [sumB_cons, sumB_cons, sumB_cons, ih]
    unfold passS
    by_cases hg : goB t d x = true
    · have hh : heldB x = true := by unfold goB at hg; simp at hg; exact hg.1
      have h3 : heldB (overI x 3 d) = false := rfl
      rw [if_pos hg, h3, hh, hg]; simp; omega
    · rw [if_neg hg]; simp only [Bool.not_eq_true] at hg; rw [hg]; simp; omega
theorem pass_passed (t d : Int) : ∀ l : List Su, passedN (l.map (passS t d)) = passedN l + passN t d l
  | [] => rfl
  | x :: l => by
    have ih := pass_passed t d l
    rw [passN_eq] at ih ⊢
    rw [List.map_cons]
    unfold passedN at *
    rw [sumB_cons, sumB_cons, sumB_cons, ih]
    unfold passS
    by_cases hg : goB t d x = true
    · have hh : overB x = false := by
        unfold goB heldB at hg; simp at hg; unfold overB; rw [decide_eq_false_iff_not]; omega
      have h3 : overB (overI x 3 d) = true := rfl
      rw [if_pos hg, h3, hh, hg]; simp [overI]; omega
    · rw [if_neg hg]; simp only [Bool.not_eq_true] at hg; rw [hg]; simp; omega

/-! places -/
theorem firstIx_at {α : Type} (p : α → Bool) : ∀ (l : List α) (i : Int), l.any p = true → ∃ k : Nat, firstIx p l i = i + k ∧ ∃ h : k < l.length, p l[k] = true
  | [], i, h => by simp at h
  | x :: l, i, h => by
    simp only [firstIx]
    by_cases hp : p x = true
    · rw [if_pos hp]; exact ⟨0, by simp, by simp, by simpa using hp⟩
    · rw [if_neg hp]
      rw [List.any_cons] at h; simp only [Bool.not_eq_true] at hp; rw [hp, Bool.false_or] at h
      obtain ⟨k, e, hk, hx⟩ := firstIx_at p l (i + 1) h
      exact ⟨k + 1, by rw [e]; push_cast; omega, by simp; omega, by simpa using hx⟩
theorem ixS_neg {ss : List Su} {p : Tx} : ixS ss p < 0 ↔ ss.any (ofB p) = false := by
  unfold ixS
  obtain ⟨h1, h2⟩ := firstIx_ge (ofB p) ss 0 (by omega)
  cases h : ss.any (ofB p) with
  | true => have := h2 h; simp; omega
  | false => have := h1 h; simp; omega
theorem ixS_at {ss : List Su} {p : Tx} (h : ¬ ixS ss p < 0) : 0 ≤ ixS ss p ∧ ixS ss p < ss.length ∧ (ss.getD (ixS ss p).toNat U0).1 = p := by
  have ha : ss.any (ofB p) = true := by
    cases h2 : ss.any (ofB p) with
    | true => rfl
    | false => exact absurd (ixS_neg.2 h2) h
  obtain ⟨k, e, hk, hx⟩ := firstIx_at (ofB p) ss 0 ha
  unfold ixS
  rw [e]
  refine ⟨by omega, by omega, ?_⟩
  rw [show ((0 : Int) + k).toNat = k by omega, List.getD_eq_getElem?_getD, List.getElem?_eq_getElem hk]
  exact of_decide_eq_true hx
theorem firstIx_map {p : Tx} : ∀ (ss : List Su) (i : Int), firstIx (ofB p) ss i = firstIx (fun t : Tx => decide (t = p)) (ss.map (·.1)) i
  | [], _ => rfl
  | x :: l, i => by
    simp only [firstIx, List.map_cons, firstIx_map l (i + 1)]; rfl
theorem firstIx_app {α : Type} (p : α → Bool) (b : List α) : ∀ (a : List α) (i : Int), firstIx p (a ++ b) i = if a.any p = true then firstIx p a i else firstIx p b (i + a.length)
  | [], i => by simp
  | x :: a, i => by
    rw [List.cons_append]
    simp only [firstIx]
    by_cases hp : p x = true
    · have : (x :: a).any p = true := by simp [hp]
      rw [if_pos this, if_pos hp, if_pos hp]
    · have : (x :: a).any p = a.any p := by simp [hp]
      rw [if_neg hp, if_neg hp, firstIx_app p b a (i + 1)]
      simp only [this]
      rw [List.length_cons, show i + 1 + (a.length : Int) = i + ((a.length + 1 : Nat) : Int) by push_cast; omega]
theorem ixS_names {a b : List Su} (h : a.map (·.1) = b.map (·.1)) (p : Tx) : ixS a p = ixS b p := by unfold ixS; rw [firstIx_map, firstIx_map, h]
theorem names_pass (t d : Int) (l : List Su) : (l.map (passS t d)).map (·.1) = l.map (·.1) := by
  rw [List.map_map]
  refine List.map_congr_left fun x _ => ?_
  simp only [Function.comp, passS]; split <;> rfl
theorem names_set {l : List Su} {i : Nat} {st d : Int} (h : i < l.length) : (l.set i (overI (l.getD i U0) st d)).map (·.1) = l.map (·.1) := by
  rw [List.map_set]
  have e : (overI (l.getD i U0) st d).1 = (l.map (·.1))[i]'(by simpa using h) := by
    rw [List.getD_eq_getElem?_getD, List.getElem?_eq_getElem h]; simp [overI]
  rw [e]; exact List.set_getElem_self _
theorem mapS_names {m : List (Tx × Int)} {a b : List Su} (h : a.map (·.1) = b.map (·.1)) (hm : mapS m a) : mapS m b := fun p => by rw [← ixS_names h p]; exact hm p

/-! the map -/
theorem eqS_iff {a b : Tx} : Lom.eqT .s a b = true ↔ a = b := by show (a == b) = true ↔ _; exact beq_iff_eq
theorem tmFind_snoc (k : Tx) {β : Type} (k2 : Tx) (v : β) : ∀ (l : List (Tx × β)) (i : Nat), tmFind .s k (l ++ [(k2, v)]) i = (tmFind .s k l i).or (if k = k2 then some (i + l.length, v) else none)
  | [], i => by
    simp only [List.nil_append, tmFind]
    by_cases h : k = k2
    · rw [if_pos (eqS_iff.2 h), if_pos h]; simp
    · rw [if_neg (fun e => h (eqS_iff.1 e)), if_neg h]; simp
  | (x, w) :: l, i => by
    simp only [List.cons_append, tmFind]
    split
    · simp
    · rw [tmFind_snoc k k2 v l (i + 1)]; simp [show i + 1 + l.length = i + (l.length + 1) by omega]
/-- A new key at the end. -/
theorem tmGet_put_new {l : List (Tx × Int)} {k : Tx} (h : tmGet .s l k = none) (v : Int) (q : Tx) : tmGet .s (tmPut .s l k v) q = if q = k then some v else tmGet .s l q := by
  have hf : tmFind .s k l 0 = none := by
    unfold tmGet at h; cases hx : tmFind .s k l 0 with
    | none => rfl
    | some r => rw [hx] at h; cases h
  unfold tmPut
  rw [hf]
  unfold tmGet
  simp only
  rw [tmFind_snoc]
  by_cases hq : q = k
  · subst hq; rw [hf]; simp
  · rw [if_neg hq, if_neg hq]; cases tmFind .s q l 0 <;> rfl
theorem mapS_nil : mapS [] [] := fun p => by simp [tmGet, tmFind, ixS, firstIx]
theorem mapS_add {m : List (Tx × Int)} {ss : List Su} {x : Su} (hm : mapS m ss) (hn : ss.any (ofB x.1) = false) : mapS (tmPut .s m x.1 (ss.length : Int)) (ss ++ [x]) := fun p => by
  have hk : tmGet .s m x.1 = none := by rw [hm x.1, if_pos (ixS_neg.2 hn)]
  rw [tmGet_put_new hk, hm p]
  unfold ixS
  rw [firstIx_app]
  by_cases hp : p = x.1
  · subst hp
    rw [hn]
    simp only [firstIx, ofB, decide_true, if_true]
    simp
  · rw [if_neg hp]
    have hx : ofB p x = false := decide_eq_false fun e => hp e.symm
    obtain ⟨h1, h2⟩ := firstIx_ge (ofB p) ss 0 (by omega)
    cases ha : ss.any (ofB p) with
    | true => simp only [if_true]
    | false =>
      rw [h1 ha]
      have h3 : firstIx (ofB p) [x] (0 + (ss.length : Int)) = -1 := by simp [firstIx, hx]
      simp only [h3]; rfl

/-! lots -/
theorem sum_nn : ∀ {l : List Int}, (∀ y ∈ l, 0 ≤ y) → 0 ≤ l.sum
  | [], _ => by simp
  | x :: l, h => by
    have h1 := h x List.mem_cons_self
    have h2 := sum_nn fun y hy => h y (List.mem_cons_of_mem _ hy)
    rw [List.sum_cons]; omega
theorem port_left {price : Int} {ps : List Pa} {os : List Po} (h : portR price ps = (os, 0)) : os.length = ps.length ∧ ps.length ≤ 8 ∧ 1 ≤ ps.length ∧ scanOk [] ps = true ∧ ∀ o ∈ os, (0 ≤ o.2.2 ∧ o.2.2 ≤ 67108864) := by
  rcases portR_cases h with ⟨-, hp, ⟨h1, h2, h3, h4⟩, hd, rfl⟩ | ⟨h, -⟩
  · obtain ⟨a1, a2, a3⟩ := prices_ok h4 hp.1 hp.2
    refine ⟨by rw [List.length_zipWith, a1]; omega, h2, h1, h3, fun o ho => ?_⟩
    obtain ⟨i, hi, rfl⟩ := List.mem_iff_getElem.1 ho
    rw [List.getElem_zipWith]
    rw [List.length_zipWith] at hi
    have hv : validD (ps[i]'(by omega)).2.2 = true := List.all_eq_true.1 hd _ (List.getElem_mem _)
    have hn := a2 _ (List.getElem_mem (show i < (shareL (vals7 ps) price).length by omega))
    have u := spread_upto (l := (ps[i]'(by omega)).2.2) (s := (shareL (vals7 ps) price)[i]'(by omega)) hv hn.1 (by omega)
    simp only [portion]
    refine ⟨u.left0.1, ?_⟩
    have hs := u.sum
    have h0 : 0 ≤ (spreadL (ps[i]'(by omega)).2.2 ((shareL (vals7 ps) price)[i]'(by omega))).1.sum := by
      refine sum_nn fun y hy => ?_
      obtain ⟨k, hk, rfl⟩ := List.mem_iff_getElem.1 hy
      have := (u.rng k (by rw [← u.len]; exact hk)).1
      rw [List.getD_eq_getElem?_getD, List.getElem?_eq_getElem hk] at this
      exact this
    omega
  · exact absurd rfl h
theorem newSu_mem {d : Int} : ∀ {ps : List Pa} {os : List Po} {x : Su}, x ∈ newSu d ps os → ∃ p ∈ ps, ∃ o ∈ os, x = (p.1, o.2.2, d, 1, 0) ∧ 0 < o.2.2
  | [], _, x, h => by simp [newSu] at h
  | _ :: _, [], x, h => by simp [newSu] at h
  | p :: ps, o :: os, x, h => by
    simp only [newSu] at h
    split at h
    · rename_i ho
      rcases List.mem_cons.1 h with rfl | h
      · exact ⟨p, List.mem_cons_self, o, List.mem_cons_self, rfl, ho⟩
      · obtain ⟨q, hq, r, hr, e⟩ := newSu_mem h
        exact ⟨q, List.mem_cons_of_mem _ hq, r, List.mem_cons_of_mem _ hr, e⟩
    · obtain ⟨q, hq, r, hr, e⟩ := newSu_mem h
      exact ⟨q, List.mem_cons_of_mem _ hq, r, List.mem_cons_of_mem _ hr, e⟩
theorem newSu_len {d : Int} : ∀ (ps : List Pa) (os : List Po), (newSu d ps os).length ≤ ps.length
  | [], _ => by simp [newSu]
  | _ :: _, [] => by simp [newSu]
  | p :: ps, o :: os => by
    have := newSu_len (d := d) ps os
    simp only [newSu]
    split <;> simp <;> omega
theorem newSu_names {d : Int} : ∀ (ps : List Pa) (os : List Po), ((newSu d ps os).map (·.1)).Sublist (ps.map (·.1))
  | [], _ => by simp [newSu]
  | _ :: _, [] => by simp [newSu]
  | p :: ps, o :: os => by
    have := newSu_names (d := d) ps os
    simp only [newSu]
    split
    · exact this.cons_cons _
    · exact this.cons _
theorem scan_words : ∀ {pre ps : List Pa}, scanOk pre ps = true → (∀ p ∈ ps, p.1.length ≤ 16) ∧ (ps.map (·.1)).Nodup ∧ ∀ p ∈ ps, pre.any (sameN p) = false
  | _, [], _ => by simp
  | pre, p :: ps, h => by
    simp only [scanOk, Bool.and_eq_true, Bool.not_eq_true'] at h
    obtain ⟨⟨hw, hn⟩, hs⟩ := h
    obtain ⟨a, b, c⟩ := scan_words hs
    have hc : ∀ q ∈ ps, pre.any (sameN q) = false ∧ ¬ p.1 = q.1 := fun q hq => by
      have := c q hq
      rw [List.any_append, Bool.or_eq_false_iff] at this
      exact ⟨this.1, by simpa [sameN] using this.2⟩
    refine ⟨fun q hq => ?_, ?_, fun q hq => ?_⟩
    · rcases List.mem_cons.1 hq with rfl | hq
      · unfold wordB at hw; simp at hw; omega
      · exact a q hq
    · rw [List.map_cons, List.nodup_cons]
      refine ⟨fun e => ?_, b⟩
      obtain ⟨q, hq, e⟩ := List.mem_map.1 e
      exact (hc q hq).2 e.symm
    · rcases List.mem_cons.1 hq with rfl | hq
      · exact hn
      · exact (hc q hq).1

/-! what acts keep -/
theorem suOk_over {d d2 st : Int} {x : Su} (h : suOk d x) (hd : d ≤ d2) (hst : 1 ≤ st ∧ st ≤ 3) : suOk d2 (overI x st d2) :=
  ⟨h.sum, ⟨h.day.1, Int.le_trans h.day.2 hd⟩, hst, h.word⟩
theorem suOk_later {d d2 : Int} {x : Su} (h : suOk d x) (hd : d ≤ d2) : suOk d2 x := ⟨h.sum, ⟨h.day.1, Int.le_trans h.day.2 hd⟩, h.st, h.word⟩
theorem dayOk_iff {s : PS} {d : Int} : dayOk s d = true ↔ 0 ≤ d ∧ d ≤ 36500 ∧ s.1 ≤ d := by unfold dayOk; exact decide_eq_true_iff
theorem getSu_mem {l : List Su} {i : Nat} (h : i < l.length) : l.getD i U0 ∈ l := by
  rw [List.getD_eq_getElem?_getD, List.getElem?_eq_getElem h]; exact List.getElem_mem _
theorem okP_sell {s : PS} (h : okP s) (d price : Int) (ps : List Pa) : okP (sellI s d price ps).1 := by
  unfold sellI
  split
  · exact h
  rename_i hd
  split
  · exact h
  rename_i he
  split
  · exact h
  rename_i hn
  split
  · exact h
  rename_i hl
  simp only [Bool.not_eq_false] at hd
  rw [dayOk_iff] at hd
  have hn2 : ps.any (fun p => s.2.2.2.1.any (ofB p.1)) = false := by simpa using hn
  have he2 : portR price ps = ((portR price ps).1, 0) := Prod.ext rfl (by simpa using he)
  obtain ⟨l1, l2, l3, l4, l5⟩ := port_left he2
  obtain ⟨w1, w2, -⟩ := scan_words l4
  generalize (portR price ps).1 = os at *
  have hb : ∀ x ∈ newSu d ps os, suOk d x ∧ x.2.2.2.1 = 1 := fun x hx => by
    obtain ⟨p, hp, o, ho, rfl, hpos⟩ := newSu_mem hx
    exact ⟨⟨⟨by simp; omega, (l5 o ho).2⟩, ⟨hd.1, Int.le_refl d⟩, by simp, w1 p hp⟩, rfl⟩
  refine ⟨h.term, ⟨hd.1, hd.2.1⟩, by simp only [noted]; rw [List.length_append]; omega, fun x hx => ?_, ?_, ?_⟩
  · simp only [noted] at hx
    rcases List.mem_append.1 hx with hx | hx
    · exact suOk_later (h.su x hx) hd.2.2
    · exact (hb x hx).1
  · simp only [noted]
    rw [List.map_append, List.nodup_append]
    refine ⟨h.one, (newSu_names ps os).nodup w2, fun a ha b hb2 e => ?_⟩
    subst e
    obtain ⟨p, hp, e⟩ := List.mem_map.1 ((newSu_names ps os).subset hb2)
    obtain ⟨x, hx, e2⟩ := List.mem_map.1 ha
    have h1 := List.any_eq_false.1 hn2 p hp
    refine h1 (List.any_eq_true.2 ⟨x, hx, ?_⟩)
    exact decide_eq_true (e2.trans e.symm)
  · simp only [noted]
    refine ⟨h.wf.1, ?_⟩
    rw [passedN, sumB_append]
    have : 0 ≤ sumB overB (newSu d ps os) := (sumB_bd fun x hx => ⟨by have := (hb x hx).1.sum.1; omega, (hb x hx).1.sum.2⟩).1
    have := h.wf.2
    unfold passedN at this
    omega
theorem okP_pay {s : PS} (h : okP s) (d : Int) (p : Tx) : okP (payI s d p).1 := by
  unfold payI
  split
  · exact h
  rename_i hd
  split
  · exact h
  rename_i hi
  split
  · exact h
  rename_i hb
  simp only [Bool.not_eq_false] at hd hb
  rw [dayOk_iff] at hd
  obtain ⟨i0, i1, i2⟩ := ixS_at hi
  have hlt : (ixS s.2.2.2.1 p).toNat < s.2.2.2.1.length := by omega
  generalize (ixS s.2.2.2.1 p).toNat = i at *
  refine ⟨h.term, ⟨hd.1, hd.2.1⟩, by simp only [noted]; rw [List.length_set]; exact h.len, fun x hx => ?_, by simp only [noted]; rw [names_set hlt]; exact h.one, ?_⟩
  · simp only [noted] at hx
    rcases List.mem_or_eq_of_mem_set hx with hx | rfl
    · exact suOk_later (h.su x hx) hd.2.2
    · exact suOk_over (h.su _ (getSu_mem hlt)) hd.2.2 (by decide)
  · simp only [noted]
    refine ⟨h.wf.1, ?_⟩
    rw [passedN, sumB_set overB hlt]
    have h1 : overB (s.2.2.2.1.getD i U0) = false := by
      simp only [Bool.and_eq_true] at hb
      have := hb.1; unfold heldB at this; unfold overB
      rw [decide_eq_true_eq] at this; rw [decide_eq_false_iff_not]; omega
    have h2 : overB (overI (s.2.2.2.1.getD i U0) 2 d) = false := rfl
    rw [h1, h2]
    have := h.wf.2
    unfold passedN at this
    simp; omega
theorem okP_pass {s : PS} (h : okP s) (d : Int) : okP (passI s d).1 := by
  unfold passI
  split
  · exact h
  rename_i hd
  simp only [Bool.not_eq_false] at hd
  rw [dayOk_iff] at hd
  refine ⟨h.term, ⟨hd.1, hd.2.1⟩, by simp only [noted]; rw [List.length_map]; exact h.len, fun x hx => ?_, by simp only [noted]; rw [names_pass]; exact h.one, ?_⟩
  · simp only [noted] at hx
    obtain ⟨y, hy, rfl⟩ := List.mem_map.1 hx
    unfold passS
    split
    · exact suOk_over (h.su _ hy) hd.2.2 (by decide)
    · exact suOk_later (h.su _ hy) hd.2.2
  · simp only [noted]
    rw [pass_passed]
    have : 0 ≤ passN s.2.2.1 d s.2.2.2.1 := (sumB_bd fun x hx => ⟨by have := (h.su x hx).sum.1; omega, (h.su x hx).sum.2⟩).1
    have := h.wf
    omega
theorem okP_give {s : PS} (h : okP s) (d : Int) (w : List Int) : okP (giveI s d w).1 := by
  unfold giveI
  split
  · exact h
  rename_i hd
  split
  · exact h
  simp only [Bool.not_eq_false] at hd
  rw [dayOk_iff] at hd
  refine ⟨h.term, ⟨hd.1, hd.2.1⟩, h.len, fun x hx => suOk_later (h.su x hx) hd.2.2, h.one, ?_⟩
  simp only [noted]
  have := h.wf
  omega
theorem okP_act {s : PS} (h : okP s) (a : Ac) : okP (actI s a).1 := by
  unfold actI
  repeat' split
  · exact okP_sell h _ _ _
  · exact okP_pay h _ _
  · exact okP_pass h _
  · exact okP_give h _ _
/-- What is held for welfare, and what waits, is no more than this. -/
theorem okP_bd {s : PS} (h : okP s) : (0 ≤ s.2.1 ∧ s.2.1 ≤ 17179869184) ∧ (0 ≤ waitsN s.2.2.2.1 ∧ waitsN s.2.2.2.1 ≤ 17179869184) ∧ ∀ t d, 0 ≤ passN t d s.2.2.2.1 ∧ passN t d s.2.2.2.1 ≤ 17179869184 := by
  have hb : ∀ x ∈ s.2.2.2.1, 0 ≤ x.2.1 ∧ x.2.1 ≤ 67108864 := fun x hx => ⟨by have := (h.su x hx).sum.1; omega, (h.su x hx).sum.2⟩
  have hl := h.len
  have k : ∀ P, 0 ≤ sumB P s.2.2.2.1 ∧ sumB P s.2.2.2.1 ≤ 17179869184 := fun P => by
    have := sumB_bd (P := P) hb
    omega
  have h1 := h.wf
  have h2 := k overB
  exact ⟨⟨h1.1, by unfold passedN at h1; omega⟩, k heldB, fun t d => k (goB t d)⟩
theorem okP_new {t : Int} (h0 : 0 ≤ t) (h1 : t ≤ 12000) : okP (0, 0, t, [], []) := ⟨⟨h0, h1⟩, by simp, by simp, fun x hx => by simp at hx, by simp, by simp [passedN, sumB]⟩
theorem notes_act (s : PS) (a : Ac) : (actI s a).1.2.2.2.2.length ≤ s.2.2.2.2.length + 1 := by
  unfold actI sellI payI passI giveI
  repeat' split
  all_goals simp [noted]
end Go.P7
