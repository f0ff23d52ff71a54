/- Scales: what each list of results means; fewer weighings cannot tell: plain. No conditions. -/
import Derived.Test.YtfenogdjhadcoaaScaS
set_option linter.all false
set_option maxRecDepth 100000
set_option maxHeartbeats 2000000
namespace Go.P8
open Go.Lom Go.Proofs Go
abbrev CM : Type := List (R4 × (Int × Int))
theorem r4_ext {a b : R4} (h0 : a.1 = b.1) (h1 : a.2.1 = b.2.1) (h2 : a.2.2.1 = b.2.2.1) (h3 : a.2.2.2 = b.2.2.2) : a = b := by
 obtain ⟨a0, a1, a2, a3⟩ := a
 obtain ⟨b0, b1, b2, b3⟩ := b
 simp only at h0 h1 h2 h3
 subst h0 h1 h2 h3; rfl
theorem eqT4 {a b : R4} : Lom.eqT TR4 a b = true ↔ a = b := by
 show ((a.1 == b.1 && (a.2.1 == b.2.1 && (a.2.2.1 == b.2.2.1 && a.2.2.2 == b.2.2.2))) = true) ↔ _
 simp only [Bool.and_eq_true, beq_iff_eq]
 constructor
 ·rintro ⟨h0, h1, h2, h3⟩; exact r4_ext h0 h1 h2 h3
 ·rintro rfl; exact ⟨rfl, rfl, rfl, rfl⟩
def gt4 (l : CM) (k : R4) : Option (Int × Int) := tmGet TR4 l k
theorem find_sh (k : R4) : ∀ (l : CM) (i j : Nat), (tmFind TR4 k l i).map (·.2) = (tmFind TR4 k l j).map (·.2)
 | [], i, j => rfl
 | (x, v) :: l, i, j => by
  unfold tmFind
  split
  ·rfl
  ·exact find_sh k l _ _
theorem gt_cons (x : R4) (v : Int × Int) (l : CM) (k : R4) : gt4 ((x, v) :: l) k = if k = x then some v else gt4 l k := by
 unfold gt4 tmGet
 rw [tmFind]
 by_cases e : k = x
 ·rw [if_pos (eqT4.2 e), if_pos e]; rfl
 ·rw [if_neg fun h => e (eqT4.1 h), if_neg e]; exact find_sh _ _ _ _
theorem gt_nil (k : R4) : gt4 [] k = none := rfl
theorem gt_app (k : R4) : ∀ l m : CM, gt4 (l ++ m) k = (gt4 l k).or (gt4 m k)
 | [], m => by rw [List.nil_append, gt_nil]; rfl
 | (x, v) :: l, m => by
  rw [List.cons_append, gt_cons, gt_cons]
  split
  ·rfl
  ·exact gt_app k l m
theorem put4 {l : CM} {k : R4} {v : Int × Int} (h : gt4 l k = none) : tmPut TR4 l k v = l ++ [(k, v)] := by
 unfold tmPut
 unfold gt4 tmGet at h
 rw [Option.map_eq_none_iff] at h
 rw [h]
theorem gt_new {l : CM} {x : R4} {v : Int × Int} (h : gt4 l x = none) : gt4 (l ++ [(x, v)]) x = some v := by
 rw [gt_app, h, gt_cons, if_pos rfl]; rfl
theorem gt_old {l m : CM} {x : R4} {v : Int × Int} (h : gt4 l x = some v) : gt4 (l ++ m) x = some v := by
 rw [gt_app, h]; rfl
def cellP (p : List (List Int)) (c : Int) (i : Nat) (x : Int) : Int := if i < p.length then (p.getD i []).getD c.toNat 0 else x
def rowR (p : List (List Int)) (c : Int) : R4 := (cellP p c 0 0, cellP p c 1 0, cellP p c 2 0, cellP p c 3 0)
def putC (x : R4) (c s : Int) (l : CM) : Option CM := if (gt4 l (mulR x s)).isSome = true then none else some (l ++ [(mulR x s, (c, s))])
def stepC (p : List (List Int)) (c : Int) (l : CM) : Option CM := (putC (rowR p c) c 1 l).bind (putC (rowR p c) c (-1))
def casesC (p : List (List Int)) : Nat -> Int -> CM -> Option CM
 | 0, _, l => some l
 | k + 1, c, l => (stepC p c l).bind (casesC p k (c + 1))
def casesT (n : Int) (p : List (List Int)) : Option CM := casesC p n.toNat 0 [(zR, (-1, 0))]
theorem putC_some {x : R4} {c s : Int} {l m : CM} (h : putC x c s l = some m) : gt4 m (mulR x s) = some (c, s) /\ ∀ k v, gt4 l k = some v -> gt4 m k = some v := by
 unfold putC at h
 split at h
 ·cases h
 ·rename_i hn
  injection h with h; subst h
  have hn : gt4 l (mulR x s) = none := by
   cases e : gt4 l (mulR x s) with
   | none => rfl
   | some v => rw [e] at hn; exact absurd rfl hn
  exact ⟨gt_new hn, fun k v hk => gt_old hk⟩
theorem stepC_some {p : List (List Int)} {c : Int} {l m : CM} (h : stepC p c l = some m) : gt4 m (mulR (rowR p c) 1) = some (c, 1) /\ gt4 m (mulR (rowR p c) (-1)) = some (c, -1) /\ ∀ k v, gt4 l k = some v -> gt4 m k = some v := by
 unfold stepC at h
 rw [Option.bind_eq_some_iff] at h
 obtain ⟨a, h1, h2⟩ := h
 obtain ⟨g1, k1⟩ := putC_some h1
 obtain ⟨g2, k2⟩ := putC_some h2
 exact ⟨k2 _ _ g1, g2, fun k v hk => k2 _ _ (k1 _ _ hk)⟩
theorem cases_spec (p : List (List Int)) : ∀ (k : Nat) (c : Int) (l m : CM), casesC p k c l = some m -> (∀ x v, gt4 l x = some v -> gt4 m x = some v) /\ ∀ j, c <= j -> j < c + k -> gt4 m (mulR (rowR p j) 1) = some (j, 1) /\ gt4 m (mulR (rowR p j) (-1)) = some (j, -1)
 | 0, c, l, m, h => by
  injection h with h; subst h
  exact ⟨fun _ _ h => h, fun j h1 h2 => by omega⟩
 | k + 1, c, l, m, h => by
  rw [casesC, Option.bind_eq_some_iff] at h
  obtain ⟨a, h1, h2⟩ := h
  obtain ⟨g1, g2, g3⟩ := stepC_some h1
  obtain ⟨k1, k2⟩ := cases_spec p k (c + 1) a m h2
  refine ⟨fun x v hx => k1 _ _ (g3 _ _ hx), fun j h1 h2 => ?_⟩
  by_cases e : j = c
  ·rw [e]; exact ⟨k1 _ _ g1, k1 _ _ g2⟩
  ·exact k2 j (by omega) (by omega)
theorem casesT_spec {n : Int} {p : List (List Int)} {m : CM} (h : casesT n p = some m) : gt4 m zR = some (-1, 0) /\ ∀ j, 0 <= j -> j < n -> ∀ s, s = 1 \/ s = -1 -> gt4 m (mulR (rowR p j) s) = some (j, s) := by
 obtain ⟨h1, h2⟩ := cases_spec p _ _ _ _ h
 refine ⟨h1 _ _ (by rw [gt_cons, if_pos rfl]), fun j j0 jn s hs => ?_⟩
 have := h2 j j0 (by omega)
 rcases hs with rfl | rfl
 ·exact this.1
 ·exact this.2
def rowOk (n : Int) (l : List Int) : Prop := (l.length : Int) = n /\ (∀ x ∈ l, -1 <= x /\ x <= 1) /\ l.sum = 0
def planOk (n : Int) (p : List (List Int)) : Prop := (1 <= p.length /\ p.length <= 4) /\ ∀ l ∈ p, rowOk n l
instance (n : Int) (l : List Int) : Decidable (rowOk n l) := by unfold rowOk; infer_instance
instance (n : Int) (p : List (List Int)) : Decidable (planOk n p) := by unfold planOk; infer_instance
theorem getD_mem {α : Type} {l : List α} {i : Nat} {d : α} (h : i < l.length) : l.getD i d ∈ l := by
 rw [List.getD_eq_getElem?_getD, List.getElem?_eq_getElem h]; exact List.getElem_mem h
theorem getD_cell {n : Int} {l : List Int} (h : rowOk n l) (i : Nat) : -1 <= l.getD i 0 /\ l.getD i 0 <= 1 := by
 by_cases hi : i < l.length
 ·exact h.2.1 _ (getD_mem hi)
 ·rw [List.getD_eq_getElem?_getD, List.getElem?_eq_none (by omega)]; exact ⟨by decide, by decide⟩
theorem cell_bd {n : Int} {p : List (List Int)} (h : planOk n p) (c : Int) (i : Nat) : -1 <= cellP p c i 0 /\ cellP p c i 0 <= 1 := by
 unfold cellP
 split
 ·rename_i hi
  exact getD_cell (h.2 _ (getD_mem hi)) _
 ·exact ⟨by decide, by decide⟩
theorem row_sm {n : Int} {p : List (List Int)} (h : planOk n p) (c : Int) : smR 1 (rowR p c) := ⟨cell_bd h c 0, cell_bd h c 1, cell_bd h c 2, cell_bd h c 3⟩
theorem dist {n : Int} {p : List (List Int)} {m : CM} (h : casesT n p = some m) {j k s t : Int} (j0 : 0 <= j) (jn : j < n) (k0 : 0 <= k) (kn : k < n) (hs : s = 1 \/ s = -1) (ht : t = 1 \/ t = -1) (he : mulR (rowR p j) s = mulR (rowR p k) t) : j = k /\ s = t := by
 obtain ⟨-, h2⟩ := casesT_spec h
 have a := h2 j j0 jn s hs
 rw [he, h2 k k0 kn t ht] at a
 injection a with a; injection a with a b
 exact ⟨a.symm, b.symm⟩
theorem dist0 {n : Int} {p : List (List Int)} {m : CM} (h : casesT n p = some m) {j : Int} (j0 : 0 <= j) (jn : j < n) : mulR (rowR p j) 1 ≠ zR := fun he => by
 obtain ⟨h1, h2⟩ := casesT_spec h
 have a := h2 j j0 jn 1 (Or.inl rfl)
 rw [he, h1] at a
 injection a with a; injection a with a b
 omega
theorem one_few {n : Int} {p : List (List Int)} (hn : 3 <= n) (hp : planOk n p) (h1 : p.length = 1) : casesT n p = none := by
 cases h : casesT n p with
 | none => rfl
 | some m =>
  exfalso
  have e : ∀ c, rowR p c = (cellP p c 0 0, 0, 0, 0) := fun c => by
   unfold rowR
   have : ∀ i, 1 <= i -> cellP p c i 0 = 0 := fun i hi => by unfold cellP; rw [if_neg (by omega)]
   rw [this 1 (by omega), this 2 (by omega), this 3 (by omega)]
  have b0 := cell_bd hp 0 0
  have b1 := cell_bd hp 1 0
  have d0 := dist0 h (j := 0) (by omega) (by omega)
  have d1 := dist0 h (j := 1) (by omega) (by omega)
  have d2 : mulR (rowR p 0) 1 ≠ mulR (rowR p 1) 1 := fun x => by
   have := (dist h (by omega) (by omega) (by omega) (by omega) (Or.inl rfl) (Or.inl rfl) x).1; omega
  have d3 : mulR (rowR p 0) 1 ≠ mulR (rowR p 1) (-1) := fun x => by
   have := (dist h (by omega) (by omega) (by omega) (by omega) (Or.inl rfl) (Or.inr rfl) x).1; omega
  rw [e] at d0 d1
  rw [e, e] at d2 d3
  generalize cellP p 0 0 0 = x at *
  generalize cellP p 1 0 0 = y at *
  have hx : x = -1 \/ x = 0 \/ x = 1 := by omega
  have hy : y = -1 \/ y = 0 \/ y = 1 := by omega
  rcases hx with rfl | rfl | rfl <;> rcases hy with rfl | rfl | rfl <;> first | exact d0 rfl | exact d1 rfl | exact d2 rfl | exact d3 rfl
def V9 : List (Int × Int) := [(-1, -1), (-1, 0), (-1, 1), (0, -1), (0, 0), (0, 1), (1, -1), (1, 0), (1, 1)]
def opp (a b : Int × Int) : Bool := a == b || a == (-b.1, -b.2)
theorem two_tab : (V9.all fun a => opp a (0, 0) || V9.all fun b => opp b (0, 0) || (opp a b || V9.all fun c => opp c (0, 0) || (opp a c || (opp b c || V9.all fun d => opp d (0, 0) || (opp a d || (opp b d || (opp c d || (a.1 + b.1 + c.1 + d.1 != 0 && V9.all fun e => opp e (0, 0) || (opp a e || (opp b e || (opp c e || opp d e))))))))))) = true := by decide +kernel
theorem v9_mem {x y : Int} (hx : -1 <= x /\ x <= 1) (hy : -1 <= y /\ y <= 1) : (x, y) ∈ V9 := by
 have hx : x = -1 \/ x = 0 \/ x = 1 := by omega
 have hy : y = -1 \/ y = 0 \/ y = 1 := by omega
 rcases hx with rfl | rfl | rfl <;> rcases hy with rfl | rfl | rfl <;> decide
theorem two_few {n : Int} {p : List (List Int)} (hn : 4 <= n) (hp : planOk n p) (h1 : p.length = 2) : casesT n p = none := by
 cases h : casesT n p with
 | none => rfl
 | some m =>
  exfalso
  have e : ∀ c, rowR p c = (cellP p c 0 0, cellP p c 1 0, 0, 0) := fun c => by
   unfold rowR
   have : ∀ i, 2 <= i -> cellP p c i 0 = 0 := fun i hi => by unfold cellP; rw [if_neg (by omega)]
   rw [this 2 (by omega), this 3 (by omega)]
  have nz : ∀ c, 0 <= c -> c < n -> opp (cellP p c 0 0, cellP p c 1 0) (0, 0) = false := fun c c0 cn => by
   have := dist0 h c0 cn
   rw [e] at this
   cases ho : opp (cellP p c 0 0, cellP p c 1 0) (0, 0) with
   | false => rfl
   | true =>
    refine absurd ?_ this
    simp only [opp, Bool.or_eq_true, beq_iff_eq, Prod.mk.injEq] at ho
    have : cellP p c 0 0 = 0 /\ cellP p c 1 0 = 0 := by omega
    rw [this.1, this.2]; rfl
  have nd : ∀ c d, 0 <= c -> c < d -> d < n -> opp (cellP p c 0 0, cellP p c 1 0) (cellP p d 0 0, cellP p d 1 0) = false := fun c d c0 cd dn => by
   cases ho : opp (cellP p c 0 0, cellP p c 1 0) (cellP p d 0 0, cellP p d 1 0) with
   | false => rfl
   | true =>
    exfalso
    simp only [opp, Bool.or_eq_true, beq_iff_eq, Prod.mk.injEq] at ho
    rcases ho with ho | ho
    ·have := (dist h c0 (by omega) (by omega) dn (Or.inl rfl) (Or.inl rfl) (by rw [e, e, ho.1, ho.2])).1
     omega
    ·have := (dist h c0 (by omega) (by omega) dn (Or.inl rfl) (Or.inr rfl) (by
      rw [e, e, ho.1, ho.2]; unfold mulR
      simp only [Int.mul_one, Int.zero_mul, Int.mul_neg, Int.neg_zero])).1
     omega
  have vm : ∀ c, (cellP p c 0 0, cellP p c 1 0) ∈ V9 := fun c => v9_mem (cell_bd hp c 0) (cell_bd hp c 1)
  have T := two_tab
  have T := List.all_eq_true.1 T _ (vm 0)
  rw [nz 0 (by omega) (by omega), Bool.false_or] at T
  have T := List.all_eq_true.1 T _ (vm 1)
  rw [nz 1 (by omega) (by omega), nd 0 1 (by omega) (by omega) (by omega), Bool.false_or, Bool.false_or] at T
  have T := List.all_eq_true.1 T _ (vm 2)
  rw [nz 2 (by omega) (by omega), nd 0 2 (by omega) (by omega) (by omega), nd 1 2 (by omega) (by omega) (by omega), Bool.false_or, Bool.false_or, Bool.false_or] at T
  have T := List.all_eq_true.1 T _ (vm 3)
  rw [nz 3 (by omega) (by omega), nd 0 3 (by omega) (by omega) (by omega), nd 1 3 (by omega) (by omega) (by omega), nd 2 3 (by omega) (by omega) (by omega), Bool.false_or, Bool.false_or, Bool.false_or, Bool.false_or, Bool.and_eq_true] at T
  obtain ⟨T1, T2⟩ := T
  by_cases h4 : n = 4
  ·have hr := hp.2 (p.getD 0 []) (getD_mem (by omega))
   obtain ⟨r1, r2, r3⟩ := hr
   have c : ∀ c : Int, cellP p c 0 0 = (p.getD 0 []).getD c.toNat 0 := fun c => by unfold cellP; rw [if_pos (by omega)]
   simp only [c] at T1
   generalize p.getD 0 [] = l at *
   match l, r1, r3, T1 with
   | [a, b, c, d], _, r3, T1 =>
    simp only [List.sum_cons, List.sum_nil] at r3
    have T1 : (a + b + c + d != 0) = true := T1
    rw [bne_iff_ne] at T1
    omega
   | [], r1, _, _ => simp at r1; omega
   | [_], r1, _, _ => simp at r1; omega
   | [_, _], r1, _, _ => simp at r1; omega
   | [_, _, _], r1, _, _ => simp at r1; omega
   | _ :: _ :: _ :: _ :: _ :: l, r1, _, _ => simp only [List.length_cons] at r1; omega
  ·have T := List.all_eq_true.1 T2 _ (vm 4)
   rw [nz 4 (by omega) (by omega), nd 0 4 (by omega) (by omega) (by omega), nd 1 4 (by omega) (by omega) (by omega), nd 2 4 (by omega) (by omega) (by omega), nd 3 4 (by omega) (by omega) (by omega)] at T
   cases T
theorem few_not {n : Int} {p : List (List Int)} (hn : 3 <= n) (hp : planOk n p) (h : (p.length : Int) < manyT n) : casesT n p = none := by
 have := hp.1
 unfold manyT at h
 split at h
 ·exact one_few hn hp (by omega)
 ·by_cases c : p.length = 1
  ·exact one_few hn hp c
  ·exact two_few (by omega) hp (by omega)
theorem weigh_tab : ∀ k : Fin 10, let n : Int := (k.val : Int) + 3; planOk n (weighT n) /\ (casesT n (weighT n)).isSome = true /\ ((weighT n).length : Int) = manyT n := by decide +kernel
theorem weigh_at {n : Int} (h0 : 3 <= n) (h1 : n <= 12) : planOk n (weighT n) /\ (casesT n (weighT n)).isSome = true /\ ((weighT n).length : Int) = manyT n := by
 have := weigh_tab ⟨(n - 3).toNat, by omega⟩
 have e : (((n - 3).toNat : Nat) : Int) + 3 = n := by omega
 dsimp only at this
 rw [e] at this
 exact this
end Go.P8
