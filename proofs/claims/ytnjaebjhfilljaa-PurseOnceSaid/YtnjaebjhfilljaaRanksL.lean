/- What spreading over ranks keeps: plain laws. No conditions. -/
import Derived.Test.YtnjaebjhfilljaaSpread5P
set_option linter.unusedSimpArgs false
set_option linter.unusedVariables false
set_option linter.constructorNameAsVariable false
namespace Go.P7
open Go.Lom Go.Proofs Go

abbrev rk (l : List (Int × Int)) (k : Nat) : Int := (l.getD k ((0 : Int), (0 : Int))).1
abbrev am (l : List (Int × Int)) (k : Nat) : Int := (l.getD k ((0 : Int), (0 : Int))).2
/-- What holds ahead of a rank. -/
structure Upto (l : List (Int × Int)) (s : Int) (r : Int) (out : List Int) (left : Int) : Prop where
  len : out.length = l.length
  rest : ∀ k : Nat, k < l.length → r ≤ rk l k → out.getD k 0 = 0
  rng : ∀ k : Nat, k < l.length → 0 ≤ out.getD k 0 ∧ out.getD k 0 ≤ am l k
  full : ∀ k : Nat, k < l.length → rk l k < r → out.getD k 0 < am l k → left = 0
  sum : out.sum + left = s
  order : ∀ i j : Nat, i < l.length → j < l.length → rk l j > rk l i → rk l i < r → out.getD i 0 < am l i → out.getD j 0 = 0
  left0 : 0 ≤ left ∧ left ≤ 34359738368

theorem validD_amt {l : List (Int × Int)} (h : validD l = true) (k : Nat) (hk : k < l.length) : (0 ≤ rk l k ∧ rk l k ≤ 9) ∧ 0 ≤ am l k ∧ am l k ≤ 67108864 := by
  simp only [validD, Bool.and_eq_true, decide_eq_true_eq] at h
  have := okD_iff.1 (List.all_eq_true.1 h.2 _ (List.getElem_mem hk))
  simp only [rk, am, List.getD_eq_getElem?_getD, List.getElem?_eq_getElem hk, Option.getD_some]
  exact this
theorem addL_sum : ∀ {a b : List Int}, b.length = a.length → (addL a b).sum = a.sum + b.sum
  | [], [], _ => rfl
  | [], _ :: _, h => by simp at h
  | _ :: _, [], h => by simp at h
  | x :: a, y :: b, h => by
    have := addL_sum (a := a) (b := b) (by simpa using h)
    unfold addL at this ⊢
    simp only [List.zipWith_cons_cons, List.sum_cons, this]; omega
theorem ownR_self {l : List (Int × Int)} {r : Int} {k : Nat} (hk : k < l.length) (h : rk l k = r) : (ownR l r).getD k 0 = am l k := by
  rw [ownR_getD l r k hk]; unfold amt; rw [if_pos h]
theorem part_facts {l : List (Int × Int)} (h : validD l = true) (r : Int) {left : Int} (h0 : 0 ≤ left) (h1 : left ≤ 34359738368) :
    (∀ k : Nat, k < l.length → 0 ≤ (partR l r left).getD k 0 ∧ (partR l r left).getD k 0 ≤ (ownR l r).getD k 0) ∧
    (∀ k : Nat, k < l.length → (partR l r left).getD k 0 < (ownR l r).getD k 0 → (partR l r left).sum = left) := by
  obtain ⟨g1, g2, g3⟩ := ownR_range h r
  obtain ⟨p1, p2, p3, p4, p5⟩ := partR_range h r h0 h1
  have pn : ∀ k : Nat, 0 ≤ (partR l r left).getD k 0 := fun k => getD_all (p := fun x => 0 ≤ x) (fun x hx => (p2 x hx).1) (Int.le_refl _) k
  unfold partR at *
  split
  · rename_i hgt
    rw [if_pos hgt] at pn p1 p4
    obtain ⟨f1, f2, f3⟩ := share_law (p5 hgt) h0
    refine ⟨fun k hk => ⟨pn k, ?_⟩, fun _ _ _ => f3⟩
    exact fairs_le (fun k => getD_all (p := fun x => 0 ≤ x) (fun x hx => (g3 x hx).1) (Int.le_refl _) k) f1 (by omega) k (by omega)
  · rename_i hle
    rw [if_neg hle] at pn
    exact ⟨fun k hk => ⟨pn k, Int.le_refl _⟩, fun k hk hlt => absurd hlt (Int.lt_irrefl _)⟩
theorem part_zero {l : List (Int × Int)} (h : validD l = true) (r : Int) (k : Nat) : (partR l r 0).getD k 0 = 0 := by
  obtain ⟨p1, p2, p3, p4, p5⟩ := partR_range h r (Int.le_refl 0) (by omega)
  exact getD_all (p := fun x => x = 0) (zeros_of_sum (fun x hx => (p2 x hx).1) (by omega)) rfl k
theorem upto_step {l : List (Int × Int)} (h : validD l = true) {s r left : Int} {out : List Int} (u : Upto l s r out left) : Upto l s (r + 1) (addL out (partR l r left)) (left - (partR l r left).sum) := by
  obtain ⟨p1, p2, p3, p4, p5⟩ := partR_range h r u.left0.1 u.left0.2
  obtain ⟨q1, q2⟩ := part_facts h r u.left0.1 u.left0.2
  have c3 := (part_pick h (r := r) u.left0.1 u.left0.2).2.2
  have l0 := u.left0
  have gd := fun k => addL_getD (a := out) (b := partR l r left) (by rw [p1, u.len]) k
  refine ⟨by simp [addL, p1, u.len], fun k hk hr => ?_, fun k hk => ?_, fun k hk hr hlt => ?_, ?_, fun i j hi hj hij hr hlt => ?_, by omega⟩
  · rw [gd, u.rest k hk (by omega), c3 k hk (by simp only [rk] at hr; omega)]; rfl
  · rw [gd]
    by_cases e : rk l k = r
    · have := q1 k hk; rw [ownR_self hk e] at this; rw [u.rest k hk (by omega)]; omega
    · rw [c3 k hk e]; have := u.rng k hk; omega
  · rw [gd] at hlt
    by_cases e : rk l k = r
    · rw [u.rest k hk (by omega)] at hlt
      have := q2 k hk (by rw [ownR_self hk e]; omega); omega
    · rw [c3 k hk e] at hlt
      have := u.full k hk (by omega) (by omega); subst this
      omega
  · rw [addL_sum (by rw [p1, u.len])]; have := u.sum; omega
  · rw [gd] at hlt ⊢
    by_cases e : rk l i = r
    · rw [u.rest j hj (by omega), c3 j hj (show rk l j ≠ r by omega)]; rfl
    · rw [c3 i hi e] at hlt
      rw [u.order i j hi hj hij (by omega) (by omega)]
      have := u.full i hi (by omega) (by omega); subst this
      rw [part_zero h]; rfl
theorem upto_all {l : List (Int × Int)} (h : validD l = true) {s : Int} : ∀ (n : Nat) (r left : Int) (out o : List Int) (s' : Int), Upto l s r out left → spreadN l n r out left = (o, s') → Upto l s (r + n) o s'
  | 0, r, left, out, o, s', u, hs => by
    simp only [spreadN, Prod.mk.injEq] at hs
    obtain ⟨rfl, rfl⟩ := hs
    simpa using u
  | n + 1, r, left, out, o, s', u, hs => by
    simp only [spreadN] at hs
    have := upto_all h n (r + 1) _ _ o s' (upto_step h u) hs
    rw [show r + ((n + 1 : Nat) : Int) = r + 1 + n from by omega]
    exact this
theorem upto_start {l : List (Int × Int)} (h : validD l = true) {s : Int} (h0 : 0 ≤ s) (h1 : s ≤ 34359738368) : Upto l s 0 (l.map fun _ => 0) s := by
  have z : ∀ k : Nat, (l.map fun _ => (0 : Int)).getD k 0 = 0 := fun k => by rw [map_zero]; simp [List.getD_eq_getElem?_getD, List.getElem?_replicate]; split <;> rfl
  have zs : ∀ l : List (Int × Int), (l.map fun _ => (0 : Int)).sum = 0 := fun l => by
    induction l with
    | nil => rfl
    | cons a l ih => rw [List.map_cons, List.sum_cons, ih]; rfl
  refine ⟨by simp, fun k _ _ => z k, fun k hk => by rw [z]; exact ⟨Int.le_refl _, (validD_amt h k hk).2.1⟩, fun k hk hr => by have := (validD_amt h k hk).1; omega, by rw [zs]; omega, fun i j hi hj _ hr => by have := (validD_amt h i hi).1; omega, h0, h1⟩

end Go.P7
