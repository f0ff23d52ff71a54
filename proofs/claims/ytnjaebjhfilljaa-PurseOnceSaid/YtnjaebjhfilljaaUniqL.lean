/- Fair shares are the only ones: what is fair and has the sum is what the shares are; a greater sum, a greater weight, some alone. No conditions. -/
import Derived.Test.YtnjaebjhfilljaaFairL
set_option linter.constructorNameAsVariable false
set_option linter.unusedVariables false
set_option linter.unusedSimpArgs false
namespace Go.P7
open Go.Lom Go.Proofs Go

/-- Two fair shares don't cross, where the one's weight did not fall, and the other's did not rise. -/
theorem cross {w v l m : List Int} (hl : fairs w l) (hm : fairs v m) {i k : Nat} (hi : i < w.length) (hk : k < w.length) (hlen : v.length = w.length) (h0 : ∀ k : Nat, 0 ≤ w.getD k 0) (h1 : l.getD i 0 > m.getD i 0) (h2 : m.getD k 0 > l.getD k 0) (hv : w.getD i 0 ≤ v.getD i 0) (hw : v.getD k 0 ≤ w.getD k 0) : False := by
  have hne : i ≠ k := fun e => by subst e; omega
  have a1 := hm.2.1 i
  have a2 := hl.2.1 k
  have f1 := hl.2.2.2 i k hi hk hne (by omega)
  have f2 := hm.2.2.2 k i (by omega) (by omega) (fun e => hne e.symm) (by omega)
  have g1 := h0 i
  have g2 := h0 k
  generalize w.getD i 0 = wi at *
  generalize v.getD i 0 = vi at *
  generalize w.getD k 0 = wk at *
  generalize v.getD k 0 = vk at *
  generalize l.getD i 0 = li at *
  generalize l.getD k 0 = lk at *
  generalize m.getD i 0 = mi at *
  generalize m.getD k 0 = mk at *
  -- wi (lk+1) >= wk li ; vk (mi+1) >= vi mk
  have e1 : wi * (lk + 1) ≤ wi * mk := Int.mul_le_mul_of_nonneg_left (by omega) g1
  have e2 : wi * mk ≤ vi * mk := Int.mul_le_mul_of_nonneg_right hv (by omega)
  have e3 : vk * (mi + 1) ≤ wk * (mi + 1) := Int.mul_le_mul_of_nonneg_right hw (by omega)
  have e4 : wk * (mi + 1) ≤ wk * li := Int.mul_le_mul_of_nonneg_left (by omega) g2
  omega
theorem other_more {l m : List Int} (hlen : l.length = m.length) (hs : l.sum ≤ m.sum) {i : Nat} (hi : i < l.length) (h : l.getD i 0 > m.getD i 0) : ∃ k, k < l.length ∧ m.getD k 0 > l.getD k 0 := by
  by_cases hall : ∀ k : Nat, k < m.length → m.getD k 0 ≤ l.getD k 0
  · have := sum_lt_getD i hlen.symm hall (by omega) h; omega
  · obtain ⟨k, hk⟩ := Classical.not_forall.1 hall
    obtain ⟨hk, hlt⟩ := Classical.not_imp.1 hk
    exact ⟨k, by omega, by omega⟩
theorem more_sum {w l m : List Int} (hl : fairs w l) (hm : fairs w m) (h0 : ∀ k : Nat, 0 ≤ w.getD k 0) (hs : l.sum ≤ m.sum) (i : Nat) (hi : i < w.length) : l.getD i 0 ≤ m.getD i 0 := by
  by_cases h : l.getD i 0 > m.getD i 0
  · obtain ⟨k, hk, hgt⟩ := other_more (by rw [hl.1, hm.1]) hs (by rw [hl.1]; exact hi) h
    exact (cross hl hm hi (by rw [← hl.1]; exact hk) rfl h0 h hgt (Int.le_refl _) (Int.le_refl _)).elim
  · omega
theorem uniq {w l m : List Int} (hl : fairs w l) (hm : fairs w m) (h0 : ∀ k : Nat, 0 ≤ w.getD k 0) (hs : l.sum = m.sum) : l = m := by
  apply List.ext_getElem (by rw [hl.1, hm.1])
  intro i h1 h2
  have a := more_sum hl hm h0 (by omega) i (by rw [← hl.1]; exact h1)
  have b := more_sum hm hl h0 (by omega) i (by rw [← hl.1]; exact h1)
  simp only [List.getD_eq_getElem?_getD, List.getElem?_eq_getElem h1, List.getElem?_eq_getElem h2, Option.getD_some] at a b
  omega
end Go.P7
