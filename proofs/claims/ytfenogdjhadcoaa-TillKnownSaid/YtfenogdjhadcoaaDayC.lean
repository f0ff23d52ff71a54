/- Compact of a sorted list, what is left without a number: plain laws. No conditions. -/
import Derived.Test.YtfenogdjhadcoaaDayE
import Derived.Test.YtfenogdjhadcoaaCompB
set_option linter.all false
namespace Go.P8
open Go.Lib
theorem bang_get {zs : List Int} {j : Nat} (h : j < zs.length) : zs.toArray[j]! = zs[j] := by simp [h]
theorem comp_up {zs : List Int} (hs : ∀ i j, i <= j -> j < zs.length -> zs.toArray[i]! <= zs.toArray[j]!) : ∀ m, m <= zs.length -> strictI (compactUpTo zs.toArray m) /\ ∀ y, y ∈ compactUpTo zs.toArray m ↔ ∃ j, j < m /\ zs.toArray[j]! = y
 | 0, _ => ⟨List.Pairwise.nil, fun y => ⟨fun h => by simp [compactUpTo] at h, fun ⟨j, h, _⟩ => by omega⟩⟩
 | m + 1, hm => by
  obtain ⟨h1, h2⟩ := comp_up hs m (by omega)
  rw [compactUpTo_succ]
  by_cases hk : keeps zs.toArray m = true
  ·rw [if_pos hk]
   have hk' : m = 0 \/ zs.toArray[m]! ≠ zs.toArray[m - 1]! := of_decide_eq_true hk
   refine ⟨?_, fun y => ?_⟩
   ·refine List.pairwise_append.2 ⟨h1, List.pairwise_singleton _ _, fun a ha b hb => ?_⟩
    obtain ⟨j, hj, rfl⟩ := (h2 a).1 ha
    have hb : b = zs.toArray[m]! := by simpa using hb
    subst hb
    have := hs j (m - 1) (by omega) (by omega)
    have := hs (m - 1) m (by omega) (by omega)
    rcases hk' with e | e
    ·omega
    ·omega
   ·rw [List.mem_append, h2 y]
    constructor
    ·rintro (⟨j, hj, e⟩ | e)
     ·exact ⟨j, by omega, e⟩
     ·have e : y = zs.toArray[m]! := by simpa using e
      exact ⟨m, by omega, e.symm⟩
    ·rintro ⟨j, hj, e⟩
     by_cases c : j = m
     ·subst c; right; simp [e]
     ·exact .inl ⟨j, by omega, e⟩
  ·rw [if_neg hk, List.append_nil]
   have hk' : ¬ (m = 0 \/ zs.toArray[m]! ≠ zs.toArray[m - 1]!) := fun c => hk (decide_eq_true c)
   have hm0 : m ≠ 0 := fun c => hk' (.inl c)
   have he : zs.toArray[m]! = zs.toArray[m - 1]! := Decidable.byContradiction fun c => hk' (.inr c)
   refine ⟨h1, fun y => (h2 y).trans ⟨fun ⟨j, hj, e⟩ => ⟨j, by omega, e⟩, fun ⟨j, hj, e⟩ => ?_⟩⟩
   by_cases c : j = m
   ·subst c; exact ⟨j - 1, by omega, by rw [<- he]; exact e⟩
   ·exact ⟨j, by omega, e⟩
theorem sort_le {xs : List Int} : ∀ i j, i <= j -> j < (sortI xs).length -> (sortI xs).toArray[i]! <= (sortI xs).toArray[j]! := fun i j h1 h2 => by
 have hp : (sortI xs).Pairwise fun x y => decide (x <= y) = true := List.pairwise_mergeSort (fun a b c h1 h2 => by simp at h1 h2 ⊢; omega) (fun a b => by simp; omega) xs
 rw [bang_get h2, bang_get (show i < (sortI xs).length by omega)]
 by_cases e : i = j
 ·subst e; exact Int.le_refl _
 ·have := List.pairwise_iff_getElem.1 hp i j (by omega) h2 (by omega)
  exact of_decide_eq_true this
theorem comp_sort (xs : List Int) : strictI (compI (sortI xs)) /\ ∀ y, y ∈ compI (sortI xs) ↔ y ∈ xs := by
 obtain ⟨h1, h2⟩ := comp_up (zs := sortI xs) sort_le (sortI xs).length (Nat.le_refl _)
 refine ⟨h1, fun y => (h2 y).trans ?_⟩
 rw [<- (List.mergeSort_perm xs fun x y => decide (x <= y)).mem_iff, List.mem_iff_getElem]
 exact ⟨fun ⟨j, hj, e⟩ => ⟨j, hj, by rw [<- bang_get hj]; exact e⟩, fun ⟨j, hj, e⟩ => ⟨j, hj, by rw [bang_get hj]; exact e⟩⟩
theorem comp_ne {xs : List Int} (h : 0 < xs.length) : 0 < (compI (sortI xs)).length := by
 obtain ⟨x, hx⟩ : ∃ x, x ∈ xs := ⟨xs[0], List.getElem_mem h⟩
 exact List.length_pos_of_mem (((comp_sort xs).2 x).2 hx)
theorem really_eq (s : Int) {xs : List Int} (h : ∀ y, y ∈ xs ↔ y ∈ realsI s) : (compI (sortI xs)).filter (fun x => decide (x ≠ s)) = reallyI s := by
 obtain ⟨h1, h2⟩ := comp_sort xs
 refine strict_ext (h1.filter _) (really_strict s) fun y => ?_
 rw [List.mem_filter, h2, really_mem, h, decide_eq_true_eq]
end Go.P8
