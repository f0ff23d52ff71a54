/- Payments: what the reference counts is the same. No conditions. -/
import Derived.Test.YtfenogdjhadcoaaRefS8
import Derived.Test.YtfenogdjhadcoaaPayP
set_option linter.all false
namespace Go.P8
open Go.Lom Go.Proofs Go
theorem few_cons_is (x : Int × Int) (l : List (Int × Int)) (s : Int) : few (x :: l) s = 1073741824 \/ ∃ j, 0 <= j /\ j < ((min x.2 (s.tdiv x.1) + 1).toNat : Int) /\ few (x :: l) s = j + few l (s - j * x.1) := by
 rcases minF_is (few l) x.1 s (min x.2 (s.tdiv x.1) + 1).toNat 0 1073741824 with h | ⟨j, h1, h2, h3⟩
 ·exact .inl h
 ·exact .inr ⟨j, h1, by omega, h3⟩
theorem few_fin : ∀ (l : List (Int × Int)) (s : Int), (∀ x ∈ l, x.2 <= 100) -> few l s < 1073741824 -> few l s <= 100 * l.length
 | [], s, _, h => by
  unfold few at h ⊢
  split
  ·simp
  ·rename_i hs; rw [if_neg hs] at h; omega
 | x :: l, s, hx, h => by
  rcases few_cons_is x l s with e | ⟨j, h1, h2, h3⟩
  ·omega
  ·have ih := few_fin l (s - j * x.1) (fun y hy => hx y (List.mem_cons_of_mem _ hy)) (by omega)
   have := hx x List.mem_cons_self
   rw [h3, List.length_cons]
   push_cast
   omega
theorem lst_mem {cs hv : List Int} (h : okC cs hv) {k : Int} (h0 : 0 <= k) {x : Int × Int} (hx : x ∈ lst cs hv k) : (1 <= x.1 /\ x.1 <= cs.getD k.toNat 0) /\ x.2 <= 100 := by
 unfold lst at hx
 obtain ⟨i, hi, rfl⟩ := List.mem_iff_getElem.1 hx
 rw [List.length_drop, zip_len h] at hi
 rw [List.getElem_drop, List.getElem_zip]
 have hl := h.len.1
 have c := h.coins _ (List.getElem_mem (show k.toNat + i < cs.length by omega))
 have v := h.haves _ (List.getElem_mem (show k.toNat + i < hv.length by omega))
 refine ⟨⟨c.1, ?_⟩, v.2⟩
 have e : cs[k.toNat + i]'(by omega) = cs.getD (k.toNat + i) 0 := by rw [List.getD_eq_getElem?_getD, List.getElem?_eq_getElem (by omega)]; rfl
 simp only
 rw [e]
 by_cases hz : i = 0
 ·subst hz; exact Int.le_refl _
 ·have := h.dec k.toNat (k.toNat + i) (by omega) (by omega); omega
theorem lst_len {cs hv : List Int} (h : okC cs hv) (k : Int) : (lst cs hv k).length <= 8 := by
 unfold lst; rw [List.length_drop, zip_len h]; have := h.len.2; omega
theorem fewL_fin {cs hv : List Int} (h : okC cs hv) {k : Int} (h0 : 0 <= k) {s : Int} (hf : few (lst cs hv k) s < 1073741824) : few (lst cs hv k) s <= 800 := by
 have := few_fin (lst cs hv k) s (fun x hx => (lst_mem h h0 hx).2) hf
 have := lst_len h k
 omega
end Go.P8
