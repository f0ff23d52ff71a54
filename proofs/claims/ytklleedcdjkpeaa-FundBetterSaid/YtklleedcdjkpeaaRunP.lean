/- Funds: runs that are allowed, the law of runs: the code keeps its contracts. No conditions. -/
import Derived.Test.YtklleedcdjkpeaaRunS
import Derived.Test.YtklleedcdjkpeaaStartsP
import Derived.Test.YtklleedcdjkpeaaWorks
set_option linter.constructorNameAsVariable false
set_option linter.unusedVariables false
set_option linter.unusedSimpArgs false
set_option maxRecDepth 100000
namespace Go.P9
open Go.Lom Go.Proofs Go

theorem chkE_ne {f : Fd} : (chkE f != 0) = !okF f := by unfold chkE; cases okF f <;> rfl
theorem startsL_len (f : Fd) (l : List Int) : (startsL f l).length = (fGroups f).length := by unfold startsL; rw [passN_len, initD_len]

/-! runs -/
theorem range_get {n : Nat} {i : Int} (h0 : 0 ≤ i) (h : i < n) : (List.range n).getD i.toNat 0 = i.toNat := by
  rw [List.getD_eq_getElem?_getD, List.getElem?_range (by omega)]; rfl
theorem cellOk_iff {g : Grp} {st d n : Int} (hg : grpOk g = true) : cellOk g st d n = true ↔ (0 ≤ n ∧ n ≤ g.2.1) ∧ (n > 0 → ¬ st < 0 ∧ ¬ d < st + g.2.2) := by
  have := grpOk_iff.1 hg
  unfold cellOk mayI
  rw [decide_eq_true_eq]
  split
  · rename_i h
    constructor
    · intro ⟨a, b⟩; exact ⟨⟨a, by omega⟩, fun c => by omega⟩
    · intro ⟨⟨a, b⟩, c⟩
      refine ⟨a, ?_⟩
      by_cases e : n > 0
      · have := c e; omega
      · omega
  · rename_i h
    constructor
    · intro ⟨a, b⟩; exact ⟨⟨a, b⟩, fun c => by omega⟩
    · intro ⟨⟨a, b⟩, c⟩; exact ⟨a, b⟩
/-- Sums of what is allowed fit. -/
theorem fit_of : ∀ (l : List Int) (n : Int), (∀ x ∈ l, 0 ≤ x ∧ x ≤ 1073741824) → 0 ≤ n → n + 1073741824 * (l.length : Int) ≤ 1000000000000000 → fitS n l
  | [], n, _, h0, h => by
    simp only [fitS]; exact inR_i64.2 (by simp at h; omega)
  | x :: l, n, hx, h0, h => by
    have := hx x (List.mem_cons_self ..)
    have hl : ((x :: l).length : Int) = l.length + 1 := by simp
    simp only [fitS]
    exact ⟨inR_i64.2 (by omega), fit_of l (n + x) (fun y hy => hx y (List.mem_cons_of_mem _ hy)) (by omega) (by omega)⟩
theorem cells_in {g : Grp} {st : Int} {row : List Int} (hg : grpOk g = true) (h : cellsOk g st row 0 = true) : ∀ x ∈ row, 0 ≤ x ∧ x ≤ 1073741824 := by
  intro x hx
  obtain ⟨i, hi, rfl⟩ := List.getElem_of_mem hx
  have h1 := List.all_eq_true.1 h i (by simpa using hi)
  have h2 := (cellOk_iff hg).1 h1
  have e : row.getD i 0 = row[i] := by simp [List.getD_eq_getElem?_getD, hi]
  rw [e] at h2
  have := grpOk_iff.1 hg
  omega
theorem grp_at {f : Fd} (h : okF f = true) {i : Int} (h0 : 0 ≤ i) (h1 : i < (fGroups f).length) : grpOk ((fGroups f).getD i.toNat (0, 0, 0)) = true :=
  List.all_eq_true.1 (okF_parts h).2.2.2.1 _ (by simp [List.getD_eq_getElem?_getD, show i.toNat < (fGroups f).length by omega])
theorem rowOk_iff {f : Fd} {s : List Int} {i : Nat} {row : List Int} : rowOk f s i row = true ↔ row.length = (fIn f).length ∧ cellsOk ((fGroups f).getD i (0, 0, 0)) (s.getD i 0) row 0 = true ∧ row.sum ≤ ((fGroups f).getD i (0, 0, 0)).1 := by
  unfold rowOk; simp only [Bool.and_eq_true, decide_eq_true_eq]
theorem bne_len {a b : Nat} : (((a : Nat) : Int) != b) = true ↔ ¬ a = b := by rw [bne_iff_ne, ne_eq, Int.ofNat_inj]
theorem bne_len' {a b : Nat} : (((a : Nat) : Int) != b) = false ↔ a = b := by rw [bne_eq_false_iff_eq, Int.ofNat_inj]
theorem startsL_inv {f : Fd} (h : okF f = true) (l : List Int) : InvD (startsL f l) := passN_inv _ _ (initD_inv l (okF_n h)) (by rw [initD_len]; exact okF_ws h)
theorem startsL_ok {f : Fd} (h : okF f = true) (l : List Int) {k : Int} (h0 : 0 ≤ k) (h1 : k < (fGroups f).length) : sOk (startsL f l) k := (startsL_inv h l).at (by rw [startsL_len]; omega) 0
theorem take_getD {r t : List Int} {n : Nat} (h : r.take n = t) (k : Nat) (hk : k < n) : r.getD k 0 = t.getD k 0 := by
  subst h
  rw [List.getD_eq_getElem?_getD, List.getD_eq_getElem?_getD, List.getElem?_take_of_lt hk]
theorem okWorks' : FnOk Try.prog 19 fcWorks := okWorks
end Go.P9
