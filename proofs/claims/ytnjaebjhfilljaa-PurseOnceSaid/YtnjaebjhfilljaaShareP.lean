/- Sums and comparisons of lists: the code keeps its contracts. No conditions. -/
import Derived.Test.YtnjaebjhfilljaaShareS
set_option linter.constructorNameAsVariable false
set_option linter.unusedVariables false
set_option linter.unusedSimpArgs false
set_option maxRecDepth 100000
namespace Go.P7
open Go.Lom Go.Proofs Go

theorem drop_step {α : Type} (d : α) {l : List α} {i : Int} (h0 : 0 ≤ i) (h1 : i < l.length) : l.drop i.toNat = l.getD i.toNat d :: l.drop (i + 1).toNat := by
  have h : i.toNat < l.length := by omega
  rw [List.drop_eq_getElem_cons h, show (i + 1).toNat = i.toNat + 1 from by omega]
  simp [List.getD_eq_getElem?_getD, h]
theorem drop_end {α : Type} {l : List α} {i : Int} (h1 : ¬ i < l.length) : l.drop i.toNat = [] := List.drop_eq_nil_of_le (by omega)
theorem fitS_self {n : Int} {l : List Int} (h : fitS n l) : inR .i64 n = true := by cases l <;> simp only [fitS] at h <;> first | exact h | exact h.1

theorem okSumL : LpOk Try.prog 23 0 lcSum := lp_of (good_nil _) fun x Q hx =>
  have key : ∀ (l : List Int) (n i : Int), sSumL l n i Q → xloop Try.prog [] [] 5 23 0 lcSum (one shSum) (fun x => (x.1.length - x.2.2.1).toNat) (l, n, i, ()) Q := by
    intro l n i ⟨⟨h0, h1, h2, h3⟩, hQ⟩
    rw [vSumL]
    simp only [fork_iff, req_iff, decide_eq_true_eq, decide_eq_false_iff_not]
    refine ⟨fun hi => ?_, fun hi => ?_⟩
    · rw [drop_step 0 h0 hi] at h3 hQ
      refine ⟨⟨h0, hi⟩, fitS_self h3.2, inR_i64.2 (by omega), by omega, ⟨by omega, by omega, h2, h3.2⟩, ?_⟩
      rw [List.sum_cons, ← Int.add_assoc] at hQ
      exact hQ
    · rw [drop_end hi] at hQ
      have : i = l.length := by omega
      subst this
      simpa using hQ
  match x, hx with | (l, n, i, ()), hx => key l n i hx
theorem okSum : FnOk Try.prog 23 fcSum := fn_of ((good_nil _).addL okSumL) fun x K hx =>
  have key : ∀ l : List Int, sSum l (fun r => K (r, ())) → xfn Try.prog [] [(23, 0, lcSum)] 5 23 fcSum (l, ()) K := by
    intro l ⟨⟨h1, h2⟩, hK⟩
    rw [vSumF]
    refine ⟨⟨by omega, by omega, h1, h2⟩, ?_⟩
    simpa using hK
  match x, hx with | (l, ()), hx => key l hx

theorem okSum2L : LpOk Try.prog 80 0 lcSum2 := lp_of (good_nil _) fun x Q hx =>
  have key : ∀ (n : Int) (l : List Int) (m i : Int), sSum2L n l m i Q → xloop Try.prog [] [] 5 80 0 lcSum2 (one shSum2) (fun x => (x.2.1.length - x.2.2.2.1).toNat) (n, l, m, i, ()) Q := by
    intro n l m i ⟨⟨h0, h1, hm, h2, h3⟩, hQ⟩
    rw [vSum2L]
    subst hm
    simp only [fork_iff, req_iff, decide_eq_true_eq, decide_eq_false_iff_not]
    refine ⟨fun hi => ?_, fun hi => ?_⟩
    · rw [drop_step 0 h0 hi] at h3 hQ
      refine ⟨⟨h0, hi⟩, fitS_self h3.2, inR_i64.2 (by omega), by omega, ⟨by omega, by omega, trivial, h2, h3.2⟩, ?_⟩
      rw [List.sum_cons, ← Int.add_assoc] at hQ
      exact hQ
    · rw [drop_end hi] at hQ
      have : i = l.length := by omega
      subst this
      simpa using hQ
  match x, hx with | (n, l, m, i, ()), hx => key n l m i hx
theorem okSum2 : FnOk Try.prog 80 fcSum := fn_of ((good_nil _).addL okSum2L) fun x K hx =>
  have key : ∀ l : List Int, sSum l (fun r => K (r, ())) → xfn Try.prog [] [(80, 0, lcSum2)] 5 80 fcSum (l, ()) K := by
    intro l ⟨⟨h1, h2⟩, hK⟩
    rw [vSum2F]
    refine ⟨⟨by omega, by omega, rfl, h1, h2⟩, ?_⟩
    simpa using hK
  match x, hx with | (l, ()), hx => key l hx

theorem hSameL (a b : List Int) (ok : Bool) (i : Int) (Q : LQ) : sSameL a b ok i Q → xloop Try.prog [] [] 5 16 0 lcSame (one shSameE) (fun x => (x.1.length + 1 - x.2.2.2.1).toNat) (a, b, ok, i, ()) Q := by
    intro ⟨⟨h0, h1, h2⟩, hQ⟩
    rw [vSameL]
    simp only [fork_iff, req_iff, decide_eq_true_eq, decide_eq_false_iff_not]
    refine ⟨fun hok => ⟨fun hi => ?_, fun hi => ?_⟩, fun hok => ?_⟩
    · obtain ⟨g1, g2⟩ := h2 hok
      have hb : i < b.length := by omega
      refine ⟨⟨h0, hi⟩, ⟨h0, hb⟩, inR_i64.2 (by omega), by omega, ⟨by omega, h1, fun _ => ⟨g1, by omega⟩⟩, ?_⟩
      rw [drop_step 0 h0 hi, drop_step 0 h0 hb, hok] at hQ
      have e : (true && decide (a.getD i.toNat 0 :: a.drop (i + 1).toNat = b.getD i.toNat 0 :: b.drop (i + 1).toNat)) = (a.getD i.toNat 0 == b.getD i.toNat 0 && decide (a.drop (i + 1).toNat = b.drop (i + 1).toNat)) := by
        rw [Bool.true_and, Bool.eq_iff_iff]; simp
      rw [e] at hQ
      exact hQ
    · obtain ⟨g1, g2⟩ := h2 hok
      rw [drop_end hi, drop_end (show ¬ i < b.length by omega)] at hQ
      simpa using hQ
    · simpa [hok] using hQ
theorem okSameL : LpOk Try.prog 16 0 lcSame := lp_of (n := 5) (ex := one shSameE) (m := fun x => (x.1.length + 1 - x.2.2.2.1).toNat) (good_nil _) fun (a, b, ok, i, ()) Q hx => hSameL a b ok i Q hx
theorem hSameF (a b : List Int) (K : dens [.b] → Prop) : sSame a b (fun r => K (r, ())) → xfn Try.prog [] [(16, 0, lcSame)] 5 16 fcSame (a, b, ()) K := by
    intro ⟨h1, hK⟩
    rw [vSameF]
    refine ⟨⟨by omega, h1, fun h => ⟨by have := eq_of_beq h; omega, by omega⟩⟩, ?_⟩
    have e : (((a.length : Int) == b.length) && decide (a.drop 0 = b.drop 0)) = decide (a = b) := by
      rw [Bool.eq_iff_iff]; simp; intro h; rw [h]
    rw [e]; exact hK
theorem gSame : Go.Lom.Good Try.prog [] [(16, 0, lcSame)] := (good_nil _).addL okSameL
theorem okSame : FnOk Try.prog 16 fcSame := by
  refine fn_of (n := 5) gSame ?_
  intro x K hx
  obtain ⟨a, b, u⟩ := x
  exact hSameF a b K hx
end Go.P7
