import Derived.Test.YtfbpaonmegmcgaaGreatTaLeast2S
import Derived.Test.YtfbpaonmegmcgaaGreatTaFollowS
import Derived.Test.YtfbpaonmegmcgaaGreatTbShareS
import Derived.Test.YtfbpaonmegmcgaaGreatTaLawsL
import Derived.Test.YtfbpaonmegmcgaaGreatTaBearsL
set_option linter.all false
/- Funds: the laws of plans, capital, pay hold. No conditions. -/
set_option maxRecDepth 100000
namespace Go.P9
open Go.Lom Go.Proofs Go
theorem folR_ok {f : Fd} {c : Cs} : (0 < (folR f c).length -> folE f c = 0) /\ ((okF f && (planB f c.1 && soundB f c.1)) = true -> ∀ x ∈ folR f c, 0 <= x) := by
 unfold folR
 by_cases h : folE f c = 0
 ·rw [if_pos h]
  refine ⟨fun _ => h, fun g => ?_⟩
  simp only [Bool.and_eq_true] at g
  exact pays h g.2.2
 ·rw [if_neg h]
  exact ⟨fun g => by simp at g, fun _ x hx => by cases hx⟩
end Go.P9

/- Sums and comparisons of lists: the code keeps its contracts. No conditions. -/
set_option maxRecDepth 100000
namespace Go.P7
open Go.Lom Go.Proofs Go
theorem drop_step {α : Type} (d : α) {l : List α} {i : Int} (h0 : 0 <= i) (h1 : i < l.length) : l.drop i.toNat = l.getD i.toNat d :: l.drop (i + 1).toNat := by
 have h : i.toNat < l.length := by omega
 rw [List.drop_eq_getElem_cons h, show (i + 1).toNat = i.toNat + 1 from by omega]
 simp [List.getD_eq_getElem?_getD, h]
theorem drop_end {α : Type} {l : List α} {i : Int} (h1 : ¬ i < l.length) : l.drop i.toNat = [] := List.drop_eq_nil_of_le (by omega)
theorem fitS_self {n : Int} {l : List Int} (h : fitS n l) : inR .i64 n = true := by cases l <;> simp only [fitS] at h <;> first | exact h | exact h.1
theorem okSumL : LpOk Tryz.prog 9 0 lcSum := lp_of (good_nil _) fun x Q hx =>
 have key : ∀ (l : List Int) (n i : Int), sSumL l n i Q -> xloop Tryz.prog [] [] 5 9 0 lcSum (one shSum) (fun x => (x.1.length - x.2.2.1).toNat) (l, n, i, ()) Q := by
  intro l n i ⟨⟨h0, h1, h2, h3⟩, hQ⟩
  rw [vSumL]
  simp only [fork_iff, req_iff, decide_eq_true_eq, decide_eq_false_iff_not]
  refine ⟨fun hi => ?_, fun hi => ?_⟩
  ·rw [drop_step 0 h0 hi] at h3 hQ
   refine ⟨⟨h0, hi⟩, fitS_self h3.2, inR_i64.2 (by omega), by omega, ⟨by omega, by omega, h2, h3.2⟩, ?_⟩
   rw [List.sum_cons, <- Int.add_assoc] at hQ
   exact hQ
  ·rw [drop_end hi] at hQ
   have : i = l.length := by omega
   subst this
   simpa using hQ
 match x, hx with | (l, n, i, ()), hx => key l n i hx
theorem okSum : FnOk Tryz.prog 9 fcSum := fn_of ((good_nil _).addL okSumL) fun x K hx =>
 have key : ∀ l : List Int, sSum l (fun r => K (r, ())) -> xfn Tryz.prog [] [(9, 0, lcSum)] 5 9 fcSum (l, ()) K := by
  intro l ⟨⟨h1, h2⟩, hK⟩
  rw [vSumF]
  refine ⟨⟨by omega, by omega, h1, h2⟩, ?_⟩
  simpa using hK
 match x, hx with | (l, ()), hx => key l hx
theorem okSum2L : LpOk Tryz.prog 25 0 lcSum2 := lp_of (good_nil _) fun x Q hx =>
 have key : ∀ (n : Int) (l : List Int) (m i : Int), sSum2L n l m i Q -> xloop Tryz.prog [] [] 5 25 0 lcSum2 (one shSum2) (fun x => (x.2.1.length - x.2.2.2.1).toNat) (n, l, m, i, ()) Q := by
  intro n l m i ⟨⟨h0, h1, hm, h2, h3⟩, hQ⟩
  rw [vSum2L]
  subst hm
  simp only [fork_iff, req_iff, decide_eq_true_eq, decide_eq_false_iff_not]
  refine ⟨fun hi => ?_, fun hi => ?_⟩
  ·rw [drop_step 0 h0 hi] at h3 hQ
   refine ⟨⟨h0, hi⟩, fitS_self h3.2, inR_i64.2 (by omega), by omega, ⟨by omega, by omega, trivial, h2, h3.2⟩, ?_⟩
   rw [List.sum_cons, <- Int.add_assoc] at hQ
   exact hQ
  ·rw [drop_end hi] at hQ
   have : i = l.length := by omega
   subst this
   simpa using hQ
 match x, hx with | (n, l, m, i, ()), hx => key n l m i hx
theorem okSum2 : FnOk Tryz.prog 25 fcSum := fn_of ((good_nil _).addL okSum2L) fun x K hx =>
 have key : ∀ l : List Int, sSum l (fun r => K (r, ())) -> xfn Tryz.prog [] [(25, 0, lcSum2)] 5 25 fcSum (l, ()) K := by
  intro l ⟨⟨h1, h2⟩, hK⟩
  rw [vSum2F]
  refine ⟨⟨by omega, by omega, rfl, h1, h2⟩, ?_⟩
  simpa using hK
 match x, hx with | (l, ()), hx => key l hx
end Go.P7
