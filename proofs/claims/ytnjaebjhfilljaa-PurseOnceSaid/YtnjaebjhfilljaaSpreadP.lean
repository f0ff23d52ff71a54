/- Spreading: the code keeps its contracts. No conditions. -/
import Derived.Test.YtnjaebjhfilljaaSpreadS
import Derived.Test.YtnjaebjhfilljaaDuesP
set_option linter.unusedSimpArgs false
set_option linter.unusedVariables false
set_option linter.constructorNameAsVariable false
set_option maxRecDepth 100000
namespace Go.P7
open Go.Lom Go.Proofs Go

theorem h85L (r : Int) (out : List Int) (l : List (Int × Int)) (m i : Int) (Q : LQ) : s85L r out l m i Q → xloop Try.prog [] [] 5 85 0 lc85 (one sh85E) (fun x => mLenD x.2.2.1 x.2.2.2.2.1) (((r, ()), ()), out, l, m, i, ()) Q := by
  intro ⟨⟨h0, h1, hm, h2, h3⟩, hQ⟩
  rw [v85L]
  subst hm
  simp only [fork_iff, req_iff, decide_eq_true_eq, decide_eq_false_iff_not, beq_iff_eq, beq_eq_false_iff_ne, seg_all, seg_one, Nat.zero_add, List.length_singleton]
  refine ⟨fun hi => ?_, fun hi => ?_⟩
  · rw [drop_step ((0 : Int), (0 : Int)) h0 hi] at hQ
    simp only [idxR] at hQ
    generalize l.getD i.toNat ((0 : Int), (0 : Int)) = y at *
    refine ⟨⟨h0, hi⟩, fun h => ?_, fun h => ?_⟩
    · rw [if_pos h] at hQ
      refine ⟨Nat.le_refl _, fits8 (by omega), inR_i64.2 (by omega), by simp, mLenD_lt hi, ?_⟩
      rw [seg_len _ _ (by simp)]
      exact show s85L r (out ++ [i]) l l.length (i + 1) Q from ⟨⟨by omega, by omega, rfl, h2, by simp; omega⟩, fun o ho => hQ o (by rw [ho]; simp)⟩
    · rw [if_neg h] at hQ
      exact ⟨inR_i64.2 (by omega), Nat.le_refl _, mLenD_lt hi, show s85L r out l l.length (i + 1) Q from ⟨⟨by omega, by omega, rfl, h2, by omega⟩, hQ⟩⟩
  · rw [drop_end hi] at hQ
    exact ⟨Nat.le_refl _, hQ out (by simp [idxR])⟩
theorem ok85L : LpOk Try.prog 85 0 lc85 := lp_of (n := 5) (ex := one sh85E) (m := fun x => mLenD x.2.2.1 x.2.2.2.2.1) (good_nil _) fun (((r, ()), ()), out, l, m, i, ()) Q hx => h85L r out l m i Q hx
theorem h85F (l : List (Int × Int)) (r : Int) (K : dens [L] → Prop) : s85 l r (fun o => K (o, ())) → xfn Try.prog [] [(85, 0, lc85)] 5 85 fc85 (l, ((r, ()), ()), ()) K := by
  intro ⟨h1, hK⟩
  rw [v85F]
  simp only [req_iff, decide_eq_true_eq, seg_all, Nat.zero_add, List.nil_append, List.drop_zero]
  exact ⟨⟨by omega, by omega, trivial, h1, by omega⟩, fun o ho => ⟨Nat.le_refl _, hK o ho⟩⟩
theorem ok85 : FnOk Try.prog 85 fc85 := fn_of (n := 5) ((good_nil _).addL ok85L) fun (l, ((r, ()), ()), ()) K hx => h85F l r K hx
end Go.P7
