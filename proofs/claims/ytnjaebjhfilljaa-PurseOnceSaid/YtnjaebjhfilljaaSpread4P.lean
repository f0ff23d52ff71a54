/- Spreading, the program's side: the inner loops keep their contracts. No conditions. -/
import Derived.Test.YtnjaebjhfilljaaSpread4S
import Derived.Test.YtnjaebjhfilljaaSpread3P
set_option linter.unusedSimpArgs false
set_option linter.unusedVariables false
set_option linter.constructorNameAsVariable false
set_option maxRecDepth 100000
namespace Go.P7
open Go.Lom Go.Proofs Go

theorem h53b (l : List (Int × Int)) (s : Int) (out here own : List Int) (r : Int) (h2 : List Int) (m i : Int) (Q : LQ) : s53b l s out here own r h2 m i Q → xloop Try.prog [] [] 5 53 1 lc53b (one sh53bE) (fun x => mLen x.2.2.2.2.2.2.1 x.2.2.2.2.2.2.2.2.1) (l, s, out, here, own, r, h2, m, i, ()) Q := by
  intro ⟨⟨h0, h1, hm, h3, h4, h5⟩, hQ⟩
  rw [v53b]
  subst hm
  simp only [fork_iff, req_iff, decide_eq_true_eq, decide_eq_false_iff_not, seg_all, seg_one, Nat.zero_add, List.length_singleton]
  refine ⟨fun hi => ?_, fun hi => ?_⟩
  · have hk := h5 _ (getD_mem h0 hi)
    rw [drop_step (0 : Int) h0 hi] at hQ
    generalize h2.getD i.toNat 0 = k at *
    refine ⟨⟨h0, hi⟩, hk, Nat.le_refl _, fits8 (by omega), inR_i64.2 (by omega), Nat.le_refl _, by simp, mLen_lt hi, ?_⟩
    rw [seg_len _ _ (by simp)]
    exact show s53b l s out here (own ++ [amtAt l k]) r h2 h2.length (i + 1) Q from ⟨⟨by omega, by omega, rfl, h3, by simp; omega, h5⟩, fun o ho => hQ o (by rw [ho]; simp)⟩
  · rw [drop_end hi] at hQ
    exact ⟨Nat.le_refl _, Nat.le_refl _, hQ own (by simp)⟩
theorem ok53b : LpOk Try.prog 53 1 lc53b := lp_of (n := 5) (ex := one sh53bE) (m := fun x => mLen x.2.2.2.2.2.2.1 x.2.2.2.2.2.2.2.2.1) (good_nil _) fun (l, s, out, here, own, r, h2, m, i, ()) Q hx => h53b l s out here own r h2 m i Q hx
theorem h53c (l : List (Int × Int)) (s : Int) (out own : List Int) (w r : Int) (h2 : List Int) (m i : Int) (Q : LQ) : s53c l s out own w r h2 m i Q → xloop Try.prog [] [] 5 53 2 lc53c (one sh53cE) (fun x => mLen x.2.2.2.2.2.2.1 x.2.2.2.2.2.2.2.2.1) (l, s, out, own, w, r, h2, m, i, ()) Q := by
  intro ⟨⟨h0, h1, hm, h3, h4, h5⟩, hQ⟩
  rw [v53c]
  subst hm
  simp only [fork_iff, req_iff, decide_eq_true_eq, decide_eq_false_iff_not, seg_all, Nat.zero_add]
  refine ⟨fun hi => ?_, fun hi => ?_⟩
  · have hk := h5 _ (getD_mem h0 hi)
    rw [drop_step (0 : Int) h0 hi, drop_step (0 : Int) h0 (by omega : i < own.length)] at hQ
    simp only [scat] at hQ
    generalize h2.getD i.toNat 0 = k at *
    refine ⟨⟨h0, hi⟩, ⟨h0, by omega⟩, hk, by omega, inR_i64.2 (by omega), by simp, mLen_lt hi, ?_⟩
    rw [seg_len _ _ (by simp)]
    exact show s53c l s (out.set k.toNat (own.getD i.toNat 0)) own w r h2 h2.length (i + 1) Q from ⟨⟨by omega, by omega, rfl, h3, h4, fun k hk => by rw [List.length_set]; exact h5 k hk⟩, hQ⟩
  · rw [drop_end hi] at hQ
    exact ⟨Nat.le_refl _, hQ out (by simp [scat])⟩
theorem ok53c : LpOk Try.prog 53 2 lc53c := lp_of (n := 5) (ex := one sh53cE) (m := fun x => mLen x.2.2.2.2.2.2.1 x.2.2.2.2.2.2.2.2.1) (good_nil _) fun (l, s, out, own, w, r, h2, m, i, ()) Q hx => h53c l s out own w r h2 m i Q hx
end Go.P7
