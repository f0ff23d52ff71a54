/- Spreading, the specification's side: the inner loops keep their contracts. No conditions. -/
import Derived.Test.YtnjaebjhfilljaaSpread2S
import Derived.Test.YtnjaebjhfilljaaSpreadP
set_option linter.unusedSimpArgs false
set_option linter.unusedVariables false
set_option linter.constructorNameAsVariable false
set_option maxRecDepth 100000
namespace Go.P7
open Go.Lom Go.Proofs Go

theorem take_set_next {α : Type} {l : List α} {n : Nat} {v : α} (h : n < l.length) : (l.set n v).take (n + 1) = l.take n ++ [v] := by
  rw [List.take_add_one, List.take_set_of_le (Nat.le_refl _), List.getElem?_set_self h]; rfl
theorem drop_set_next {α : Type} {l : List α} {n : Nat} {v : α} : (l.set n v).drop (n + 1) = l.drop (n + 1) := by
  rw [List.drop_set_of_lt (by omega)]
theorem h55b (l : List (Int × Int)) (s : Int) (out : List Int) (r : Int) (own : List Int) (i : Int) (Q : LQ) : s55b l s out r own i Q → xloop Try.prog [] [] 5 55 1 lc55b (one sh55bE) (fun x => mLenD x.1 x.2.2.2.2.2.1) (l, s, out, r, own, i, ()) Q := by
  intro ⟨⟨h0, h1, h2, h3⟩, hQ⟩
  rw [v55b]
  simp only [fork_iff, req_iff, decide_eq_true_eq, decide_eq_false_iff_not, beq_iff_eq, beq_eq_false_iff_ne, seg_all, Nat.zero_add]
  refine ⟨fun hi => ?_, fun hi => ?_⟩
  · have hio : i < own.length := by omega
    rw [drop_step ((0 : Int), (0 : Int)) h0 hi, drop_step (0 : Int) h0 hio] at hQ
    simp only [List.zipWith_cons_cons] at hQ
    have hn : (i + 1).toNat = i.toNat + 1 := by omega
    have htk : own.take (i.toNat + 1) = own.take i.toNat ++ [own.getD i.toNat 0] := by
      rw [List.take_add_one, List.getD_eq_getElem?_getD, List.getElem?_eq_getElem (by omega : i.toNat < own.length)]; rfl
    generalize l.getD i.toNat ((0 : Int), (0 : Int)) = y at *
    refine ⟨⟨h0, hi⟩, fun h => ⟨⟨h0, hi⟩, ⟨h0, hio⟩, by omega, inR_i64.2 (by omega), Nat.le_refl _, by simp, mLenD_lt hi, ?_⟩, fun h => ⟨inR_i64.2 (by omega), Nat.le_refl _, Nat.le_refl _, mLenD_lt hi, ?_⟩⟩
    · rw [if_pos h] at hQ
      rw [seg_len _ _ (by simp)]
      exact show s55b l s out r (own.set i.toNat y.2) (i + 1) Q from ⟨⟨by omega, by omega, h2, by simpa using h3⟩, fun o ho => hQ o (by rw [ho, hn, take_set_next (by omega), drop_set_next]; simp)⟩
    · rw [if_neg h] at hQ
      exact show s55b l s out r own (i + 1) Q from ⟨⟨by omega, by omega, h2, h3⟩, fun o ho => hQ o (by rw [ho, hn, htk]; simp)⟩
  · rw [drop_end hi] at hQ
    exact ⟨Nat.le_refl _, Nat.le_refl _, hQ own (by rw [List.take_of_length_le (by omega)]; simp)⟩
theorem ok55b : LpOk Try.prog 55 1 lc55b := lp_of (n := 5) (ex := one sh55bE) (m := fun x => mLenD x.1 x.2.2.2.2.2.1) (good_nil _) fun (l, s, out, r, own, i, ()) Q hx => h55b l s out r own i Q hx
theorem h55c (l : List (Int × Int)) (s : Int) (out : List Int) (r : Int) (own : List Int) (i : Int) (Q : LQ) : s55c l s out r own i Q → xloop Try.prog [] [] 5 55 2 lc55c (one sh55cE) (fun x => mLenD x.1 x.2.2.2.2.2.1) (l, s, out, r, own, i, ()) Q := by
  intro ⟨⟨h0, h1, h2, h3, h4, h5, h6⟩, hQ⟩
  rw [v55c]
  simp only [fork_iff, req_iff, decide_eq_true_eq, decide_eq_false_iff_not, seg_all, Nat.zero_add]
  refine ⟨fun hi => ?_, fun hi => ?_⟩
  · have hio : i < own.length := by omega
    have hiu : i < out.length := by omega
    have b1 := h5 _ (getD_mem h0 hio)
    rw [drop_step (0 : Int) h0 hiu] at h6
    have b2 := h6 _ (List.mem_cons_self ..)
    have b3 := fun x hx => h6 x (List.mem_cons_of_mem _ hx)
    rw [drop_step (0 : Int) h0 hiu, drop_step (0 : Int) h0 hio] at hQ
    simp only [addL, List.zipWith_cons_cons] at hQ
    have hn : (i + 1).toNat = i.toNat + 1 := by omega
    rw [hn] at b3
    refine ⟨⟨h0, hiu⟩, by omega, ⟨h0, hio⟩, inR_i64.2 (by omega), ⟨h0, hiu⟩, by omega, inR_i64.2 (by omega), by simp, mLenD_lt hi, ?_⟩
    rw [seg_len _ _ (by simp)]
    exact show s55c l s (out.set i.toNat (out.getD i.toNat 0 + own.getD i.toNat 0)) r own (i + 1) Q from ⟨⟨by omega, by omega, h2, h3, by simpa using h4, h5, by rw [hn, drop_set_next]; exact b3⟩,
      fun o ho => hQ o (by rw [ho, hn, take_set_next (by omega), drop_set_next]; simp [addL])⟩
  · rw [drop_end (by omega : ¬ i < out.length)] at hQ
    exact ⟨Nat.le_refl _, hQ out (by rw [List.take_of_length_le (by omega)]; simp [addL])⟩
theorem ok55c : LpOk Try.prog 55 2 lc55c := lp_of (n := 5) (ex := one sh55cE) (m := fun x => mLenD x.1 x.2.2.2.2.2.1) (good_nil _) fun (l, s, out, r, own, i, ()) Q hx => h55c l s out r own i Q hx
end Go.P7
