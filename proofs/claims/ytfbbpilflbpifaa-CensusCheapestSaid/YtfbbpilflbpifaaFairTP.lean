/- Draw, with the list of numbers kept: the code keeps its contract. No conditions. -/
import Derived.Test.YtfbbpilflbpifaaFairT
set_option linter.constructorNameAsVariable false
set_option linter.unusedVariables false
set_option linter.unusedSimpArgs false
set_option maxRecDepth 100000
set_option maxHeartbeats 4000000
namespace Go.P10
open Go.Lom Go.Proofs Go

theorem h39kL (n m s : Int) (l : List Int) (i : Int) (Q : LQ) (h1 : 1 ≤ n) (h2 : n ≤ 8) (h3 : l.length ≤ 16) (h4 : 0 ≤ i) (h5 : i ≤ l.length) (h6 : 0 ≤ s) (h7 : s ≤ 40320 * i)
    (q1 : (l.drop i.toNat).all (inF n) = true → ∀ s' : Int, s' = s + (l.drop i.toNat).sum → Q (.exit 0) (stS 1 sh39ke (n, m, l, s', ()))) (q2 : (l.drop i.toNat).all (inF n) = false → Q .ret (stS 1 sh39kr (l, [], 104, ()))) :
    xloop2 Try.prog { nm := true, f := [(76, fc76)] } 5 39 0 lc39k ex39k (fun (_, _, l, _, _, _, i, _) => mL l i) (n, m, l, s, l.length, (l.length : Int), i, ()) Q := by
  rw [v39kL]
  rw [Nat.add_zero]
  have tr : ∀ {P : Prop}, P → req (decide (l.length = l.length)) P := fun h => req_iff.2 ⟨by simp, h⟩
  have hf := fac8 (show n.toNat ≤ 8 by omega)
  have hp := fac_pos n.toNat
  refine fork_iff.2 ⟨fun hi => ?_, fun hi => ?_⟩
  · have hi : i < l.length := of_decide_eq_true hi
    rw [drop_step 0 h4 hi] at q1 q2
    rw [List.all_cons] at q1 q2
    rw [List.sum_cons] at q1
    refine req_iff.2 ⟨decide_eq_true ⟨h4, hi⟩, req_iff.2 ⟨decide_eq_true (by omega), h2, fun f hfe => ?_⟩⟩
    subst hfe
    have bad : inF n (l.getD i.toNat 0) = false → Q .ret (stS 1 sh39kr (l, [], 104, ())) := fun h => q2 (by rw [h]; rfl)
    have bad := fun h => tr (bad h)
    refine req_iff.2 ⟨inR_i64.2 (by omega), fork_iff.2 ⟨fun c => fork_iff.2 ⟨fun d => bad ?_, fun d => ?_⟩, fun c => bad ?_⟩⟩
    · simp only [Bool.not_eq_true', decide_eq_false_iff_not] at d
      exact decide_eq_false fun h => d h.2
    · have c : l.getD i.toNat 0 ≥ 0 := of_decide_eq_true c
      have d : l.getD i.toNat 0 ≤ facI n.toNat - 1 := by simpa using d
      have hin : inF n (l.getD i.toNat 0) = true := decide_eq_true ⟨c, d⟩
      rw [hin, Bool.true_and] at q1 q2
      generalize l.getD i.toNat 0 = x at *
      refine req_iff.2 ⟨inR_i64.2 (by omega), req_iff.2 ⟨inR_i64.2 (by omega), tr ⟨mL_lt hi, ⟨h1, h2, rfl, rfl, h3, ⟨show (0 : Int) ≤ i + 1 by omega, show i + 1 ≤ (l.length : Int) by omega⟩, show (0 : Int) ≤ s + x by omega, show s + x ≤ 40320 * (i + 1) by omega⟩, fun hd s' hs' => q1 hd s' ?_, q2⟩⟩⟩
      have hs' : s' = s + x + (l.drop (i + 1).toNat).sum := hs'
      rw [hs', Int.add_assoc]
    · exact decide_eq_false fun h => (of_decide_eq_false c) h.1
  · have hi : ¬ i < l.length := of_decide_eq_false hi
    rw [drop_end hi] at q1
    exact tr (q1 rfl s (by simp))
theorem ok39kL : Lp2Ok Try.prog 39 0 lc39k := lp2_of (n := 5) (ex := ex39k) (m := fun (_, _, l, _, _, _, i, _) => mL l i) ((good2_nilN _).addF ok76) fun (n, m, l, s, k, c, i, ()) Q hx => by
  obtain ⟨⟨h1, h2, hk, hc, h3, h4, h5⟩, q1, q2⟩ := hx
  have hk : k = l.length := hk
  have hc : c = (l.length : Int) := hc
  subst hk hc
  exact h39kL n m s l i Q h1 h2 h3 h4.1 h4.2 h5.1 h5.2 q1 q2
theorem h39k (n m : Int) (l : List Int) (K : fc39k.post.den → Prop) (hK : ∀ r e, (r, e) = drawV n m l → K ((), (), l, r, e, ())) : xfn2 Try.prog { nm := true, f := [(76, fc76), (77, fc77)], f2 := [(58, fc58)], l2 := [(39, 0, lc39k)] } 5 39 fc39k (n, m, l, ()) K := by
  rw [v39kF]
  have tr : ∀ {P : Prop}, P → req (decide (l.length = l.length)) P := fun h => req_iff.2 ⟨by simp, h⟩
  have bad : ¬ ((1 ≤ n ∧ n ≤ 8) ∧ (1 ≤ l.length ∧ l.length ≤ 16) ∧ l.all (inF n) = true) → K ((), (), l, [], (104 : Int), ()) := fun h => hK _ _ (by rw [drawV, if_neg h])
  have bad := fun h => tr (bad h)
  refine fork_iff.2 ⟨fun a => fork_iff.2 ⟨fun b => bad fun h => ?_, fun b => fork_iff.2 ⟨fun a2 => fork_iff.2 ⟨fun b2 => bad fun h => ?_, fun b2 => ?_⟩, fun a2 => bad fun h => (of_decide_eq_false a2) (by have := h.2.1.1; omega)⟩⟩, fun a => bad fun h => (of_decide_eq_false a) h.1.1⟩
  · simp only [Bool.not_eq_true', decide_eq_false_iff_not] at b; exact b h.1.2
  · simp only [Bool.not_eq_true', decide_eq_false_iff_not] at b2; have := h.2.1.2; omega
  · have a : 1 ≤ n := of_decide_eq_true a
    have b : n ≤ 8 := by simpa using b
    have a2 : (l.length : Int) ≥ 1 := of_decide_eq_true a2
    have b2 : (l.length : Int) ≤ 16 := by simpa using b2
    have hf := fac8 (show n.toNat ≤ 8 by omega)
    have hp := fac_pos n.toNat
    refine tr ⟨⟨a, b, rfl, rfl, by omega, ⟨Int.le_refl 0, show (0 : Int) ≤ (l.length : Int) by omega⟩, Int.le_refl 0, Int.le_refl 0⟩, fun hd s' hs' => ?_, fun hd => bad fun h => ?_⟩
    · rw [List.drop_zero] at hd hs'
      have hs' : s' = 0 + l.sum := hs'
      have hsum : s' = l.sum := by rw [hs', Int.zero_add]
      subst hsum
      clear hs'
      have hok : (1 ≤ n ∧ n ≤ 8) ∧ (1 ≤ l.length ∧ l.length ≤ 16) ∧ l.all (inF n) = true := ⟨⟨a, b⟩, ⟨by omega, by omega⟩, hd⟩
      have hs0 : 0 ≤ l.sum := sum_nonneg fun x hx => (of_decide_eq_true (List.all_eq_true.1 hd x hx) : 0 ≤ x ∧ x ≤ _).1
      have far : ¬ (0 ≤ m ∧ m ≤ n) → K ((), (), l, [], (7 : Int), ()) := fun h => hK _ _ (by rw [drawV, if_pos hok, if_neg h])
      have far := fun h => tr (far h)
      refine fork_iff.2 ⟨fun c => fork_iff.2 ⟨fun d => far fun h => ?_, fun d => ?_⟩, fun c => far fun h => (of_decide_eq_false c) h.1⟩
      · simp only [Bool.not_eq_true', decide_eq_false_iff_not] at d; exact d h.2
      · have c : 0 ≤ m := of_decide_eq_true c
        have d : m ≤ n := by simpa using d
        refine ⟨b, fun f hfe => ?_⟩
        subst hfe
        have e1 : Int.tmod l.sum (facI n.toNat) = l.sum % facI n.toNat := Int.tmod_eq_emod_of_nonneg hs0
        have r0 := Int.emod_nonneg l.sum (show facI n.toNat ≠ 0 by omega)
        have r1 := Int.emod_lt_of_pos l.sum (show 0 < facI n.toNat by omega)
        rw [e1]
        refine req_iff.2 ⟨decide_eq_true (by omega), ⟨a, b, r0, r1⟩, fun o ho => ?_⟩
        have hl : o.length = 8 := by rw [ho]; exact pad8_len (by rw [ordF_len]; omega)
        refine req_iff.2 ⟨decide_eq_true hl, req_iff.2 ⟨decide_eq_true hl, fun ys hys => ?_⟩⟩
        subst hys
        refine req_iff.2 ⟨decide_eq_true ⟨by omega, c, by omega⟩, req_iff.2 ⟨decide_eq_true hl, req_iff.2 ⟨decide_eq_true (by omega), ?_⟩⟩⟩
        rw [ho, pad8_seg (by rw [ordF_len]; omega)]
        refine ⟨by rw [List.length_take, ordF_len]; omega, fun r2 hr2 => tr (req_iff.2 ⟨by simp, ?_⟩)⟩
        rw [seg_self]
        exact hK _ _ (by rw [drawV, if_pos hok, if_pos ⟨c, d⟩, hr2])
    · rw [List.drop_zero] at hd
      rw [hd] at h; exact absurd h.2.2 (by simp)
theorem ok39k : F2Ok Try.prog 39 fc39k := fn2_of (n := 5) (((((good2_nilN _).addL2 ok39kL).addF2 ok58).addF ok77).addF ok76) fun (n, m, l, ()) K hx => h39k n m l K hx.2
end Go.P10
