/- TillFewest: the code keeps its contract. No conditions. -/
import Derived.Test.YtfenogdjhadcoaaFewL
set_option linter.constructorNameAsVariable false
set_option linter.unusedVariables false
set_option linter.unusedSimpArgs false
set_option maxRecDepth 100000
set_option maxHeartbeats 8000000
namespace Go.P8
open Go.Lom Go.Proofs Go

theorem goodF_step {cs l hv : List Int} {i : Nat} (h : i < l.length) : goodF cs l hv i = (goodAt cs l hv i && goodF cs l hv (i + 1)) := by
  unfold goodF; rw [range_step h, List.all_cons]
theorem goodF_end {cs l hv : List Int} {i : Nat} (h : ¬ i < l.length) : goodF cs l hv i = true := by
  unfold goodF; rw [show l.length - i = 0 by omega]; rfl
theorem wrap_i64 (n : Int) : inR .i64 (wrapA .i64 n) = true := by
  refine inR_i64.2 ?_
  simp only [wrapA, IntKind.wrap, IntKind.signed, IntKind.bits, Bool.true_and]
  simp
  omega
theorem h25L (cs l hv : List Int) (n i : Int) (Q : AX → St → Prop) (h0 : 0 ≤ i) (h1 : i ≤ l.length) (hb : l.length ≤ big) (hn : inR .i64 n = true) (h8 : cs.length ≤ 8 → 0 ≤ n ∧ n ≤ i * 5000000)
    (hF : goodF cs l hv i.toNat = false → Q .ret (stS 0 sh25r (0, false, ())))
    (hT : goodF cs l hv i.toNat = true → ∀ r : Int, inR .i64 r = true → (cs.length ≤ 8 → r = n + valueN (cs.drop i.toNat) (l.drop i.toNat)) → Q (.exit 0) (stS 0 sh25e (cs, l, r, ()))) :
    xloop2 Try.prog { wr := true, f := [(26, fcFrom)] } 5 25 0 lc25 ex25 (fun (_, l, _, _, i, _) => mL l i) (cs, l, hv, n, i, ()) Q := by
  rw [v25L]
  have hbig : (big : Int) = 9223372036854775807 := rfl
  simp only [fork_iff, req_iff, decide_eq_true_eq, decide_eq_false_iff_not, Bool.not_eq_true', Bool.not_eq_false', ge_iff_le, gt_iff_lt]
  refine ⟨fun hi => ?_, fun hi => hT (goodF_end (by omega)) n hn fun _ => by rw [drop_end hi, valueN_nil']; omega⟩
  have hlt : i.toNat < l.length := by omega
  rw [goodF_step hlt] at hF hT
  have bad : goodAt cs l hv i.toNat = false → Q .ret (stS 0 sh25r (0, false, ())) := fun h => hF (by rw [h, Bool.false_and])
  have nb : ¬ (i.toNat < cs.length ∧ i.toNat < hv.length ∧ (0 ≤ l.getD i.toNat 0 ∧ l.getD i.toNat 0 ≤ hv.getD i.toNat 0) ∧ (1 ≤ cs.getD i.toNat 0 ∧ cs.getD i.toNat 0 ≤ 50000) ∧ l.getD i.toNat 0 ≤ 100) → goodAt cs l hv i.toNat = false := fun h => by
    cases hg : goodAt cs l hv i.toNat with
    | false => rfl
    | true => exact absurd (goodAt_iff.1 hg) h
  have e2 : (i + 1).toNat = i.toNat + 1 := by omega
  have e1 : wrapA .i64 (i + 1) = i + 1 := wrapA_in (inR_i64.2 (by omega))
  refine ⟨fun hc => bad (nb fun e => by omega), fun hc => ⟨fun hv1 => bad (nb fun e => by omega), fun hv1 => ⟨⟨h0, hi⟩, ⟨h0, by omega⟩, fun hx => bad (nb fun e => hx e.2.2.1), fun hx => ⟨⟨h0, by omega⟩, fun hy => bad (nb fun e => hy e.2.2.2.1), fun hy => ⟨⟨h0, hi⟩, fun hz => bad (nb fun e => by omega), fun hz => ⟨⟨h0, hi⟩, ⟨h0, by omega⟩, ?_⟩⟩⟩⟩⟩⟩
  have hg : goodAt cs l hv i.toNat = true := goodAt_iff.2 ⟨by omega, by omega, hx, hy, by omega⟩
  rw [hg, Bool.true_and] at hF hT
  have hds : cs.length ≤ 8 → valueN (cs.drop i.toNat) (l.drop i.toNat) = l.getD i.toNat 0 * cs.getD i.toNat 0 + valueN (cs.drop (i + 1).toNat) (l.drop (i + 1).toNat) := fun _ => by
    rw [drop_step 0 h0 hi, drop_step 0 (l := cs) h0 (by omega)]; rfl
  generalize l.getD i.toNat 0 = x at *
  generalize cs.getD i.toNat 0 = c at *
  have hm0 : 0 ≤ x * c := Int.mul_nonneg hx.1 (by omega)
  have hm1 : x * c ≤ 100 * 50000 := Int.mul_le_mul (by omega) hy.2 (by omega) (by decide)
  rw [e1]
  have hw : cs.length ≤ 8 → wrapA .i64 (n + x * c) = n + x * c := fun h => wrapA_in (inR_i64.2 (by have := h8 h; omega))
  refine ⟨inR_i64.2 (by omega), mL_lt hi, ⟨⟨show (0 : Int) ≤ i + 1 by omega, show i + 1 ≤ (l.length : Int) by omega, hb, wrap_i64 _, fun h => ?_⟩, fun h => hF (by rw [← e2]; exact h), fun h r hr hr2 => hT (by rw [← e2]; exact h) r hr fun h9 => ?_⟩⟩
  · rw [hw h]; have := h8 h; exact ⟨show (0 : Int) ≤ n + x * c by omega, show n + x * c ≤ (i + 1) * 5000000 by omega⟩
  · have hr2 : r = wrapA .i64 (n + x * c) + valueN (cs.drop (i + 1).toNat) (l.drop (i + 1).toNat) := hr2 h9
    rw [hr2, hw h9, hds h9]; omega
theorem ahead_ends : ∀ (a b : List Int), (a = [] ∨ b = []) → aheadB a b = decide (a.length < b.length)
  | [], b, _ => by simp [aheadB]
  | _ :: _, [], _ => by simp [aheadB]
  | _ :: _, _ :: _, h => by simp at h
theorem h28L (a b : List Int) (i : Int) (Q : AX → St → Prop) (h0 : 0 ≤ i) (h1 : i ≤ a.length) (h2 : i ≤ b.length) (hb : a.length ≤ big)
    (hR : ∀ r : Bool, r = aheadB (a.drop i.toNat) (b.drop i.toNat) → Q .ret (stS 0 (S [(4, .v .b)]) (r, ()))) (hQ : aheadB (a.drop i.toNat) (b.drop i.toNat) = decide (a.length < b.length) → Q (.exit 0) (stS 0 sh28e (a, b, ()))) :
    xloop2 Try.prog {} 5 28 0 lc28 ex28 (fun (a, _, i, _) => mL a i) (a, b, i, ()) Q := by
  rw [v28L]
  have hbig : (big : Int) = 9223372036854775807 := rfl
  have hend : (a.drop i.toNat = [] ∨ b.drop i.toNat = []) → Q (.exit 0) (stS 0 sh28e (a, b, ())) := fun h => hQ (by
    rw [ahead_ends _ _ h, List.length_drop, List.length_drop]
    exact decide_eq_decide.2 (by omega))
  simp only [fork_iff, req_iff, decide_eq_true_eq, decide_eq_false_iff_not, bne_iff_ne, bne_eq_false_iff_eq, ne_eq]
  refine ⟨fun hi => ⟨fun hj => ⟨⟨h0, hi⟩, ⟨h0, hj⟩, ?_⟩, fun hj => hend (.inr (drop_end hj))⟩, fun hi => hend (.inl (drop_end hi))⟩
  rw [drop_step 0 h0 hi, drop_step 0 (l := b) h0 hj] at hR hQ
  simp only [aheadB] at hR hQ
  generalize a.getD i.toNat 0 = x at *
  generalize b.getD i.toNat 0 = y at *
  refine ⟨fun hne => ⟨⟨h0, hi⟩, ⟨h0, hj⟩, hR _ (by rw [if_neg hne])⟩, fun heq => ?_⟩
  rw [if_pos heq] at hR hQ
  exact ⟨inR_i64.2 (by omega), mL_lt hi, ⟨⟨show (0 : Int) ≤ i + 1 by omega, show i + 1 ≤ (a.length : Int) by omega, show i + 1 ≤ (b.length : Int) by omega, hb⟩, hR, hQ⟩⟩
theorem ok28L : Lp2Ok Try.prog 28 0 lc28 := lp2_of (n := 5) (ex := ex28) (m := fun (a, _, i, _) => mL a i) (good2_nil _) fun (a, b, i, ()) Q hx => by
  obtain ⟨⟨g1, g2, g3, g4⟩, hR, hQ⟩ := hx
  exact h28L a b i Q g1 g2 g3 g4 hR hQ
theorem ok28 : FnOk Try.prog 28 fcAhead := fn1_of (n := 5) ((good2_nil _).addL2 ok28L) fun (a, b, ()) K hx => by
  obtain ⟨g1, hK⟩ := hx
  show xfn1 Try.prog { l2 := [(28, 0, lc28)] } 5 28 fcAhead (a, b, ()) K
  have hK : ∀ r : Bool, r = aheadB a b → K (r, ()) := hK
  rw [v28F]
  simp only [List.drop_zero]
  refine ⟨⟨Int.le_refl (0 : Int), Int.natCast_nonneg _, Int.natCast_nonneg _, g1⟩, fun r hr => hK r hr, fun h => hK _ ?_⟩
  rw [h]; exact decide_eq_decide.2 (by omega)
theorem ok26' : FnOk Try.prog 26 fcFrom' := fun x K hx => ok26 x K (hx _ rfl)
end Go.P8
