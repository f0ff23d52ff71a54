/- CensusFair returns true. No conditions. -/
import Derived.Test.YtfbbpilflbpifaaFairS
import Derived.Test.YtfbbpilflbpifaaPatTP
set_option linter.constructorNameAsVariable false
set_option linter.unusedVariables false
set_option linter.unusedSimpArgs false
set_option maxRecDepth 100000
set_option maxHeartbeats 4000000
namespace Go.P10
open Go.Lom Go.Proofs Go

theorem h25 (n m : Int) (K : dens [I] → Prop) (h1 : 1 ≤ m) (h2 : m ≤ 1000000) (hK : ∀ r : Int, r = n % m → K (r, ())) : xfn1 Try.prog {} 5 25 fc25 (n, m, ()) K := by
  rw [v25F]
  have a1 := Int.lt_tmod_of_pos n (show 0 < m by omega)
  have a2 := Int.tmod_lt_of_pos n (show 0 < m by omega)
  have e : Int.tmod (Int.tmod n m + m) m = n % m := by
    rw [Int.tmod_eq_emod_of_nonneg (by omega), Int.add_emod_right]
    have := Int.tmod_add_mul_tdiv n m
    generalize n.tdiv m = q at this
    rw [show Int.tmod n m = n - m * q by omega, Int.sub_mul_emod_self_left]
  exact fork_iff.2 ⟨fun c => absurd (of_decide_eq_true c) (by omega), fun _ => req_iff.2 ⟨decide_eq_true (by omega), req_iff.2 ⟨inR_i64.2 (by omega), req_iff.2 ⟨decide_eq_true (by omega), hK _ e⟩⟩⟩⟩
theorem ok25 : FnOk Try.prog 25 fc25 := fn1_of (n := 5) (good2_nil _) fun (n, m, ()) K hx => h25 n m K hx.1.2.1 hx.1.2.2 hx.2
theorem ok26 : F2Ok Try.prog 26 fc26 := fn2_of (n := 5) (good2_nil _) fun (l, ()) K hx => by
  obtain ⟨h1, hK⟩ := hx
  have hK : ∀ r : List Int, r = l → K ((), r, ()) := hK
  rw [v26F]
  simp only [Nat.zero_add, List.nil_append]
  exact req_iff.2 ⟨fitsM (by have h1 : l.length ≤ 1000 := h1; omega), req_iff.2 ⟨by simp, hK _ (seg_self l)⟩⟩
theorem h41L (l : List Int) (v i : Int) (Q : LQ) (h0 : 0 ≤ i) (h1 : i ≤ l.length) (h2 : l.length ≤ big) (q1 : idxF (· == v) (l.drop i.toNat) i < 0 → Q (.exit 0) (stS 0 .nil ())) (q2 : 0 ≤ idxF (· == v) (l.drop i.toNat) i → Q .ret (stS 0 shR4i (idxF (· == v) (l.drop i.toNat) i, ()))) :
    xloop2 Try.prog {} 5 41 0 lc41 ex96 (fun (l, _, i, _) => mL l i) (l, v, i, ()) Q := by
  rw [v41L]
  refine fork_iff.2 ⟨fun hi => ?_, fun hi => ?_⟩
  · have hi : i < l.length := of_decide_eq_true hi
    rw [drop_step 0 h0 hi, idxF] at q1 q2
    refine req_iff.2 ⟨decide_eq_true ⟨h0, hi⟩, fork_iff.2 ⟨fun e => ?_, fun e => ?_⟩⟩
    · rw [if_pos e] at q2
      exact q2 h0
    · rw [if_neg (by rw [e]; decide)] at q1 q2
      exact req_iff.2 ⟨inR_i64.2 (by unfold big at h2; omega), mL_lt hi, ⟨show (0 : Int) ≤ i + 1 by omega, show i + 1 ≤ (l.length : Int) by omega, h2⟩, q1, q2⟩
  · have hi : ¬ i < l.length := of_decide_eq_false hi
    rw [drop_end hi] at q1
    exact q1 (show (-1 : Int) < 0 by decide)
theorem ok41L : Lp2Ok Try.prog 41 0 lc41 := lp2_of (n := 5) (ex := ex96) (m := fun (l, _, i, _) => mL l i) (good2_nil _) fun (l, v, i, ()) Q hx => by
  obtain ⟨⟨h0, h1, h2⟩, q1, q2⟩ := hx
  exact h41L l v i Q h0 h1 h2 q1 q2
theorem ok41 : FnOk Try.prog 41 fc41 := fn1_of (n := 5) ((good2_nil _).addL2 ok41L) fun (l, v, ()) K hx => by
  obtain ⟨h1, hK⟩ := hx
  rw [v41F]
  refine ⟨⟨Int.le_refl 0, show (0 : Int) ≤ (l.length : Int) by omega, h1⟩, ?_⟩
  rw [List.drop_zero]
  have hK : K (idxF (fun x => x == v) l 0, ()) := hK
  refine ⟨fun h => ?_, fun _ => hK⟩
  rw [← idxF_neg (fun x => x == v) l 0 (Int.le_refl 0) h]; exact hK
/-! plain facts -/
end Go.P10
