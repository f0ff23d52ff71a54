/- CensusFair returns true. No conditions. -/
import Derived.Test.YtfbbpilflbpifaaFairS
import Derived.Test.YtfbbpilflbpifaaPatTP
set_option linter.constructorNameAsVariable false
set_option linter.unusedVariables false
set_option linter.unusedSimpArgs false
set_option maxRecDepth 100000
set_option maxHeartbeats 4000000
namespace Go.P10
open Go.Lom Go.Proofs Go

theorem h25 (n m : Int) (K : dens [I] → Prop) (h1 : 1 ≤ m) (h2 : m ≤ 1000000) (hK : ∀ r : Int, r = n % m → K (r, ())) : xfn1 Try.prog {} 5 25 fc25 (n, m, ()) K := by
  rw [v25F]
  have a1 := Int.lt_tmod_of_pos n (show 0 < m by omega)
  have a2 := Int.tmod_lt_of_pos n (show 0 < m by omega)
  have e : Int.tmod (Int.tmod n m + m) m = n % m := by
    rw [Int.tmod_eq_emod_of_nonneg (by omega), Int.add_emod_right]
    have := Int.tmod_add_mul_tdiv n m
    generalize n.tdiv m = q at this
    rw [show Int.tmod n m = n - m * q by omega, Int.sub_mul_emod_self_left]
  exact fork_iff.2 ⟨fun c => absurd (of_decide_eq_true c) (by omega), fun _ => req_iff.2 ⟨decide_eq_true (by omega), req_iff.2 ⟨inR_i64.2 (by omega), req_iff.2 ⟨decide_eq_true (by omega), hK _ e⟩⟩⟩⟩
theorem ok25 : FnOk Try.prog 25 fc25 := fn1_of (n := 5) (good2_nil _) fun (n, m, ()) K hx => h25 n m K hx.1.2.1 hx.1.2.2 hx.2
theorem ok26 : F2Ok Try.prog 26 fc26 := fn2_of (n := 5) (good2_nil _) fun (l, ()) K hx => by
  obtain ⟨h1, hK⟩ := hx
  have hK : ∀ r : List Int, r = l → K ((), r, ()) := hK
  rw [v26F]
  simp only [Nat.zero_add, List.nil_append]
  exact req_iff.2 ⟨fitsM (by have h1 : l.length ≤ 1000 := h1; omega), req_iff.2 ⟨by simp, hK _ (seg_self l)⟩⟩
/-! plain facts -/
end Go.P10
