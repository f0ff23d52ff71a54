/- CensusFair returns true. No conditions. -/
import Derived.Test.YtfbbpilflbpifaaFairS
import Derived.Test.YtfbbpilflbpifaaPatTP
set_option linter.constructorNameAsVariable false
set_option linter.unusedVariables false
set_option linter.unusedSimpArgs false
set_option maxRecDepth 100000
set_option maxHeartbeats 4000000
namespace Go.P10
open Go.Lom Go.Proofs Go

theorem ok26 : F2Ok Try.prog 26 fc26 := fn2_of (n := 5) (good2_nil _) fun (l, ()) K hx => by
  obtain ⟨h1, hK⟩ := hx
  have hK : ∀ r : List Int, r = l → K ((), r, ()) := hK
  rw [v26F]
  simp only [Nat.zero_add, List.nil_append]
  exact req_iff.2 ⟨fitsM (by have h1 : l.length ≤ 1000 := h1; omega), req_iff.2 ⟨by simp, hK _ (seg_self l)⟩⟩
/-! plain facts -/
end Go.P10
