/- TillDays: the code keeps its contract. No conditions. -/
import Derived.Test.YtfenogdjhadcoaaDayP9
set_option linter.all false
set_option maxRecDepth 100000
set_option maxHeartbeats 4000000
namespace Go.P8
open Go.Lom Go.Proofs Go
theorem from_len {ps : List Po} {off : List Int} {l : List Mi} (h : explFrom ps off 0 = some l) : l.length <= 3 := by
 unfold explFrom at h
 obtain ⟨n, hn, h⟩ := List.exists_of_findSome?_eq_some h
 rw [List.mem_range'_1] at hn
 have := (expl_ok ps _ _ _ l h).1
 omega
end Go.P8
