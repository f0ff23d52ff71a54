/- The library's Compact at this program. No conditions. -/
import Derived.Test.YtfenogdjhadcoaaCompB
import Derived.Test.YtfenogdjhadcoaaProg
set_option linter.all false
set_option maxRecDepth 100000
set_option maxHeartbeats 4000000
namespace Go.P8
open Go.Lom Go.Proofs Go
def lay89r : Go.Shelf.Ren := ⟨fun | 20 => 89 | n => n, fun n => n, fun n => n⟩
theorem lay89 : Go.Proofs.Lays2.n20 Try.prog lay89r := {
 mixed := by kernel_rfl
 f20 := Try.func89.trans (congrArg some (by kernel_rfl))
 t0 := Try.underlying0
 a0 := Try.isAgg0
 z0 := Try.sizeOf0
 v0 := Try.zeroValue0
 t3 := Try.underlying3
 a3 := Try.isAgg3
 z3 := Try.sizeOf3
 v3 := Try.zeroValue3
 t4 := Try.underlying4
 a4 := Try.isAgg4
 z4 := Try.sizeOf4
 v4 := Try.zeroValue4
 t22 := Try.underlying22
 a22 := Try.isAgg22
 z22 := Try.sizeOf22
 v22 := Try.zeroValue22
 i3 := by kernel_rfl }
theorem ok89 : F2Ok Try.prog 89 fcComp := ok_comp (ρ := lay89r) lay89
end Go.P8
