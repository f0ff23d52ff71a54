/- A call, evaluated (printed by memo.py). No conditions. -/
import Derived.Test.YtklleedcdjkpeaaLibC
import Derived.KernelRfl
import Derived.Test.YtklleedcdjkpeaaProg
set_option linter.unusedSimpArgs false
set_option linter.constructorNameAsVariable false
set_option linter.unusedVariables false
namespace Go.FundW
open Go.Lom Go.Proofs Go
def e1 : KEnt := ⟨31, [.agg [.int .i64 50, .sl 1 2 0 3 (some 3), .sl 2 1 0 3 (some 3), .sl 3 1 0 3 (some 3), .sl 4 2 0 3 (some 3), .sl 5 3 0 3 (some 3), .sl 6 3 0 2 (some 2), .int .i64 1, .int .i64 4], .sl 8 1 0 1 (some 1)], [(8, .row 1 [[.int .i64 0]]), (7, .row 9 [[.int .i64 50, .sl 1 2 0 3 (some 3), .sl 2 1 0 3 (some 3), .sl 3 1 0 3 (some 3), .sl 4 2 0 3 (some 3), .sl 5 3 0 3 (some 3), .sl 6 3 0 2 (some 2), .int .i64 1, .int .i64 4]]), (6, .row 3 [[.int .i64 0, .int .i64 1, .int .i64 1], [.int .i64 1, .int .i64 2, .int .i64 0]]), (5, .row 3 [[.int .i64 60, .int .i64 40, .int .i64 0], [.int .i64 100, .int .i64 30, .int .i64 1], [.int .i64 20, .int .i64 20, .int .i64 0]]), (4, .row 2 [[.int .i64 8, .int .i64 9], [.int .i64 10, .int .i64 12], [.int .i64 5, .int .i64 6]]), (3, .row 1 [[.int .i64 2], [.int .i64 2], [.int .i64 2]]), (2, .row 1 [[.int .i64 0], [.int .i64 0], [.int .i64 30]]), (1, .row 2 [[.int .i64 10, .int .i64 20], [.int .i64 10, .int .i64 20], [.int .i64 10, .int .i64 20]])], 9, (.ret (.tup [.sl 35 1 0 3 none, .int .i64 0]), [(35, .row 1 [[.int .i64 0], [.int .i64 1], [.int .i64 1]]), (8, .row 1 [[.int .i64 0]]), (7, .row 9 [[.int .i64 50, .sl 1 2 0 3 (some 3), .sl 2 1 0 3 (some 3), .sl 3 1 0 3 (some 3), .sl 4 2 0 3 (some 3), .sl 5 3 0 3 (some 3), .sl 6 3 0 2 (some 2), .int .i64 1, .int .i64 4]]), (6, .row 3 [[.int .i64 0, .int .i64 1, .int .i64 1], [.int .i64 1, .int .i64 2, .int .i64 0]]), (5, .row 3 [[.int .i64 60, .int .i64 40, .int .i64 0], [.int .i64 100, .int .i64 30, .int .i64 1], [.int .i64 20, .int .i64 20, .int .i64 0]]), (4, .row 2 [[.int .i64 8, .int .i64 9], [.int .i64 10, .int .i64 12], [.int .i64 5, .int .i64 6]]), (3, .row 1 [[.int .i64 2], [.int .i64 2], [.int .i64 2]]), (2, .row 1 [[.int .i64 0], [.int .i64 0], [.int .i64 30]]), (1, .row 2 [[.int .i64 10, .int .i64 20], [.int .i64 10, .int .i64 20], [.int .i64 10, .int .i64 20]])], 36)⟩
set_option maxRecDepth 100000 in
theorem k1 : KnowsTrue Try.prog ⟨[], [e1]⟩ := KnowsTrue.add (lf := 1000) (n := 100) (knows_nil _) e1 (by kernel_rfl)
end Go.FundW
