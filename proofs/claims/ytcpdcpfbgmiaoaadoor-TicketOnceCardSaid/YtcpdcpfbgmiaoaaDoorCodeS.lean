/- Tickets: codes by the reference: states and what is to be shown, reduced. No conditions. -/
import Derived.Test.YtcpdcpfbgmiaoaaDoorTickS
import Derived.Test.YtcpdcpfbgmiaoaaDoorFit2S
set_option linter.unusedSimpArgs false
set_option linter.unusedVariables false
set_option linter.constructorNameAsVariable false
set_option maxRecDepth 100000
set_option maxHeartbeats 2000000
namespace Go.P3
open Go.Lom Go.Proofs Go

/-! a number's text -/
/-! the number of a code -/
/-! what can be read of a code -/
/-- The digits of a number in the places of what cannot be read, from the end on. -/
def backK : Nat → Int → Int → List Int → List Int
  | 0, _, _, w => w
  | k + 1, i, n, w => if w.getD i.toNat 0 = 63 then backK k (i - 1) (n.tdiv 10) (w.set i.toNat (48 + n.tmod 10)) else backK k (i - 1) n w
/-! the law -/
end Go.P3
