/- Spread of both sides; the laws of shares and of ranks: the code answers true. No conditions. -/
import Derived.Test.YtnjaebjhfilljaaRanksS
import Derived.Test.YtnjaebjhfilljaaAloneP
import Derived.Test.YtnjaebjhfilljaaRanksL
set_option linter.constructorNameAsVariable false
set_option linter.unusedVariables false
set_option linter.unusedSimpArgs false
set_option maxRecDepth 100000
namespace Go.P7
open Go.Lom Go.Proofs Go

theorem spread_upto {l : List (Int × Int)} {s : Int} (hv : validD l = true) (h0 : 0 ≤ s) (h1 : s ≤ 34359738368) : Upto l s 10 (spreadL l s).1 (spreadL l s).2 :=
  upto_all hv 10 0 s _ _ _ (upto_start hv h0 h1) rfl



end Go.P7
