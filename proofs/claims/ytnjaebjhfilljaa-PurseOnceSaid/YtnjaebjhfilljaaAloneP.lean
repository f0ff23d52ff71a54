/- The law of some alone: the code answers true, of lists that are not too long. No conditions. -/
import Derived.Test.YtnjaebjhfilljaaFairS
import Derived.Test.YtnjaebjhfilljaaFairP
import Derived.Test.YtnjaebjhfilljaaUniqL
set_option linter.constructorNameAsVariable false
set_option linter.unusedVariables false
set_option linter.unusedSimpArgs false
set_option maxRecDepth 100000
namespace Go.P7
open Go.Lom Go.Proofs Go


theorem getD_out {l : List Int} {k : Nat} (h : ¬ k < l.length) : l.getD k 0 = 0 := by
  rw [List.getD_eq_getElem?_getD, List.getElem?_eq_none (by omega)]; rfl



end Go.P7
