/- Cutting a dealing, or another person of the same head: the window's sum stays. No conditions. -/
import Derived.Test.YtfenogdjhadcoaaWatP5
import Derived.Test.YtfenogdjhadcoaaLinkP
set_option linter.constructorNameAsVariable false
set_option linter.unusedVariables false
set_option linter.unusedSimpArgs false
namespace Go.P8

def wf (w : Wt) (h : List Int) (D P : Int) (d : Dl) : Int := if at' h d.2.1 = P ∧ D - w.1 < d.1 then d.2.2 else 0
end Go.P8
