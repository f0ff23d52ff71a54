/- Payments: the fewest pieces. No conditions. -/
set_option linter.unusedVariables false
set_option linter.unusedSimpArgs false
namespace Go.P8

def lst (cs hv : List Int) (k : Int) : List (Int × Int) := (cs.zip hv).drop k.toNat
structure okC (cs hv : List Int) : Prop where
  len : hv.length = cs.length ∧ cs.length ≤ 8
  coins : ∀ c ∈ cs, 1 ≤ c ∧ c ≤ 50000
  haves : ∀ h ∈ hv, 0 ≤ h ∧ h ≤ 100
  dec : ∀ i j : Nat, i < j → j < cs.length → cs.getD j 0 < cs.getD i 0


end Go.P8
