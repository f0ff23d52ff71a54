/- Rolls: the statements that ask the program alone: states and what is to be shown, reduced. No conditions. -/
import Derived.Test.YtcpdcpfbgmiaoaaDoorRollF
import Derived.Test.YtcpdcpfbgmiaoaaDoorFit2S
set_option linter.unusedSimpArgs false
set_option linter.unusedVariables false
set_option linter.constructorNameAsVariable false
set_option maxRecDepth 100000
set_option maxHeartbeats 2000000
namespace Go.P3
open Go.Lom Go.Proofs Go

abbrev LC' : Ty := .sl CT
/-- What a statement of rolls may take: what Go lets lists and texts be. -/
structure okLs (l : List Cl) : Prop where
  len : l.length ≤ big
  all : ∀ c ∈ l, okCl c
/-! TicketHalves -/
abbrev fcLawC : FC := ⟨[.v I, .v LC'], [.b], fun x K => okLs x.2.1 ∧ K (true, ())⟩
end Go.P3
