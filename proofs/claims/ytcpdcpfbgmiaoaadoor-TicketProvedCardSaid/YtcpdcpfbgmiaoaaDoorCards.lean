/-
  DERIVED. GIVEN WITH THE SEED: THE CARDS: each row of YtcpdcpfbgmiaoaaDoorRows.lean that lists a variable, with what it lists TIED to the program's text (the seventh form; the later family's looks); each row that meets fmt, with fmt's text TOLD by the authors' own Lean function (tested against real Go, not proved from fmt's source: count such statements apart). THE CARD IS WHAT COUNTS. Prove the row's statement (the work); the ties are given (YtcpdcpfbgmiaoaaDoorTie.lean); close each card by the builder's one call (the guide's Derived/Test/ToyasCard.lean, 'card_holds'). Laid BY PROGRAM, IN A SANDBOX (cutbox-door.mjs). By AI agents, Wed Nov 11 2026. No macro, syntax, notation, axiom, sorry.
-/
import Derived.Test.YtcpdcpfbgmiaoaaDoorRows
import GoSem.ClaimSeven
namespace Go.Proofs.YtcpdcpfbgmiaoaaDoor
namespace Rows

/-- THE TIED CARD OF 'lombardlaw03.TicketCodes'. -/
def ticketCodesCard : Claim7 := { stood := { row := ticketCodesRow, standIns := [], harness := (true, "1137f8ced2db801997bc0e60450897fb4b3d853c95abd6b1f5f39e7719957e75"), looks := true }, kinds := [], alts := [], laidByText := true, laidKinds := [.funcs], laidTests := true, laidLooks := .later }
def TicketCodesCardSaid : Prop := Claim7.holds Tryd.pinned (.plain (OpenSpec.ofChange ticketCodesSpec)) ticketCodesCard

/-- THE TIED CARD OF 'lombardlaw03.TicketFits'. -/
def ticketFitsCard : Claim7 := { stood := { row := ticketFitsRow, standIns := [], harness := (true, "1137f8ced2db801997bc0e60450897fb4b3d853c95abd6b1f5f39e7719957e75"), looks := true }, kinds := [], alts := [], laidByText := true, laidKinds := [.funcs], laidTests := true, laidLooks := .later }
def TicketFitsCardSaid : Prop := Claim7.holds Tryd.pinned (.plain (OpenSpec.ofChange ticketFitsSpec)) ticketFitsCard

/-- THE TIED CARD OF 'lombardlaw03.TicketDigits'. -/
def ticketDigitsCard : Claim7 := { stood := { row := ticketDigitsRow, standIns := [], harness := (true, "1137f8ced2db801997bc0e60450897fb4b3d853c95abd6b1f5f39e7719957e75"), looks := true }, kinds := [], alts := [], laidByText := true, laidKinds := [.funcs], laidTests := true, laidLooks := .later }
def TicketDigitsCardSaid : Prop := Claim7.holds Tryd.pinned (.plain (OpenSpec.ofChange ticketDigitsSpec)) ticketDigitsCard

/-- THE TIED CARD OF 'lombardlaw03.TicketBest'. -/
def ticketBestCard : Claim7 := { stood := { row := ticketBestRow, standIns := [], harness := (true, "1137f8ced2db801997bc0e60450897fb4b3d853c95abd6b1f5f39e7719957e75"), looks := true }, kinds := [], alts := [], laidByText := true, laidKinds := [.funcs], laidTests := true, laidLooks := .later }
def TicketBestCardSaid : Prop := Claim7.holds Tryd.pinned (.plain (OpenSpec.ofChange ticketBestSpec)) ticketBestCard

/-- THE TIED CARD OF 'lombardlaw03.TicketHalves'. -/
def ticketHalvesCard : Claim7 := { stood := { row := ticketHalvesRow, standIns := [], harness := (true, "1137f8ced2db801997bc0e60450897fb4b3d853c95abd6b1f5f39e7719957e75"), looks := true }, kinds := [], alts := [], laidByText := true, laidKinds := [.funcs], laidTests := true, laidLooks := .later }
def TicketHalvesCardSaid : Prop := Claim7.holds Tryd.pinned (.plain (OpenSpec.ofChange ticketHalvesSpec)) ticketHalvesCard

/-- THE TIED CARD OF 'lombardlaw03.TicketRolls'. -/
def ticketRollsCard : Claim7 := { stood := { row := ticketRollsRow, standIns := [], harness := (true, "1137f8ced2db801997bc0e60450897fb4b3d853c95abd6b1f5f39e7719957e75"), looks := true }, kinds := [], alts := [], laidByText := true, laidKinds := [.funcs], laidTests := true, laidLooks := .later }
def TicketRollsCardSaid : Prop := Claim7.holds Tryd.pinned (.plain (OpenSpec.ofChange ticketRollsSpec)) ticketRollsCard

/-- THE TIED CARD OF 'lombardlaw03.TicketOnce'. -/
def ticketOnceCard : Claim7 := { stood := { row := ticketOnceRow, standIns := [], harness := (true, "1137f8ced2db801997bc0e60450897fb4b3d853c95abd6b1f5f39e7719957e75"), looks := true }, kinds := [], alts := [], laidByText := true, laidKinds := [.funcs], laidTests := true, laidLooks := .later }
def TicketOnceCardSaid : Prop := Claim7.holds Tryd.pinned (.plain (OpenSpec.ofChange ticketOnceSpec)) ticketOnceCard

/-- THE TIED CARD OF 'lombardlaw03.TicketRefuses'. -/
def ticketRefusesCard : Claim7 := { stood := { row := ticketRefusesRow, standIns := [], harness := (true, "1137f8ced2db801997bc0e60450897fb4b3d853c95abd6b1f5f39e7719957e75"), looks := true }, kinds := [], alts := [], laidByText := true, laidKinds := [.funcs], laidTests := true, laidLooks := .later }
def TicketRefusesCardSaid : Prop := Claim7.holds Tryd.pinned (.plain (OpenSpec.ofChange ticketRefusesSpec)) ticketRefusesCard

/-- THE TIED CARD OF 'lombardlaw03.TicketProper'. -/
def ticketProperCard : Claim7 := { stood := { row := ticketProperRow, standIns := [], harness := (true, "1137f8ced2db801997bc0e60450897fb4b3d853c95abd6b1f5f39e7719957e75"), looks := true }, kinds := [], alts := [], laidByText := true, laidKinds := [.funcs], laidTests := true, laidLooks := .later }
def TicketProperCardSaid : Prop := Claim7.holds Tryd.pinned (.plain (OpenSpec.ofChange ticketProperSpec)) ticketProperCard

/-- THE TIED CARD OF 'lombardlaw03.TicketProved'. -/
def ticketProvedCard : Claim7 := { stood := { row := ticketProvedRow, standIns := [], harness := (true, "1137f8ced2db801997bc0e60450897fb4b3d853c95abd6b1f5f39e7719957e75"), looks := true }, kinds := [], alts := [], laidByText := true, laidKinds := [.funcs], laidTests := true, laidLooks := .later }
def TicketProvedCardSaid : Prop := Claim7.holds Tryd.pinned (.plain (OpenSpec.ofChange ticketProvedSpec)) ticketProvedCard

/-- THE TIED CARD OF 'lombardlaw03.TicketKnown'. -/
def ticketKnownCard : Claim7 := { stood := { row := ticketKnownRow, standIns := [], harness := (true, "1137f8ced2db801997bc0e60450897fb4b3d853c95abd6b1f5f39e7719957e75"), looks := true }, kinds := [], alts := [], laidByText := true, laidKinds := [.funcs], laidTests := true, laidLooks := .later }
def TicketKnownCardSaid : Prop := Claim7.holds Tryd.pinned (.plain (OpenSpec.ofChange ticketKnownSpec)) ticketKnownCard

/-- THE SECOND FORM's CARD OF 'lombardlaw03.TicketCodes'. -/
def ticketCodesUptoCard : Claim7 := { stood := { row := ticketCodesUptoRow, standIns := [], harness := (true, "1137f8ced2db801997bc0e60450897fb4b3d853c95abd6b1f5f39e7719957e75"), looks := true }, kinds := [], alts := [], laidByText := true, laidKinds := [.funcs], laidTests := true, laidLooks := .later }
def TicketCodesUptoCardSaid : Prop := Claim7.holds Tryd.pinned (.plain (OpenSpec.upto ticketCodesSpec)) ticketCodesUptoCard

/-- THE SECOND FORM's CARD OF 'lombardlaw03.TicketFits'. -/
def ticketFitsUptoCard : Claim7 := { stood := { row := ticketFitsUptoRow, standIns := [], harness := (true, "1137f8ced2db801997bc0e60450897fb4b3d853c95abd6b1f5f39e7719957e75"), looks := true }, kinds := [], alts := [], laidByText := true, laidKinds := [.funcs], laidTests := true, laidLooks := .later }
def TicketFitsUptoCardSaid : Prop := Claim7.holds Tryd.pinned (.plain (OpenSpec.upto ticketFitsSpec)) ticketFitsUptoCard

/-- THE SECOND FORM's CARD OF 'lombardlaw03.TicketDigits'. -/
def ticketDigitsUptoCard : Claim7 := { stood := { row := ticketDigitsUptoRow, standIns := [], harness := (true, "1137f8ced2db801997bc0e60450897fb4b3d853c95abd6b1f5f39e7719957e75"), looks := true }, kinds := [], alts := [], laidByText := true, laidKinds := [.funcs], laidTests := true, laidLooks := .later }
def TicketDigitsUptoCardSaid : Prop := Claim7.holds Tryd.pinned (.plain (OpenSpec.upto ticketDigitsSpec)) ticketDigitsUptoCard

/-- THE SECOND FORM's CARD OF 'lombardlaw03.TicketBest'. -/
def ticketBestUptoCard : Claim7 := { stood := { row := ticketBestUptoRow, standIns := [], harness := (true, "1137f8ced2db801997bc0e60450897fb4b3d853c95abd6b1f5f39e7719957e75"), looks := true }, kinds := [], alts := [], laidByText := true, laidKinds := [.funcs], laidTests := true, laidLooks := .later }
def TicketBestUptoCardSaid : Prop := Claim7.holds Tryd.pinned (.plain (OpenSpec.upto ticketBestSpec)) ticketBestUptoCard

/-- THE SECOND FORM's CARD OF 'lombardlaw03.TicketHalves'. -/
def ticketHalvesUptoCard : Claim7 := { stood := { row := ticketHalvesUptoRow, standIns := [], harness := (true, "1137f8ced2db801997bc0e60450897fb4b3d853c95abd6b1f5f39e7719957e75"), looks := true }, kinds := [], alts := [], laidByText := true, laidKinds := [.funcs], laidTests := true, laidLooks := .later }
def TicketHalvesUptoCardSaid : Prop := Claim7.holds Tryd.pinned (.plain (OpenSpec.upto ticketHalvesSpec)) ticketHalvesUptoCard

/-- THE SECOND FORM's CARD OF 'lombardlaw03.TicketRolls'. -/
def ticketRollsUptoCard : Claim7 := { stood := { row := ticketRollsUptoRow, standIns := [], harness := (true, "1137f8ced2db801997bc0e60450897fb4b3d853c95abd6b1f5f39e7719957e75"), looks := true }, kinds := [], alts := [], laidByText := true, laidKinds := [.funcs], laidTests := true, laidLooks := .later }
def TicketRollsUptoCardSaid : Prop := Claim7.holds Tryd.pinned (.plain (OpenSpec.upto ticketRollsSpec)) ticketRollsUptoCard

/-- THE SECOND FORM's CARD OF 'lombardlaw03.TicketOnce'. -/
def ticketOnceUptoCard : Claim7 := { stood := { row := ticketOnceUptoRow, standIns := [], harness := (true, "1137f8ced2db801997bc0e60450897fb4b3d853c95abd6b1f5f39e7719957e75"), looks := true }, kinds := [], alts := [], laidByText := true, laidKinds := [.funcs], laidTests := true, laidLooks := .later }
def TicketOnceUptoCardSaid : Prop := Claim7.holds Tryd.pinned (.plain (OpenSpec.upto ticketOnceSpec)) ticketOnceUptoCard

/-- THE SECOND FORM's CARD OF 'lombardlaw03.TicketRefuses'. -/
def ticketRefusesUptoCard : Claim7 := { stood := { row := ticketRefusesUptoRow, standIns := [], harness := (true, "1137f8ced2db801997bc0e60450897fb4b3d853c95abd6b1f5f39e7719957e75"), looks := true }, kinds := [], alts := [], laidByText := true, laidKinds := [.funcs], laidTests := true, laidLooks := .later }
def TicketRefusesUptoCardSaid : Prop := Claim7.holds Tryd.pinned (.plain (OpenSpec.upto ticketRefusesSpec)) ticketRefusesUptoCard

/-- THE SECOND FORM's CARD OF 'lombardlaw03.TicketProper'. -/
def ticketProperUptoCard : Claim7 := { stood := { row := ticketProperUptoRow, standIns := [], harness := (true, "1137f8ced2db801997bc0e60450897fb4b3d853c95abd6b1f5f39e7719957e75"), looks := true }, kinds := [], alts := [], laidByText := true, laidKinds := [.funcs], laidTests := true, laidLooks := .later }
def TicketProperUptoCardSaid : Prop := Claim7.holds Tryd.pinned (.plain (OpenSpec.upto ticketProperSpec)) ticketProperUptoCard

/-- THE SECOND FORM's CARD OF 'lombardlaw03.TicketProved'. -/
def ticketProvedUptoCard : Claim7 := { stood := { row := ticketProvedUptoRow, standIns := [], harness := (true, "1137f8ced2db801997bc0e60450897fb4b3d853c95abd6b1f5f39e7719957e75"), looks := true }, kinds := [], alts := [], laidByText := true, laidKinds := [.funcs], laidTests := true, laidLooks := .later }
def TicketProvedUptoCardSaid : Prop := Claim7.holds Tryd.pinned (.plain (OpenSpec.upto ticketProvedSpec)) ticketProvedUptoCard

/-- THE SECOND FORM's CARD OF 'lombardlaw03.TicketKnown'. -/
def ticketKnownUptoCard : Claim7 := { stood := { row := ticketKnownUptoRow, standIns := [], harness := (true, "1137f8ced2db801997bc0e60450897fb4b3d853c95abd6b1f5f39e7719957e75"), looks := true }, kinds := [], alts := [], laidByText := true, laidKinds := [.funcs], laidTests := true, laidLooks := .later }
def TicketKnownUptoCardSaid : Prop := Claim7.holds Tryd.pinned (.plain (OpenSpec.upto ticketKnownSpec)) ticketKnownUptoCard
end Rows
end Go.Proofs.YtcpdcpfbgmiaoaaDoor
