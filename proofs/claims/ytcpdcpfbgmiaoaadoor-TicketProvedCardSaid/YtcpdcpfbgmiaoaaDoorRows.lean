/-
  NARROWER THAN 'FOR EVERY INPUT', by the rows' own cells (each row's printed sentence says how): TicketCodes: laid · TicketFits: laid · TicketDigits: laid · TicketBest: laid · TicketHalves: laid · TicketRolls: laid · TicketOnce: laid · TicketRefuses: laid · TicketProper: laid · TicketProved: laid · TicketKnown: laid.
  DERIVED. THE GIVEN ROWS OF THIS SEAT. 11 by the template 'for every input the law returns true; each argument reads behind the call as it read before'; 0 by the template 'total and deterministic' (their statements: YtcpdcpfbgmiaoaaDoorTotals.lean).
  GIVEN WITH THE SEED: the statements are not yours to turn. If you find one false, say at which input.
  Laid BY PROGRAM, IN A SANDBOX (cutbox-rows.mjs): the forced cells as the released guide's own fill.sh prints them over the translation da8bc630c168f0d9… (all of the seat's roots in one cut). By AI agents, Wed Nov 11 2026. No macro, syntax, notation, axiom, sorry.
-/
import Derived.Test.YtcpdcpfbgmiaoaaDoorChecked
import GoSem.Claim
import GoSem.ClaimJoined
import GoSem.ClaimMapViews
import Derived.JoinedTies
import Derived.KernelRfl
namespace Go.Proofs.YtcpdcpfbgmiaoaaDoor
/- THE CELL 'sum', in the pinned program and in every row, IS THE sha256 OF THE DUMP (.gsa) THAT YtcpdcpfbgmiaoaaDoorProg.lean LOADS. Nothing in Lean hashes anything: it is a label: what it is worth is what the hold of that sum in a sandbox is worth. -/
noncomputable def Tryd.pinned : Pinned := { name := "ytcpdcpfbgmiaoaadoor", sum := "da8bc630c168f0d98c0bdb5ea5ffa817b1f0eff83649895242b994227b8a81a6", checked := Tryd.checked }
namespace Rows
def none {H : Type} : Left H := { results := [], args := [] }

/- WHAT THE LISTED PACKAGE-LEVEL VARIABLES READ AS WHEN THE CALL BEGINS. Each datum BY PROGRAM (the guide's laid-datum.mjs) off the statement by which the dump's own 'gosem.cut.vars' lays the variable. In a bare row this is a premise. The card (YtcpdcpfbgmiaoaaDoorCards.lean) ties it to the program's text. -/
def laid_lombard_ticket_calls {H : Type} : DataW H := .iface "func table" (.map [(.int .i64 1, .iface "func" (.lit (.string [40, 42, 108, 111, 109, 98, 97, 114, 100, 47, 116, 105, 99, 107, 101, 116, 46, 115, 116, 97, 116, 101, 41, 46, 105, 115, 115, 117, 101]))), (.int .i64 2, .iface "func" (.lit (.string [40, 42, 108, 111, 109, 98, 97, 114, 100, 47, 116, 105, 99, 107, 101, 116, 46, 115, 116, 97, 116, 101, 41, 46, 98, 108, 111, 99, 107]))), (.int .i64 3, .iface "func" (.lit (.string [40, 42, 108, 111, 109, 98, 97, 114, 100, 47, 116, 105, 99, 107, 101, 116, 46, 115, 116, 97, 116, 101, 41, 46, 102, 114, 101, 101]))), (.int .i64 4, .iface "func" (.lit (.string [40, 42, 108, 111, 109, 98, 97, 114, 100, 47, 116, 105, 99, 107, 101, 116, 46, 115, 116, 97, 116, 101, 41, 46, 114, 101, 112, 108, 97, 99, 101]))), (.int .i64 5, .iface "func" (.lit (.string [40, 42, 108, 111, 109, 98, 97, 114, 100, 47, 116, 105, 99, 107, 101, 116, 46, 115, 116, 97, 116, 101, 41, 46, 100, 105, 118, 105, 100, 101]))), (.int .i64 6, .iface "func" (.lit (.string [40, 42, 108, 111, 109, 98, 97, 114, 100, 47, 116, 105, 99, 107, 101, 116, 46, 115, 116, 97, 116, 101, 41, 46, 114, 101, 100, 101, 101, 109]))), (.int .i64 7, .iface "func" (.lit (.string [40, 42, 108, 111, 109, 98, 97, 114, 100, 47, 116, 105, 99, 107, 101, 116, 46, 115, 116, 97, 116, 101, 41, 46, 102, 111, 114, 102, 101, 105, 116])))])

/-- 'lombardlaw03.TicketCodes': WHATEVER THE INPUT: true; the input reads as it did. -/
def ticketCodesSpec : ChangeSpec := { name := "ticketCodes", fn := fun _ => fun
  | [d1, d2, d3] => { results := [.lit (.bool true)], args := [d1, d2, d3] }
  | _ => none }
def ticketCodesRow : OpenClaim := { program := "ytcpdcpfbgmiaoaadoor", sum := "da8bc630c168f0d98c0bdb5ea5ffa817b1f0eff83649895242b994227b8a81a6", func := "lombard/lombardlaw03.TicketCodes", spec := "ticketCodes", unfollowed := true, recurses := true, named := ["lombard/ticket.calls"], apart := false, laid := [("lombard/ticket.calls", laid_lombard_ticket_calls)] }
def TicketCodesSaid : Prop := ticketCodesRow.holds Tryd.pinned (OpenSpec.ofChange ticketCodesSpec)

/-- ITS FALSE NEIGHBOUR: 'it returns false'. Refute it at one input. -/
def ticketCodesWrong : ChangeSpec := { name := "ticketCodes", fn := fun _ => fun
  | [d1, d2, d3] => { results := [.lit (.bool false)], args := [d1, d2, d3] }
  | _ => none }
def TicketCodesWrongFalsely : Prop := ticketCodesRow.holds Tryd.pinned (OpenSpec.ofChange ticketCodesWrong)

/-- 'lombardlaw03.TicketFits': WHATEVER THE INPUT: true; the input reads as it did. -/
def ticketFitsSpec : ChangeSpec := { name := "ticketFits", fn := fun _ => fun
  | [d1, d2, d3] => { results := [.lit (.bool true)], args := [d1, d2, d3] }
  | _ => none }
def ticketFitsRow : OpenClaim := { program := "ytcpdcpfbgmiaoaadoor", sum := "da8bc630c168f0d98c0bdb5ea5ffa817b1f0eff83649895242b994227b8a81a6", func := "lombard/lombardlaw03.TicketFits", spec := "ticketFits", unfollowed := true, recurses := true, named := ["lombard/ticket.calls"], apart := false, laid := [("lombard/ticket.calls", laid_lombard_ticket_calls)] }
def TicketFitsSaid : Prop := ticketFitsRow.holds Tryd.pinned (OpenSpec.ofChange ticketFitsSpec)

/-- ITS FALSE NEIGHBOUR: 'it returns false'. Refute it at one input. -/
def ticketFitsWrong : ChangeSpec := { name := "ticketFits", fn := fun _ => fun
  | [d1, d2, d3] => { results := [.lit (.bool false)], args := [d1, d2, d3] }
  | _ => none }
def TicketFitsWrongFalsely : Prop := ticketFitsRow.holds Tryd.pinned (OpenSpec.ofChange ticketFitsWrong)

/-- 'lombardlaw03.TicketDigits': WHATEVER THE INPUT: true; the input reads as it did. -/
def ticketDigitsSpec : ChangeSpec := { name := "ticketDigits", fn := fun _ => fun
  | [d1, d2, d3] => { results := [.lit (.bool true)], args := [d1, d2, d3] }
  | _ => none }
def ticketDigitsRow : OpenClaim := { program := "ytcpdcpfbgmiaoaadoor", sum := "da8bc630c168f0d98c0bdb5ea5ffa817b1f0eff83649895242b994227b8a81a6", func := "lombard/lombardlaw03.TicketDigits", spec := "ticketDigits", unfollowed := true, recurses := true, named := ["lombard/ticket.calls"], apart := false, laid := [("lombard/ticket.calls", laid_lombard_ticket_calls)] }
def TicketDigitsSaid : Prop := ticketDigitsRow.holds Tryd.pinned (OpenSpec.ofChange ticketDigitsSpec)

/-- ITS FALSE NEIGHBOUR: 'it returns false'. Refute it at one input. -/
def ticketDigitsWrong : ChangeSpec := { name := "ticketDigits", fn := fun _ => fun
  | [d1, d2, d3] => { results := [.lit (.bool false)], args := [d1, d2, d3] }
  | _ => none }
def TicketDigitsWrongFalsely : Prop := ticketDigitsRow.holds Tryd.pinned (OpenSpec.ofChange ticketDigitsWrong)

/-- 'lombardlaw03.TicketBest': WHATEVER THE INPUT: true; the input reads as it did. -/
def ticketBestSpec : ChangeSpec := { name := "ticketBest", fn := fun _ => fun
  | [d1, d2] => { results := [.lit (.bool true)], args := [d1, d2] }
  | _ => none }
def ticketBestRow : OpenClaim := { program := "ytcpdcpfbgmiaoaadoor", sum := "da8bc630c168f0d98c0bdb5ea5ffa817b1f0eff83649895242b994227b8a81a6", func := "lombard/lombardlaw03.TicketBest", spec := "ticketBest", unfollowed := true, recurses := true, named := ["lombard/ticket.calls"], apart := false, laid := [("lombard/ticket.calls", laid_lombard_ticket_calls)] }
def TicketBestSaid : Prop := ticketBestRow.holds Tryd.pinned (OpenSpec.ofChange ticketBestSpec)

/-- ITS FALSE NEIGHBOUR: 'it returns false'. Refute it at one input. -/
def ticketBestWrong : ChangeSpec := { name := "ticketBest", fn := fun _ => fun
  | [d1, d2] => { results := [.lit (.bool false)], args := [d1, d2] }
  | _ => none }
def TicketBestWrongFalsely : Prop := ticketBestRow.holds Tryd.pinned (OpenSpec.ofChange ticketBestWrong)

/-- 'lombardlaw03.TicketHalves': WHATEVER THE INPUT: true; the input reads as it did. -/
def ticketHalvesSpec : ChangeSpec := { name := "ticketHalves", fn := fun _ => fun
  | [d1, d2] => { results := [.lit (.bool true)], args := [d1, d2] }
  | _ => none }
def ticketHalvesRow : OpenClaim := { program := "ytcpdcpfbgmiaoaadoor", sum := "da8bc630c168f0d98c0bdb5ea5ffa817b1f0eff83649895242b994227b8a81a6", func := "lombard/lombardlaw03.TicketHalves", spec := "ticketHalves", unfollowed := true, recurses := true, named := ["lombard/ticket.calls"], apart := false, laid := [("lombard/ticket.calls", laid_lombard_ticket_calls)] }
def TicketHalvesSaid : Prop := ticketHalvesRow.holds Tryd.pinned (OpenSpec.ofChange ticketHalvesSpec)

/-- ITS FALSE NEIGHBOUR: 'it returns false'. Refute it at one input. -/
def ticketHalvesWrong : ChangeSpec := { name := "ticketHalves", fn := fun _ => fun
  | [d1, d2] => { results := [.lit (.bool false)], args := [d1, d2] }
  | _ => none }
def TicketHalvesWrongFalsely : Prop := ticketHalvesRow.holds Tryd.pinned (OpenSpec.ofChange ticketHalvesWrong)

/-- 'lombardlaw03.TicketRolls': WHATEVER THE INPUT: true; the input reads as it did. -/
def ticketRollsSpec : ChangeSpec := { name := "ticketRolls", fn := fun _ => fun
  | [d1, d2] => { results := [.lit (.bool true)], args := [d1, d2] }
  | _ => none }
def ticketRollsRow : OpenClaim := { program := "ytcpdcpfbgmiaoaadoor", sum := "da8bc630c168f0d98c0bdb5ea5ffa817b1f0eff83649895242b994227b8a81a6", func := "lombard/lombardlaw03.TicketRolls", spec := "ticketRolls", unfollowed := true, recurses := true, named := ["lombard/ticket.calls"], apart := false, laid := [("lombard/ticket.calls", laid_lombard_ticket_calls)] }
def TicketRollsSaid : Prop := ticketRollsRow.holds Tryd.pinned (OpenSpec.ofChange ticketRollsSpec)

/-- ITS FALSE NEIGHBOUR: 'it returns false'. Refute it at one input. -/
def ticketRollsWrong : ChangeSpec := { name := "ticketRolls", fn := fun _ => fun
  | [d1, d2] => { results := [.lit (.bool false)], args := [d1, d2] }
  | _ => none }
def TicketRollsWrongFalsely : Prop := ticketRollsRow.holds Tryd.pinned (OpenSpec.ofChange ticketRollsWrong)

/-- 'lombardlaw03.TicketOnce': WHATEVER THE INPUT: true; the input reads as it did. -/
def ticketOnceSpec : ChangeSpec := { name := "ticketOnce", fn := fun _ => fun
  | [d1, d2] => { results := [.lit (.bool true)], args := [d1, d2] }
  | _ => none }
def ticketOnceRow : OpenClaim := { program := "ytcpdcpfbgmiaoaadoor", sum := "da8bc630c168f0d98c0bdb5ea5ffa817b1f0eff83649895242b994227b8a81a6", func := "lombard/lombardlaw03.TicketOnce", spec := "ticketOnce", unfollowed := true, recurses := true, named := ["lombard/ticket.calls"], apart := false, laid := [("lombard/ticket.calls", laid_lombard_ticket_calls)] }
def TicketOnceSaid : Prop := ticketOnceRow.holds Tryd.pinned (OpenSpec.ofChange ticketOnceSpec)

/-- ITS FALSE NEIGHBOUR: 'it returns false'. Refute it at one input. -/
def ticketOnceWrong : ChangeSpec := { name := "ticketOnce", fn := fun _ => fun
  | [d1, d2] => { results := [.lit (.bool false)], args := [d1, d2] }
  | _ => none }
def TicketOnceWrongFalsely : Prop := ticketOnceRow.holds Tryd.pinned (OpenSpec.ofChange ticketOnceWrong)

/-- 'lombardlaw03.TicketRefuses': WHATEVER THE INPUT: true; the input reads as it did. -/
def ticketRefusesSpec : ChangeSpec := { name := "ticketRefuses", fn := fun _ => fun
  | [d1, d2, d3] => { results := [.lit (.bool true)], args := [d1, d2, d3] }
  | _ => none }
def ticketRefusesRow : OpenClaim := { program := "ytcpdcpfbgmiaoaadoor", sum := "da8bc630c168f0d98c0bdb5ea5ffa817b1f0eff83649895242b994227b8a81a6", func := "lombard/lombardlaw03.TicketRefuses", spec := "ticketRefuses", unfollowed := true, recurses := true, named := ["lombard/ticket.calls"], apart := false, laid := [("lombard/ticket.calls", laid_lombard_ticket_calls)] }
def TicketRefusesSaid : Prop := ticketRefusesRow.holds Tryd.pinned (OpenSpec.ofChange ticketRefusesSpec)

/-- ITS FALSE NEIGHBOUR: 'it returns false'. Refute it at one input. -/
def ticketRefusesWrong : ChangeSpec := { name := "ticketRefuses", fn := fun _ => fun
  | [d1, d2, d3] => { results := [.lit (.bool false)], args := [d1, d2, d3] }
  | _ => none }
def TicketRefusesWrongFalsely : Prop := ticketRefusesRow.holds Tryd.pinned (OpenSpec.ofChange ticketRefusesWrong)

/-- 'lombardlaw03.TicketProper': WHATEVER THE INPUT: true; the input reads as it did. -/
def ticketProperSpec : ChangeSpec := { name := "ticketProper", fn := fun _ => fun
  | [d1, d2, d3] => { results := [.lit (.bool true)], args := [d1, d2, d3] }
  | _ => none }
def ticketProperRow : OpenClaim := { program := "ytcpdcpfbgmiaoaadoor", sum := "da8bc630c168f0d98c0bdb5ea5ffa817b1f0eff83649895242b994227b8a81a6", func := "lombard/lombardlaw03.TicketProper", spec := "ticketProper", unfollowed := true, recurses := true, named := ["lombard/ticket.calls"], apart := false, laid := [("lombard/ticket.calls", laid_lombard_ticket_calls)] }
def TicketProperSaid : Prop := ticketProperRow.holds Tryd.pinned (OpenSpec.ofChange ticketProperSpec)

/-- ITS FALSE NEIGHBOUR: 'it returns false'. Refute it at one input. -/
def ticketProperWrong : ChangeSpec := { name := "ticketProper", fn := fun _ => fun
  | [d1, d2, d3] => { results := [.lit (.bool false)], args := [d1, d2, d3] }
  | _ => none }
def TicketProperWrongFalsely : Prop := ticketProperRow.holds Tryd.pinned (OpenSpec.ofChange ticketProperWrong)

/-- 'lombardlaw03.TicketProved': WHATEVER THE INPUT: true; the input reads as it did. -/
def ticketProvedSpec : ChangeSpec := { name := "ticketProved", fn := fun _ => fun
  | [d1, d2, d3] => { results := [.lit (.bool true)], args := [d1, d2, d3] }
  | _ => none }
def ticketProvedRow : OpenClaim := { program := "ytcpdcpfbgmiaoaadoor", sum := "da8bc630c168f0d98c0bdb5ea5ffa817b1f0eff83649895242b994227b8a81a6", func := "lombard/lombardlaw03.TicketProved", spec := "ticketProved", unfollowed := true, recurses := true, named := ["lombard/ticket.calls"], apart := false, laid := [("lombard/ticket.calls", laid_lombard_ticket_calls)] }
def TicketProvedSaid : Prop := ticketProvedRow.holds Tryd.pinned (OpenSpec.ofChange ticketProvedSpec)

/-- ITS FALSE NEIGHBOUR: 'it returns false'. Refute it at one input. -/
def ticketProvedWrong : ChangeSpec := { name := "ticketProved", fn := fun _ => fun
  | [d1, d2, d3] => { results := [.lit (.bool false)], args := [d1, d2, d3] }
  | _ => none }
def TicketProvedWrongFalsely : Prop := ticketProvedRow.holds Tryd.pinned (OpenSpec.ofChange ticketProvedWrong)

/-- 'lombardlaw03.TicketKnown': WHATEVER THE INPUT: true; the input reads as it did. -/
def ticketKnownSpec : ChangeSpec := { name := "ticketKnown", fn := fun _ => fun
  | [] => { results := [.lit (.bool true)], args := [] }
  | _ => none }
def ticketKnownRow : OpenClaim := { program := "ytcpdcpfbgmiaoaadoor", sum := "da8bc630c168f0d98c0bdb5ea5ffa817b1f0eff83649895242b994227b8a81a6", func := "lombard/lombardlaw03.TicketKnown", spec := "ticketKnown", unfollowed := true, recurses := true, named := ["lombard/ticket.calls"], apart := false, laid := [("lombard/ticket.calls", laid_lombard_ticket_calls)] }
def TicketKnownSaid : Prop := ticketKnownRow.holds Tryd.pinned (OpenSpec.ofChange ticketKnownSpec)

/-- ITS FALSE NEIGHBOUR: 'it returns false'. Refute it at one input. -/
def ticketKnownWrong : ChangeSpec := { name := "ticketKnown", fn := fun _ => fun
  | [] => { results := [.lit (.bool false)], args := [] }
  | _ => none }
def TicketKnownWrongFalsely : Prop := ticketKnownRow.holds Tryd.pinned (OpenSpec.ofChange ticketKnownWrong)

/- THE SECOND FORM. 'bulk': how many values and letters a reading holds, each counted each time it is reached (what is shared counts as often as it is met; a slice's spare places count too). A statement '..UptoSaid' is the law's where the arguments, and the package variables that the reading takes, are together of bulk at most 1048576: NARROWER than '..Said'. Prove '..Said' where nothing that the law and all that it calls make is longer than what came in: it says more and counts as full. Else prove '..UptoSaid'. A law counts once. -/
mutual
def uptoBulk {H : Type} : DataW H → Nat
  | .lit (.string bytes) => bytes.length + 1
  | .lit _ => 1
  | .nil => 1
  | .ptr d => uptoBulk d + 1
  | .slice elems spare => uptoBulkAll elems + uptoBulkAll spare + 1
  | .agg parts => uptoBulkAll parts + 1
  | .iface _ d => uptoBulk d + 1
  | .map entries => uptoBulkEntries entries + 1
  | .held _ => 1
def uptoBulkAll {H : Type} : List (DataW H) → Nat
  | [] => 0
  | d :: r => uptoBulk d + uptoBulkAll r
def uptoBulkEntries {H : Type} : List (Lit × DataW H) → Nat
  | [] => 0
  | x :: r => uptoBulkEntry x + uptoBulkEntries r
def uptoBulkEntry {H : Type} : Lit × DataW H → Nat
  | (.string bytes, d) => bytes.length + uptoBulk d + 1
  | (_, d) => uptoBulk d + 1
 end
def uptoSmall : (H : Type) → List (DataW H) → Bool := fun _ ds => decide (uptoBulkAll ds ≤ 1048576)
def OpenSpec.upto (s : _root_.Go.ChangeSpec) : _root_.Go.OpenSpec := { _root_.Go.OpenSpec.ofChange s with cond := some uptoSmall }

/-- 'lombardlaw03.TicketCodes', WHERE WHAT IT READS IS OF BULK AT MOST 1048576: true; the input reads as it did. -/
def ticketCodesUptoRow : OpenClaim := { program := "ytcpdcpfbgmiaoaadoor", sum := "da8bc630c168f0d98c0bdb5ea5ffa817b1f0eff83649895242b994227b8a81a6", func := "lombard/lombardlaw03.TicketCodes", spec := "ticketCodes", unfollowed := true, recurses := true, named := ["lombard/ticket.calls"], apart := false, laid := [("lombard/ticket.calls", laid_lombard_ticket_calls)], narrowed := true }
def TicketCodesUptoSaid : Prop := ticketCodesUptoRow.holds Tryd.pinned (OpenSpec.upto ticketCodesSpec)

/-- 'lombardlaw03.TicketFits', WHERE WHAT IT READS IS OF BULK AT MOST 1048576: true; the input reads as it did. -/
def ticketFitsUptoRow : OpenClaim := { program := "ytcpdcpfbgmiaoaadoor", sum := "da8bc630c168f0d98c0bdb5ea5ffa817b1f0eff83649895242b994227b8a81a6", func := "lombard/lombardlaw03.TicketFits", spec := "ticketFits", unfollowed := true, recurses := true, named := ["lombard/ticket.calls"], apart := false, laid := [("lombard/ticket.calls", laid_lombard_ticket_calls)], narrowed := true }
def TicketFitsUptoSaid : Prop := ticketFitsUptoRow.holds Tryd.pinned (OpenSpec.upto ticketFitsSpec)

/-- 'lombardlaw03.TicketDigits', WHERE WHAT IT READS IS OF BULK AT MOST 1048576: true; the input reads as it did. -/
def ticketDigitsUptoRow : OpenClaim := { program := "ytcpdcpfbgmiaoaadoor", sum := "da8bc630c168f0d98c0bdb5ea5ffa817b1f0eff83649895242b994227b8a81a6", func := "lombard/lombardlaw03.TicketDigits", spec := "ticketDigits", unfollowed := true, recurses := true, named := ["lombard/ticket.calls"], apart := false, laid := [("lombard/ticket.calls", laid_lombard_ticket_calls)], narrowed := true }
def TicketDigitsUptoSaid : Prop := ticketDigitsUptoRow.holds Tryd.pinned (OpenSpec.upto ticketDigitsSpec)

/-- 'lombardlaw03.TicketBest', WHERE WHAT IT READS IS OF BULK AT MOST 1048576: true; the input reads as it did. -/
def ticketBestUptoRow : OpenClaim := { program := "ytcpdcpfbgmiaoaadoor", sum := "da8bc630c168f0d98c0bdb5ea5ffa817b1f0eff83649895242b994227b8a81a6", func := "lombard/lombardlaw03.TicketBest", spec := "ticketBest", unfollowed := true, recurses := true, named := ["lombard/ticket.calls"], apart := false, laid := [("lombard/ticket.calls", laid_lombard_ticket_calls)], narrowed := true }
def TicketBestUptoSaid : Prop := ticketBestUptoRow.holds Tryd.pinned (OpenSpec.upto ticketBestSpec)

/-- 'lombardlaw03.TicketHalves', WHERE WHAT IT READS IS OF BULK AT MOST 1048576: true; the input reads as it did. -/
def ticketHalvesUptoRow : OpenClaim := { program := "ytcpdcpfbgmiaoaadoor", sum := "da8bc630c168f0d98c0bdb5ea5ffa817b1f0eff83649895242b994227b8a81a6", func := "lombard/lombardlaw03.TicketHalves", spec := "ticketHalves", unfollowed := true, recurses := true, named := ["lombard/ticket.calls"], apart := false, laid := [("lombard/ticket.calls", laid_lombard_ticket_calls)], narrowed := true }
def TicketHalvesUptoSaid : Prop := ticketHalvesUptoRow.holds Tryd.pinned (OpenSpec.upto ticketHalvesSpec)

/-- 'lombardlaw03.TicketRolls', WHERE WHAT IT READS IS OF BULK AT MOST 1048576: true; the input reads as it did. -/
def ticketRollsUptoRow : OpenClaim := { program := "ytcpdcpfbgmiaoaadoor", sum := "da8bc630c168f0d98c0bdb5ea5ffa817b1f0eff83649895242b994227b8a81a6", func := "lombard/lombardlaw03.TicketRolls", spec := "ticketRolls", unfollowed := true, recurses := true, named := ["lombard/ticket.calls"], apart := false, laid := [("lombard/ticket.calls", laid_lombard_ticket_calls)], narrowed := true }
def TicketRollsUptoSaid : Prop := ticketRollsUptoRow.holds Tryd.pinned (OpenSpec.upto ticketRollsSpec)

/-- 'lombardlaw03.TicketOnce', WHERE WHAT IT READS IS OF BULK AT MOST 1048576: true; the input reads as it did. -/
def ticketOnceUptoRow : OpenClaim := { program := "ytcpdcpfbgmiaoaadoor", sum := "da8bc630c168f0d98c0bdb5ea5ffa817b1f0eff83649895242b994227b8a81a6", func := "lombard/lombardlaw03.TicketOnce", spec := "ticketOnce", unfollowed := true, recurses := true, named := ["lombard/ticket.calls"], apart := false, laid := [("lombard/ticket.calls", laid_lombard_ticket_calls)], narrowed := true }
def TicketOnceUptoSaid : Prop := ticketOnceUptoRow.holds Tryd.pinned (OpenSpec.upto ticketOnceSpec)

/-- 'lombardlaw03.TicketRefuses', WHERE WHAT IT READS IS OF BULK AT MOST 1048576: true; the input reads as it did. -/
def ticketRefusesUptoRow : OpenClaim := { program := "ytcpdcpfbgmiaoaadoor", sum := "da8bc630c168f0d98c0bdb5ea5ffa817b1f0eff83649895242b994227b8a81a6", func := "lombard/lombardlaw03.TicketRefuses", spec := "ticketRefuses", unfollowed := true, recurses := true, named := ["lombard/ticket.calls"], apart := false, laid := [("lombard/ticket.calls", laid_lombard_ticket_calls)], narrowed := true }
def TicketRefusesUptoSaid : Prop := ticketRefusesUptoRow.holds Tryd.pinned (OpenSpec.upto ticketRefusesSpec)

/-- 'lombardlaw03.TicketProper', WHERE WHAT IT READS IS OF BULK AT MOST 1048576: true; the input reads as it did. -/
def ticketProperUptoRow : OpenClaim := { program := "ytcpdcpfbgmiaoaadoor", sum := "da8bc630c168f0d98c0bdb5ea5ffa817b1f0eff83649895242b994227b8a81a6", func := "lombard/lombardlaw03.TicketProper", spec := "ticketProper", unfollowed := true, recurses := true, named := ["lombard/ticket.calls"], apart := false, laid := [("lombard/ticket.calls", laid_lombard_ticket_calls)], narrowed := true }
def TicketProperUptoSaid : Prop := ticketProperUptoRow.holds Tryd.pinned (OpenSpec.upto ticketProperSpec)

/-- 'lombardlaw03.TicketProved', WHERE WHAT IT READS IS OF BULK AT MOST 1048576: true; the input reads as it did. -/
def ticketProvedUptoRow : OpenClaim := { program := "ytcpdcpfbgmiaoaadoor", sum := "da8bc630c168f0d98c0bdb5ea5ffa817b1f0eff83649895242b994227b8a81a6", func := "lombard/lombardlaw03.TicketProved", spec := "ticketProved", unfollowed := true, recurses := true, named := ["lombard/ticket.calls"], apart := false, laid := [("lombard/ticket.calls", laid_lombard_ticket_calls)], narrowed := true }
def TicketProvedUptoSaid : Prop := ticketProvedUptoRow.holds Tryd.pinned (OpenSpec.upto ticketProvedSpec)

/-- 'lombardlaw03.TicketKnown', WHERE WHAT IT READS IS OF BULK AT MOST 1048576: true; the input reads as it did. -/
def ticketKnownUptoRow : OpenClaim := { program := "ytcpdcpfbgmiaoaadoor", sum := "da8bc630c168f0d98c0bdb5ea5ffa817b1f0eff83649895242b994227b8a81a6", func := "lombard/lombardlaw03.TicketKnown", spec := "ticketKnown", unfollowed := true, recurses := true, named := ["lombard/ticket.calls"], apart := false, laid := [("lombard/ticket.calls", laid_lombard_ticket_calls)], narrowed := true }
def TicketKnownUptoSaid : Prop := ticketKnownUptoRow.holds Tryd.pinned (OpenSpec.upto ticketKnownSpec)

end Rows
end Go.Proofs.YtcpdcpfbgmiaoaaDoor
