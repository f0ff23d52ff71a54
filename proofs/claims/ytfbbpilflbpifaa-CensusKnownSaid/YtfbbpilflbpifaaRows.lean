/-
  No cell of these rows narrows 'for every input' (looked for: loops, veiled, ifaces, maps, wideKeys, modest, calm, conditions, laid).
  DERIVED. THE GIVEN ROWS OF THIS SEAT. 13 by the template 'for every input the law returns true; each argument reads behind the call as it read before'; 0 by the template 'total and deterministic' (their statements: YtfbbpilflbpifaaTotals.lean).
  GIVEN WITH THE SEED: the statements are not yours to turn. If you find one false, say at which input.
  Laid BY PROGRAM, IN A SANDBOX (cutbox-rows.mjs): the forced cells as the released guide's own fill.sh prints them over the translation 3a9bba57f0aacde9… (all of the seat's roots in one cut). By AI agents, Wed Nov 11 2026. No macro, syntax, notation, axiom, sorry.
-/
import Derived.Test.YtfbbpilflbpifaaChecked
import GoSem.Claim
import GoSem.ClaimJoined
import GoSem.ClaimMapViews
import Derived.JoinedTies
import Derived.KernelRfl
namespace Go.Proofs.Ytfbbpilflbpifaa
/- THE CELL 'sum', in the pinned program and in every row, IS THE sha256 OF THE DUMP (.gsa) THAT YtfbbpilflbpifaaProg.lean LOADS. Nothing in Lean hashes anything: it is a label: what it is worth is what the hold of that sum in a sandbox is worth. -/
noncomputable def Try.pinned : Pinned := { name := "ytfbbpilflbpifaa", sum := "3a9bba57f0aacde9005816955f7b173d9d3259f4c7b5ed3fa14744adb77e62e0", checked := Try.checked }
namespace Rows
def none {H : Type} : Left H := { results := [], args := [] }

/-- 'lombardlaw10.CensusLeast': WHATEVER THE INPUT: true; the input reads as it did. -/
def censusLeastSpec : ChangeSpec := { name := "censusLeast", fn := fun _ => fun
  | [d] => { results := [.lit (.bool true)], args := [d] }
  | _ => none }
def censusLeastRow : OpenClaim := { program := "ytfbbpilflbpifaa", sum := "3a9bba57f0aacde9005816955f7b173d9d3259f4c7b5ed3fa14744adb77e62e0", func := "lombard/lombardlaw10.CensusLeast", spec := "censusLeast", unfollowed := true, recurses := true, plainKeys := false, apart := false }
def CensusLeastSaid : Prop := censusLeastRow.holds Try.pinned (OpenSpec.ofChange censusLeastSpec)

/-- ITS FALSE NEIGHBOUR: 'it returns false'. Refute it at one input. -/
def censusLeastWrong : ChangeSpec := { name := "censusLeast", fn := fun _ => fun
  | [d] => { results := [.lit (.bool false)], args := [d] }
  | _ => none }
def CensusLeastWrongFalsely : Prop := censusLeastRow.holds Try.pinned (OpenSpec.ofChange censusLeastWrong)

/-- 'lombardlaw10.CensusCounts': WHATEVER THE INPUT: true; the input reads as it did. -/
def censusCountsSpec : ChangeSpec := { name := "censusCounts", fn := fun _ => fun
  | [d1, d2, d3] => { results := [.lit (.bool true)], args := [d1, d2, d3] }
  | _ => none }
def censusCountsRow : OpenClaim := { program := "ytfbbpilflbpifaa", sum := "3a9bba57f0aacde9005816955f7b173d9d3259f4c7b5ed3fa14744adb77e62e0", func := "lombard/lombardlaw10.CensusCounts", spec := "censusCounts", unfollowed := true, recurses := true, plainKeys := false, apart := false }
def CensusCountsSaid : Prop := censusCountsRow.holds Try.pinned (OpenSpec.ofChange censusCountsSpec)

/-- ITS FALSE NEIGHBOUR: 'it returns false'. Refute it at one input. -/
def censusCountsWrong : ChangeSpec := { name := "censusCounts", fn := fun _ => fun
  | [d1, d2, d3] => { results := [.lit (.bool false)], args := [d1, d2, d3] }
  | _ => none }
def CensusCountsWrongFalsely : Prop := censusCountsRow.holds Try.pinned (OpenSpec.ofChange censusCountsWrong)

/-- 'lombardlaw10.CensusSamples': WHATEVER THE INPUT: true; the input reads as it did. -/
def censusSamplesSpec : ChangeSpec := { name := "censusSamples", fn := fun _ => fun
  | [d1, d2, d3] => { results := [.lit (.bool true)], args := [d1, d2, d3] }
  | _ => none }
def censusSamplesRow : OpenClaim := { program := "ytfbbpilflbpifaa", sum := "3a9bba57f0aacde9005816955f7b173d9d3259f4c7b5ed3fa14744adb77e62e0", func := "lombard/lombardlaw10.CensusSamples", spec := "censusSamples", unfollowed := true, recurses := true, plainKeys := false, apart := false }
def CensusSamplesSaid : Prop := censusSamplesRow.holds Try.pinned (OpenSpec.ofChange censusSamplesSpec)

/-- ITS FALSE NEIGHBOUR: 'it returns false'. Refute it at one input. -/
def censusSamplesWrong : ChangeSpec := { name := "censusSamples", fn := fun _ => fun
  | [d1, d2, d3] => { results := [.lit (.bool false)], args := [d1, d2, d3] }
  | _ => none }
def CensusSamplesWrongFalsely : Prop := censusSamplesRow.holds Try.pinned (OpenSpec.ofChange censusSamplesWrong)

/-- 'lombardlaw10.CensusCheapest': WHATEVER THE INPUT: true; the input reads as it did. -/
def censusCheapestSpec : ChangeSpec := { name := "censusCheapest", fn := fun _ => fun
  | [d1, d2] => { results := [.lit (.bool true)], args := [d1, d2] }
  | _ => none }
def censusCheapestRow : OpenClaim := { program := "ytfbbpilflbpifaa", sum := "3a9bba57f0aacde9005816955f7b173d9d3259f4c7b5ed3fa14744adb77e62e0", func := "lombard/lombardlaw10.CensusCheapest", spec := "censusCheapest", unfollowed := true, recurses := true, plainKeys := false, apart := false }
def CensusCheapestSaid : Prop := censusCheapestRow.holds Try.pinned (OpenSpec.ofChange censusCheapestSpec)

/-- ITS FALSE NEIGHBOUR: 'it returns false'. Refute it at one input. -/
def censusCheapestWrong : ChangeSpec := { name := "censusCheapest", fn := fun _ => fun
  | [d1, d2] => { results := [.lit (.bool false)], args := [d1, d2] }
  | _ => none }
def CensusCheapestWrongFalsely : Prop := censusCheapestRow.holds Try.pinned (OpenSpec.ofChange censusCheapestWrong)

/-- 'lombardlaw10.CensusDraws': WHATEVER THE INPUT: true; the input reads as it did. -/
def censusDrawsSpec : ChangeSpec := { name := "censusDraws", fn := fun _ => fun
  | [d1, d2, d3] => { results := [.lit (.bool true)], args := [d1, d2, d3] }
  | _ => none }
def censusDrawsRow : OpenClaim := { program := "ytfbbpilflbpifaa", sum := "3a9bba57f0aacde9005816955f7b173d9d3259f4c7b5ed3fa14744adb77e62e0", func := "lombard/lombardlaw10.CensusDraws", spec := "censusDraws", unfollowed := true, recurses := true, plainKeys := false, apart := false }
def CensusDrawsSaid : Prop := censusDrawsRow.holds Try.pinned (OpenSpec.ofChange censusDrawsSpec)

/-- ITS FALSE NEIGHBOUR: 'it returns false'. Refute it at one input. -/
def censusDrawsWrong : ChangeSpec := { name := "censusDraws", fn := fun _ => fun
  | [d1, d2, d3] => { results := [.lit (.bool false)], args := [d1, d2, d3] }
  | _ => none }
def CensusDrawsWrongFalsely : Prop := censusDrawsRow.holds Try.pinned (OpenSpec.ofChange censusDrawsWrong)

/-- 'lombardlaw10.CensusFair': WHATEVER THE INPUT: true; the input reads as it did. -/
def censusFairSpec : ChangeSpec := { name := "censusFair", fn := fun _ => fun
  | [d1, d2, d3] => { results := [.lit (.bool true)], args := [d1, d2, d3] }
  | _ => none }
def censusFairRow : OpenClaim := { program := "ytfbbpilflbpifaa", sum := "3a9bba57f0aacde9005816955f7b173d9d3259f4c7b5ed3fa14744adb77e62e0", func := "lombard/lombardlaw10.CensusFair", spec := "censusFair", unfollowed := true, recurses := true, plainKeys := false, apart := false }
def CensusFairSaid : Prop := censusFairRow.holds Try.pinned (OpenSpec.ofChange censusFairSpec)

/-- ITS FALSE NEIGHBOUR: 'it returns false'. Refute it at one input. -/
def censusFairWrong : ChangeSpec := { name := "censusFair", fn := fun _ => fun
  | [d1, d2, d3] => { results := [.lit (.bool false)], args := [d1, d2, d3] }
  | _ => none }
def CensusFairWrongFalsely : Prop := censusFairRow.holds Try.pinned (OpenSpec.ofChange censusFairWrong)

/-- 'lombardlaw10.CensusDrawn': WHATEVER THE INPUT: true; the input reads as it did. -/
def censusDrawnSpec : ChangeSpec := { name := "censusDrawn", fn := fun _ => fun
  | [d] => { results := [.lit (.bool true)], args := [d] }
  | _ => none }
def censusDrawnRow : OpenClaim := { program := "ytfbbpilflbpifaa", sum := "3a9bba57f0aacde9005816955f7b173d9d3259f4c7b5ed3fa14744adb77e62e0", func := "lombard/lombardlaw10.CensusDrawn", spec := "censusDrawn", unfollowed := true, recurses := true, plainKeys := false, apart := false }
def CensusDrawnSaid : Prop := censusDrawnRow.holds Try.pinned (OpenSpec.ofChange censusDrawnSpec)

/-- ITS FALSE NEIGHBOUR: 'it returns false'. Refute it at one input. -/
def censusDrawnWrong : ChangeSpec := { name := "censusDrawn", fn := fun _ => fun
  | [d] => { results := [.lit (.bool false)], args := [d] }
  | _ => none }
def CensusDrawnWrongFalsely : Prop := censusDrawnRow.holds Try.pinned (OpenSpec.ofChange censusDrawnWrong)

/-- 'lombardlaw10.CensusTurns': WHATEVER THE INPUT: true; the input reads as it did. -/
def censusTurnsSpec : ChangeSpec := { name := "censusTurns", fn := fun _ => fun
  | [d1, d2, d3] => { results := [.lit (.bool true)], args := [d1, d2, d3] }
  | _ => none }
def censusTurnsRow : OpenClaim := { program := "ytfbbpilflbpifaa", sum := "3a9bba57f0aacde9005816955f7b173d9d3259f4c7b5ed3fa14744adb77e62e0", func := "lombard/lombardlaw10.CensusTurns", spec := "censusTurns", unfollowed := true, recurses := true, plainKeys := false, apart := false }
def CensusTurnsSaid : Prop := censusTurnsRow.holds Try.pinned (OpenSpec.ofChange censusTurnsSpec)

/-- ITS FALSE NEIGHBOUR: 'it returns false'. Refute it at one input. -/
def censusTurnsWrong : ChangeSpec := { name := "censusTurns", fn := fun _ => fun
  | [d1, d2, d3] => { results := [.lit (.bool false)], args := [d1, d2, d3] }
  | _ => none }
def CensusTurnsWrongFalsely : Prop := censusTurnsRow.holds Try.pinned (OpenSpec.ofChange censusTurnsWrong)

/-- 'lombardlaw10.CensusForever': WHATEVER THE INPUT: true; the input reads as it did. -/
def censusForeverSpec : ChangeSpec := { name := "censusForever", fn := fun _ => fun
  | [d1, d2, d3] => { results := [.lit (.bool true)], args := [d1, d2, d3] }
  | _ => none }
def censusForeverRow : OpenClaim := { program := "ytfbbpilflbpifaa", sum := "3a9bba57f0aacde9005816955f7b173d9d3259f4c7b5ed3fa14744adb77e62e0", func := "lombard/lombardlaw10.CensusForever", spec := "censusForever", unfollowed := true, recurses := true, plainKeys := false, apart := false }
def CensusForeverSaid : Prop := censusForeverRow.holds Try.pinned (OpenSpec.ofChange censusForeverSpec)

/-- ITS FALSE NEIGHBOUR: 'it returns false'. Refute it at one input. -/
def censusForeverWrong : ChangeSpec := { name := "censusForever", fn := fun _ => fun
  | [d1, d2, d3] => { results := [.lit (.bool false)], args := [d1, d2, d3] }
  | _ => none }
def CensusForeverWrongFalsely : Prop := censusForeverRow.holds Try.pinned (OpenSpec.ofChange censusForeverWrong)

/-- 'lombardlaw10.CensusAround': WHATEVER THE INPUT: true; the input reads as it did. -/
def censusAroundSpec : ChangeSpec := { name := "censusAround", fn := fun _ => fun
  | [d1, d2] => { results := [.lit (.bool true)], args := [d1, d2] }
  | _ => none }
def censusAroundRow : OpenClaim := { program := "ytfbbpilflbpifaa", sum := "3a9bba57f0aacde9005816955f7b173d9d3259f4c7b5ed3fa14744adb77e62e0", func := "lombard/lombardlaw10.CensusAround", spec := "censusAround", unfollowed := true, recurses := true, plainKeys := false, apart := false }
def CensusAroundSaid : Prop := censusAroundRow.holds Try.pinned (OpenSpec.ofChange censusAroundSpec)

/-- ITS FALSE NEIGHBOUR: 'it returns false'. Refute it at one input. -/
def censusAroundWrong : ChangeSpec := { name := "censusAround", fn := fun _ => fun
  | [d1, d2] => { results := [.lit (.bool false)], args := [d1, d2] }
  | _ => none }
def CensusAroundWrongFalsely : Prop := censusAroundRow.holds Try.pinned (OpenSpec.ofChange censusAroundWrong)

/-- 'lombardlaw10.CensusPatrols': WHATEVER THE INPUT: true; the input reads as it did. -/
def censusPatrolsSpec : ChangeSpec := { name := "censusPatrols", fn := fun _ => fun
  | [d1, d2, d3] => { results := [.lit (.bool true)], args := [d1, d2, d3] }
  | _ => none }
def censusPatrolsRow : OpenClaim := { program := "ytfbbpilflbpifaa", sum := "3a9bba57f0aacde9005816955f7b173d9d3259f4c7b5ed3fa14744adb77e62e0", func := "lombard/lombardlaw10.CensusPatrols", spec := "censusPatrols", unfollowed := true, recurses := true, plainKeys := false, apart := false }
def CensusPatrolsSaid : Prop := censusPatrolsRow.holds Try.pinned (OpenSpec.ofChange censusPatrolsSpec)

/-- ITS FALSE NEIGHBOUR: 'it returns false'. Refute it at one input. -/
def censusPatrolsWrong : ChangeSpec := { name := "censusPatrols", fn := fun _ => fun
  | [d1, d2, d3] => { results := [.lit (.bool false)], args := [d1, d2, d3] }
  | _ => none }
def CensusPatrolsWrongFalsely : Prop := censusPatrolsRow.holds Try.pinned (OpenSpec.ofChange censusPatrolsWrong)

/-- 'lombardlaw10.CensusMeets': WHATEVER THE INPUT: true; the input reads as it did. -/
def censusMeetsSpec : ChangeSpec := { name := "censusMeets", fn := fun _ => fun
  | [d1, d2] => { results := [.lit (.bool true)], args := [d1, d2] }
  | _ => none }
def censusMeetsRow : OpenClaim := { program := "ytfbbpilflbpifaa", sum := "3a9bba57f0aacde9005816955f7b173d9d3259f4c7b5ed3fa14744adb77e62e0", func := "lombard/lombardlaw10.CensusMeets", spec := "censusMeets", unfollowed := true, recurses := true, plainKeys := false, apart := false }
def CensusMeetsSaid : Prop := censusMeetsRow.holds Try.pinned (OpenSpec.ofChange censusMeetsSpec)

/-- ITS FALSE NEIGHBOUR: 'it returns false'. Refute it at one input. -/
def censusMeetsWrong : ChangeSpec := { name := "censusMeets", fn := fun _ => fun
  | [d1, d2] => { results := [.lit (.bool false)], args := [d1, d2] }
  | _ => none }
def CensusMeetsWrongFalsely : Prop := censusMeetsRow.holds Try.pinned (OpenSpec.ofChange censusMeetsWrong)

/-- 'lombardlaw10.CensusKnown': WHATEVER THE INPUT: true; the input reads as it did. -/
def censusKnownSpec : ChangeSpec := { name := "censusKnown", fn := fun _ => fun
  | [] => { results := [.lit (.bool true)], args := [] }
  | _ => none }
def censusKnownRow : OpenClaim := { program := "ytfbbpilflbpifaa", sum := "3a9bba57f0aacde9005816955f7b173d9d3259f4c7b5ed3fa14744adb77e62e0", func := "lombard/lombardlaw10.CensusKnown", spec := "censusKnown", unfollowed := true, recurses := true, plainKeys := false, apart := false }
def CensusKnownSaid : Prop := censusKnownRow.holds Try.pinned (OpenSpec.ofChange censusKnownSpec)

/-- ITS FALSE NEIGHBOUR: 'it returns false'. Refute it at one input. -/
def censusKnownWrong : ChangeSpec := { name := "censusKnown", fn := fun _ => fun
  | [] => { results := [.lit (.bool false)], args := [] }
  | _ => none }
def CensusKnownWrongFalsely : Prop := censusKnownRow.holds Try.pinned (OpenSpec.ofChange censusKnownWrong)

/- THE SECOND FORM. 'bulk': how many values and letters a reading holds, each counted each time it is reached (what is shared counts as often as it is met; a slice's spare places count too). A statement '..UptoSaid' is the law's where the arguments, and the package variables that the reading takes, are together of bulk at most 1048576: NARROWER than '..Said'. Prove '..Said' where nothing that the law and all that it calls make is longer than what came in: it says more and counts as full. Else prove '..UptoSaid'. A law counts once. -/
mutual
def uptoBulk {H : Type} : DataW H → Nat
  | .lit (.string bytes) => bytes.length + 1
  | .lit _ => 1
  | .nil => 1
  | .ptr d => uptoBulk d + 1
  | .slice elems spare => uptoBulkAll elems + uptoBulkAll spare + 1
  | .agg parts => uptoBulkAll parts + 1
  | .iface _ d => uptoBulk d + 1
  | .map entries => uptoBulkEntries entries + 1
  | .held _ => 1
def uptoBulkAll {H : Type} : List (DataW H) → Nat
  | [] => 0
  | d :: r => uptoBulk d + uptoBulkAll r
def uptoBulkEntries {H : Type} : List (Lit × DataW H) → Nat
  | [] => 0
  | x :: r => uptoBulkEntry x + uptoBulkEntries r
def uptoBulkEntry {H : Type} : Lit × DataW H → Nat
  | (.string bytes, d) => bytes.length + uptoBulk d + 1
  | (_, d) => uptoBulk d + 1
 end
def uptoSmall : (H : Type) → List (DataW H) → Bool := fun _ ds => decide (uptoBulkAll ds ≤ 1048576)
def OpenSpec.upto (s : _root_.Go.ChangeSpec) : _root_.Go.OpenSpec := { _root_.Go.OpenSpec.ofChange s with cond := some uptoSmall }

/-- 'lombardlaw10.CensusLeast', WHERE WHAT IT READS IS OF BULK AT MOST 1048576: true; the input reads as it did. -/
def censusLeastUptoRow : OpenClaim := { program := "ytfbbpilflbpifaa", sum := "3a9bba57f0aacde9005816955f7b173d9d3259f4c7b5ed3fa14744adb77e62e0", func := "lombard/lombardlaw10.CensusLeast", spec := "censusLeast", unfollowed := true, recurses := true, plainKeys := false, apart := false, narrowed := true }
def CensusLeastUptoSaid : Prop := censusLeastUptoRow.holds Try.pinned (OpenSpec.upto censusLeastSpec)

/-- 'lombardlaw10.CensusCounts', WHERE WHAT IT READS IS OF BULK AT MOST 1048576: true; the input reads as it did. -/
def censusCountsUptoRow : OpenClaim := { program := "ytfbbpilflbpifaa", sum := "3a9bba57f0aacde9005816955f7b173d9d3259f4c7b5ed3fa14744adb77e62e0", func := "lombard/lombardlaw10.CensusCounts", spec := "censusCounts", unfollowed := true, recurses := true, plainKeys := false, apart := false, narrowed := true }
def CensusCountsUptoSaid : Prop := censusCountsUptoRow.holds Try.pinned (OpenSpec.upto censusCountsSpec)

/-- 'lombardlaw10.CensusSamples', WHERE WHAT IT READS IS OF BULK AT MOST 1048576: true; the input reads as it did. -/
def censusSamplesUptoRow : OpenClaim := { program := "ytfbbpilflbpifaa", sum := "3a9bba57f0aacde9005816955f7b173d9d3259f4c7b5ed3fa14744adb77e62e0", func := "lombard/lombardlaw10.CensusSamples", spec := "censusSamples", unfollowed := true, recurses := true, plainKeys := false, apart := false, narrowed := true }
def CensusSamplesUptoSaid : Prop := censusSamplesUptoRow.holds Try.pinned (OpenSpec.upto censusSamplesSpec)

/-- 'lombardlaw10.CensusCheapest', WHERE WHAT IT READS IS OF BULK AT MOST 1048576: true; the input reads as it did. -/
def censusCheapestUptoRow : OpenClaim := { program := "ytfbbpilflbpifaa", sum := "3a9bba57f0aacde9005816955f7b173d9d3259f4c7b5ed3fa14744adb77e62e0", func := "lombard/lombardlaw10.CensusCheapest", spec := "censusCheapest", unfollowed := true, recurses := true, plainKeys := false, apart := false, narrowed := true }
def CensusCheapestUptoSaid : Prop := censusCheapestUptoRow.holds Try.pinned (OpenSpec.upto censusCheapestSpec)

/-- 'lombardlaw10.CensusDraws', WHERE WHAT IT READS IS OF BULK AT MOST 1048576: true; the input reads as it did. -/
def censusDrawsUptoRow : OpenClaim := { program := "ytfbbpilflbpifaa", sum := "3a9bba57f0aacde9005816955f7b173d9d3259f4c7b5ed3fa14744adb77e62e0", func := "lombard/lombardlaw10.CensusDraws", spec := "censusDraws", unfollowed := true, recurses := true, plainKeys := false, apart := false, narrowed := true }
def CensusDrawsUptoSaid : Prop := censusDrawsUptoRow.holds Try.pinned (OpenSpec.upto censusDrawsSpec)

/-- 'lombardlaw10.CensusFair', WHERE WHAT IT READS IS OF BULK AT MOST 1048576: true; the input reads as it did. -/
def censusFairUptoRow : OpenClaim := { program := "ytfbbpilflbpifaa", sum := "3a9bba57f0aacde9005816955f7b173d9d3259f4c7b5ed3fa14744adb77e62e0", func := "lombard/lombardlaw10.CensusFair", spec := "censusFair", unfollowed := true, recurses := true, plainKeys := false, apart := false, narrowed := true }
def CensusFairUptoSaid : Prop := censusFairUptoRow.holds Try.pinned (OpenSpec.upto censusFairSpec)

/-- 'lombardlaw10.CensusDrawn', WHERE WHAT IT READS IS OF BULK AT MOST 1048576: true; the input reads as it did. -/
def censusDrawnUptoRow : OpenClaim := { program := "ytfbbpilflbpifaa", sum := "3a9bba57f0aacde9005816955f7b173d9d3259f4c7b5ed3fa14744adb77e62e0", func := "lombard/lombardlaw10.CensusDrawn", spec := "censusDrawn", unfollowed := true, recurses := true, plainKeys := false, apart := false, narrowed := true }
def CensusDrawnUptoSaid : Prop := censusDrawnUptoRow.holds Try.pinned (OpenSpec.upto censusDrawnSpec)

/-- 'lombardlaw10.CensusTurns', WHERE WHAT IT READS IS OF BULK AT MOST 1048576: true; the input reads as it did. -/
def censusTurnsUptoRow : OpenClaim := { program := "ytfbbpilflbpifaa", sum := "3a9bba57f0aacde9005816955f7b173d9d3259f4c7b5ed3fa14744adb77e62e0", func := "lombard/lombardlaw10.CensusTurns", spec := "censusTurns", unfollowed := true, recurses := true, plainKeys := false, apart := false, narrowed := true }
def CensusTurnsUptoSaid : Prop := censusTurnsUptoRow.holds Try.pinned (OpenSpec.upto censusTurnsSpec)

/-- 'lombardlaw10.CensusForever', WHERE WHAT IT READS IS OF BULK AT MOST 1048576: true; the input reads as it did. -/
def censusForeverUptoRow : OpenClaim := { program := "ytfbbpilflbpifaa", sum := "3a9bba57f0aacde9005816955f7b173d9d3259f4c7b5ed3fa14744adb77e62e0", func := "lombard/lombardlaw10.CensusForever", spec := "censusForever", unfollowed := true, recurses := true, plainKeys := false, apart := false, narrowed := true }
def CensusForeverUptoSaid : Prop := censusForeverUptoRow.holds Try.pinned (OpenSpec.upto censusForeverSpec)

/-- 'lombardlaw10.CensusAround', WHERE WHAT IT READS IS OF BULK AT MOST 1048576: true; the input reads as it did. -/
def censusAroundUptoRow : OpenClaim := { program := "ytfbbpilflbpifaa", sum := "3a9bba57f0aacde9005816955f7b173d9d3259f4c7b5ed3fa14744adb77e62e0", func := "lombard/lombardlaw10.CensusAround", spec := "censusAround", unfollowed := true, recurses := true, plainKeys := false, apart := false, narrowed := true }
def CensusAroundUptoSaid : Prop := censusAroundUptoRow.holds Try.pinned (OpenSpec.upto censusAroundSpec)

/-- 'lombardlaw10.CensusPatrols', WHERE WHAT IT READS IS OF BULK AT MOST 1048576: true; the input reads as it did. -/
def censusPatrolsUptoRow : OpenClaim := { program := "ytfbbpilflbpifaa", sum := "3a9bba57f0aacde9005816955f7b173d9d3259f4c7b5ed3fa14744adb77e62e0", func := "lombard/lombardlaw10.CensusPatrols", spec := "censusPatrols", unfollowed := true, recurses := true, plainKeys := false, apart := false, narrowed := true }
def CensusPatrolsUptoSaid : Prop := censusPatrolsUptoRow.holds Try.pinned (OpenSpec.upto censusPatrolsSpec)

/-- 'lombardlaw10.CensusMeets', WHERE WHAT IT READS IS OF BULK AT MOST 1048576: true; the input reads as it did. -/
def censusMeetsUptoRow : OpenClaim := { program := "ytfbbpilflbpifaa", sum := "3a9bba57f0aacde9005816955f7b173d9d3259f4c7b5ed3fa14744adb77e62e0", func := "lombard/lombardlaw10.CensusMeets", spec := "censusMeets", unfollowed := true, recurses := true, plainKeys := false, apart := false, narrowed := true }
def CensusMeetsUptoSaid : Prop := censusMeetsUptoRow.holds Try.pinned (OpenSpec.upto censusMeetsSpec)

/-- 'lombardlaw10.CensusKnown', WHERE WHAT IT READS IS OF BULK AT MOST 1048576: true; the input reads as it did. -/
def censusKnownUptoRow : OpenClaim := { program := "ytfbbpilflbpifaa", sum := "3a9bba57f0aacde9005816955f7b173d9d3259f4c7b5ed3fa14744adb77e62e0", func := "lombard/lombardlaw10.CensusKnown", spec := "censusKnown", unfollowed := true, recurses := true, plainKeys := false, apart := false, narrowed := true }
def CensusKnownUptoSaid : Prop := censusKnownUptoRow.holds Try.pinned (OpenSpec.upto censusKnownSpec)

end Rows
end Go.Proofs.Ytfbbpilflbpifaa
