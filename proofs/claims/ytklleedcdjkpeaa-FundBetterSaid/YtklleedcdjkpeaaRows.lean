/-
  No cell of these rows narrows 'for every input' (looked for: loops, veiled, ifaces, maps, wideKeys, modest, calm, conditions, laid).
  DERIVED. THE GIVEN ROWS OF THIS SEAT. 11 by the template 'for every input the law returns true; each argument reads behind the call as it read before'; 0 by the template 'total and deterministic' (their statements: YtklleedcdjkpeaaTotals.lean).
  GIVEN WITH THE SEED: the statements are not yours to turn. If you find one false, say at which input.
  Laid BY PROGRAM, IN A SANDBOX (cutbox-rows.mjs): the forced cells as the released guide's own fill.sh prints them over the translation 962ea9ae091d1ac5… (all of the seat's roots in one cut). By AI agents, Wed Nov 11 2026. No macro, syntax, notation, axiom, sorry.
-/
import Derived.Test.YtklleedcdjkpeaaChecked
import GoSem.Claim
import GoSem.ClaimJoined
import GoSem.ClaimMapViews
import Derived.JoinedTies
import Derived.KernelRfl
namespace Go.Proofs.Ytklleedcdjkpeaa
/- THE CELL 'sum', in the pinned program and in every row, IS THE sha256 OF THE DUMP (.gsa) THAT YtklleedcdjkpeaaProg.lean LOADS. Nothing in Lean hashes anything: it is a label: what it is worth is what the hold of that sum in a sandbox is worth. -/
noncomputable def Try.pinned : Pinned := { name := "ytklleedcdjkpeaa", sum := "962ea9ae091d1ac5fbe8cc3de30d8d791f291b09781e0f0f5bb0a74bc3d1d1b2", checked := Try.checked }
namespace Rows
def none {H : Type} : Left H := { results := [], args := [] }

/-- 'lombardlaw09.FundFollows': WHATEVER THE INPUT: true; the input reads as it did. -/
def fundFollowsSpec : ChangeSpec := { name := "fundFollows", fn := fun _ => fun
  | [d1, d2] => { results := [.lit (.bool true)], args := [d1, d2] }
  | _ => none }
def fundFollowsRow : OpenClaim := { program := "ytklleedcdjkpeaa", sum := "962ea9ae091d1ac5fbe8cc3de30d8d791f291b09781e0f0f5bb0a74bc3d1d1b2", func := "lombard/lombardlaw09.FundFollows", spec := "fundFollows", unfollowed := true, recurses := true, apart := false }
def FundFollowsSaid : Prop := fundFollowsRow.holds Try.pinned (OpenSpec.ofChange fundFollowsSpec)

/-- ITS FALSE NEIGHBOUR: 'it returns false'. Refute it at one input. -/
def fundFollowsWrong : ChangeSpec := { name := "fundFollows", fn := fun _ => fun
  | [d1, d2] => { results := [.lit (.bool false)], args := [d1, d2] }
  | _ => none }
def FundFollowsWrongFalsely : Prop := fundFollowsRow.holds Try.pinned (OpenSpec.ofChange fundFollowsWrong)

/-- 'lombardlaw09.FundPlans': WHATEVER THE INPUT: true; the input reads as it did. -/
def fundPlansSpec : ChangeSpec := { name := "fundPlans", fn := fun _ => fun
  | [d] => { results := [.lit (.bool true)], args := [d] }
  | _ => none }
def fundPlansRow : OpenClaim := { program := "ytklleedcdjkpeaa", sum := "962ea9ae091d1ac5fbe8cc3de30d8d791f291b09781e0f0f5bb0a74bc3d1d1b2", func := "lombard/lombardlaw09.FundPlans", spec := "fundPlans", unfollowed := true, recurses := true, apart := false }
def FundPlansSaid : Prop := fundPlansRow.holds Try.pinned (OpenSpec.ofChange fundPlansSpec)

/-- ITS FALSE NEIGHBOUR: 'it returns false'. Refute it at one input. -/
def fundPlansWrong : ChangeSpec := { name := "fundPlans", fn := fun _ => fun
  | [d] => { results := [.lit (.bool false)], args := [d] }
  | _ => none }
def FundPlansWrongFalsely : Prop := fundPlansRow.holds Try.pinned (OpenSpec.ofChange fundPlansWrong)

/-- 'lombardlaw09.FundPays': WHATEVER THE INPUT: true; the input reads as it did. -/
def fundPaysSpec : ChangeSpec := { name := "fundPays", fn := fun _ => fun
  | [d1, d2] => { results := [.lit (.bool true)], args := [d1, d2] }
  | _ => none }
def fundPaysRow : OpenClaim := { program := "ytklleedcdjkpeaa", sum := "962ea9ae091d1ac5fbe8cc3de30d8d791f291b09781e0f0f5bb0a74bc3d1d1b2", func := "lombard/lombardlaw09.FundPays", spec := "fundPays", unfollowed := true, recurses := true, apart := false }
def FundPaysSaid : Prop := fundPaysRow.holds Try.pinned (OpenSpec.ofChange fundPaysSpec)

/-- ITS FALSE NEIGHBOUR: 'it returns false'. Refute it at one input. -/
def fundPaysWrong : ChangeSpec := { name := "fundPays", fn := fun _ => fun
  | [d1, d2] => { results := [.lit (.bool false)], args := [d1, d2] }
  | _ => none }
def FundPaysWrongFalsely : Prop := fundPaysRow.holds Try.pinned (OpenSpec.ofChange fundPaysWrong)

/-- 'lombardlaw09.FundBetter': WHATEVER THE INPUT: true; the input reads as it did. -/
def fundBetterSpec : ChangeSpec := { name := "fundBetter", fn := fun _ => fun
  | [d1, d2, d3] => { results := [.lit (.bool true)], args := [d1, d2, d3] }
  | _ => none }
def fundBetterRow : OpenClaim := { program := "ytklleedcdjkpeaa", sum := "962ea9ae091d1ac5fbe8cc3de30d8d791f291b09781e0f0f5bb0a74bc3d1d1b2", func := "lombard/lombardlaw09.FundBetter", spec := "fundBetter", unfollowed := true, recurses := true, apart := false }
def FundBetterSaid : Prop := fundBetterRow.holds Try.pinned (OpenSpec.ofChange fundBetterSpec)

/-- ITS FALSE NEIGHBOUR: 'it returns false'. Refute it at one input. -/
def fundBetterWrong : ChangeSpec := { name := "fundBetter", fn := fun _ => fun
  | [d1, d2, d3] => { results := [.lit (.bool false)], args := [d1, d2, d3] }
  | _ => none }
def FundBetterWrongFalsely : Prop := fundBetterRow.holds Try.pinned (OpenSpec.ofChange fundBetterWrong)

/-- 'lombardlaw09.FundCapital': WHATEVER THE INPUT: true; the input reads as it did. -/
def fundCapitalSpec : ChangeSpec := { name := "fundCapital", fn := fun _ => fun
  | [d] => { results := [.lit (.bool true)], args := [d] }
  | _ => none }
def fundCapitalRow : OpenClaim := { program := "ytklleedcdjkpeaa", sum := "962ea9ae091d1ac5fbe8cc3de30d8d791f291b09781e0f0f5bb0a74bc3d1d1b2", func := "lombard/lombardlaw09.FundCapital", spec := "fundCapital", unfollowed := true, recurses := true, apart := false }
def FundCapitalSaid : Prop := fundCapitalRow.holds Try.pinned (OpenSpec.ofChange fundCapitalSpec)

/-- ITS FALSE NEIGHBOUR: 'it returns false'. Refute it at one input. -/
def fundCapitalWrong : ChangeSpec := { name := "fundCapital", fn := fun _ => fun
  | [d] => { results := [.lit (.bool false)], args := [d] }
  | _ => none }
def FundCapitalWrongFalsely : Prop := fundCapitalRow.holds Try.pinned (OpenSpec.ofChange fundCapitalWrong)

/-- 'lombardlaw09.FundStarts': WHATEVER THE INPUT: true; the input reads as it did. -/
def fundStartsSpec : ChangeSpec := { name := "fundStarts", fn := fun _ => fun
  | [d1, d2, d3] => { results := [.lit (.bool true)], args := [d1, d2, d3] }
  | _ => none }
def fundStartsRow : OpenClaim := { program := "ytklleedcdjkpeaa", sum := "962ea9ae091d1ac5fbe8cc3de30d8d791f291b09781e0f0f5bb0a74bc3d1d1b2", func := "lombard/lombardlaw09.FundStarts", spec := "fundStarts", unfollowed := true, recurses := true, apart := false }
def FundStartsSaid : Prop := fundStartsRow.holds Try.pinned (OpenSpec.ofChange fundStartsSpec)

/-- ITS FALSE NEIGHBOUR: 'it returns false'. Refute it at one input. -/
def fundStartsWrong : ChangeSpec := { name := "fundStarts", fn := fun _ => fun
  | [d1, d2, d3] => { results := [.lit (.bool false)], args := [d1, d2, d3] }
  | _ => none }
def FundStartsWrongFalsely : Prop := fundStartsRow.holds Try.pinned (OpenSpec.ofChange fundStartsWrong)

/-- 'lombardlaw09.FundFewest': WHATEVER THE INPUT: true; the input reads as it did. -/
def fundFewestSpec : ChangeSpec := { name := "fundFewest", fn := fun _ => fun
  | [d1, d2] => { results := [.lit (.bool true)], args := [d1, d2] }
  | _ => none }
def fundFewestRow : OpenClaim := { program := "ytklleedcdjkpeaa", sum := "962ea9ae091d1ac5fbe8cc3de30d8d791f291b09781e0f0f5bb0a74bc3d1d1b2", func := "lombard/lombardlaw09.FundFewest", spec := "fundFewest", unfollowed := true, recurses := true, apart := false }
def FundFewestSaid : Prop := fundFewestRow.holds Try.pinned (OpenSpec.ofChange fundFewestSpec)

/-- ITS FALSE NEIGHBOUR: 'it returns false'. Refute it at one input. -/
def fundFewestWrong : ChangeSpec := { name := "fundFewest", fn := fun _ => fun
  | [d1, d2] => { results := [.lit (.bool false)], args := [d1, d2] }
  | _ => none }
def FundFewestWrongFalsely : Prop := fundFewestRow.holds Try.pinned (OpenSpec.ofChange fundFewestWrong)

/-- 'lombardlaw09.FundRuns': WHATEVER THE INPUT: true; the input reads as it did. -/
def fundRunsSpec : ChangeSpec := { name := "fundRuns", fn := fun _ => fun
  | [d1, d2, d3] => { results := [.lit (.bool true)], args := [d1, d2, d3] }
  | _ => none }
def fundRunsRow : OpenClaim := { program := "ytklleedcdjkpeaa", sum := "962ea9ae091d1ac5fbe8cc3de30d8d791f291b09781e0f0f5bb0a74bc3d1d1b2", func := "lombard/lombardlaw09.FundRuns", spec := "fundRuns", unfollowed := true, recurses := true, apart := false }
def FundRunsSaid : Prop := fundRunsRow.holds Try.pinned (OpenSpec.ofChange fundRunsSpec)

/-- ITS FALSE NEIGHBOUR: 'it returns false'. Refute it at one input. -/
def fundRunsWrong : ChangeSpec := { name := "fundRuns", fn := fun _ => fun
  | [d1, d2, d3] => { results := [.lit (.bool false)], args := [d1, d2, d3] }
  | _ => none }
def FundRunsWrongFalsely : Prop := fundRunsRow.holds Try.pinned (OpenSpec.ofChange fundRunsWrong)

/-- 'lombardlaw09.FundNeeds': WHATEVER THE INPUT: true; the input reads as it did. -/
def fundNeedsSpec : ChangeSpec := { name := "fundNeeds", fn := fun _ => fun
  | [d1, d2] => { results := [.lit (.bool true)], args := [d1, d2] }
  | _ => none }
def fundNeedsRow : OpenClaim := { program := "ytklleedcdjkpeaa", sum := "962ea9ae091d1ac5fbe8cc3de30d8d791f291b09781e0f0f5bb0a74bc3d1d1b2", func := "lombard/lombardlaw09.FundNeeds", spec := "fundNeeds", unfollowed := true, recurses := true, apart := false }
def FundNeedsSaid : Prop := fundNeedsRow.holds Try.pinned (OpenSpec.ofChange fundNeedsSpec)

/-- ITS FALSE NEIGHBOUR: 'it returns false'. Refute it at one input. -/
def fundNeedsWrong : ChangeSpec := { name := "fundNeeds", fn := fun _ => fun
  | [d1, d2] => { results := [.lit (.bool false)], args := [d1, d2] }
  | _ => none }
def FundNeedsWrongFalsely : Prop := fundNeedsRow.holds Try.pinned (OpenSpec.ofChange fundNeedsWrong)

/-- 'lombardlaw09.FundFails': WHATEVER THE INPUT: true; the input reads as it did. -/
def fundFailsSpec : ChangeSpec := { name := "fundFails", fn := fun _ => fun
  | [d1, d2] => { results := [.lit (.bool true)], args := [d1, d2] }
  | _ => none }
def fundFailsRow : OpenClaim := { program := "ytklleedcdjkpeaa", sum := "962ea9ae091d1ac5fbe8cc3de30d8d791f291b09781e0f0f5bb0a74bc3d1d1b2", func := "lombard/lombardlaw09.FundFails", spec := "fundFails", unfollowed := true, recurses := true, apart := false }
def FundFailsSaid : Prop := fundFailsRow.holds Try.pinned (OpenSpec.ofChange fundFailsSpec)

/-- ITS FALSE NEIGHBOUR: 'it returns false'. Refute it at one input. -/
def fundFailsWrong : ChangeSpec := { name := "fundFails", fn := fun _ => fun
  | [d1, d2] => { results := [.lit (.bool false)], args := [d1, d2] }
  | _ => none }
def FundFailsWrongFalsely : Prop := fundFailsRow.holds Try.pinned (OpenSpec.ofChange fundFailsWrong)

/-- 'lombardlaw09.FundKnown': WHATEVER THE INPUT: true; the input reads as it did. -/
def fundKnownSpec : ChangeSpec := { name := "fundKnown", fn := fun _ => fun
  | [] => { results := [.lit (.bool true)], args := [] }
  | _ => none }
def fundKnownRow : OpenClaim := { program := "ytklleedcdjkpeaa", sum := "962ea9ae091d1ac5fbe8cc3de30d8d791f291b09781e0f0f5bb0a74bc3d1d1b2", func := "lombard/lombardlaw09.FundKnown", spec := "fundKnown", unfollowed := true, recurses := true, apart := false }
def FundKnownSaid : Prop := fundKnownRow.holds Try.pinned (OpenSpec.ofChange fundKnownSpec)

/-- ITS FALSE NEIGHBOUR: 'it returns false'. Refute it at one input. -/
def fundKnownWrong : ChangeSpec := { name := "fundKnown", fn := fun _ => fun
  | [] => { results := [.lit (.bool false)], args := [] }
  | _ => none }
def FundKnownWrongFalsely : Prop := fundKnownRow.holds Try.pinned (OpenSpec.ofChange fundKnownWrong)

/- THE SECOND FORM. 'bulk': how many values and letters a reading holds, each counted each time it is reached (what is shared counts as often as it is met; a slice's spare places count too). A statement '..UptoSaid' is the law's where the arguments, and the package variables that the reading takes, are together of bulk at most 1048576: NARROWER than '..Said'. Prove '..Said' where nothing that the law and all that it calls make is longer than what came in: it says more and counts as full. Else prove '..UptoSaid'. A law counts once. -/
mutual
def uptoBulk {H : Type} : DataW H → Nat
  | .lit (.string bytes) => bytes.length + 1
  | .lit _ => 1
  | .nil => 1
  | .ptr d => uptoBulk d + 1
  | .slice elems spare => uptoBulkAll elems + uptoBulkAll spare + 1
  | .agg parts => uptoBulkAll parts + 1
  | .iface _ d => uptoBulk d + 1
  | .map entries => uptoBulkEntries entries + 1
  | .held _ => 1
def uptoBulkAll {H : Type} : List (DataW H) → Nat
  | [] => 0
  | d :: r => uptoBulk d + uptoBulkAll r
def uptoBulkEntries {H : Type} : List (Lit × DataW H) → Nat
  | [] => 0
  | x :: r => uptoBulkEntry x + uptoBulkEntries r
def uptoBulkEntry {H : Type} : Lit × DataW H → Nat
  | (.string bytes, d) => bytes.length + uptoBulk d + 1
  | (_, d) => uptoBulk d + 1
 end
def uptoSmall : (H : Type) → List (DataW H) → Bool := fun _ ds => decide (uptoBulkAll ds ≤ 1048576)
def OpenSpec.upto (s : _root_.Go.ChangeSpec) : _root_.Go.OpenSpec := { _root_.Go.OpenSpec.ofChange s with cond := some uptoSmall }

/-- 'lombardlaw09.FundFollows', WHERE WHAT IT READS IS OF BULK AT MOST 1048576: true; the input reads as it did. -/
def fundFollowsUptoRow : OpenClaim := { program := "ytklleedcdjkpeaa", sum := "962ea9ae091d1ac5fbe8cc3de30d8d791f291b09781e0f0f5bb0a74bc3d1d1b2", func := "lombard/lombardlaw09.FundFollows", spec := "fundFollows", unfollowed := true, recurses := true, apart := false, narrowed := true }
def FundFollowsUptoSaid : Prop := fundFollowsUptoRow.holds Try.pinned (OpenSpec.upto fundFollowsSpec)

/-- 'lombardlaw09.FundPlans', WHERE WHAT IT READS IS OF BULK AT MOST 1048576: true; the input reads as it did. -/
def fundPlansUptoRow : OpenClaim := { program := "ytklleedcdjkpeaa", sum := "962ea9ae091d1ac5fbe8cc3de30d8d791f291b09781e0f0f5bb0a74bc3d1d1b2", func := "lombard/lombardlaw09.FundPlans", spec := "fundPlans", unfollowed := true, recurses := true, apart := false, narrowed := true }
def FundPlansUptoSaid : Prop := fundPlansUptoRow.holds Try.pinned (OpenSpec.upto fundPlansSpec)

/-- 'lombardlaw09.FundPays', WHERE WHAT IT READS IS OF BULK AT MOST 1048576: true; the input reads as it did. -/
def fundPaysUptoRow : OpenClaim := { program := "ytklleedcdjkpeaa", sum := "962ea9ae091d1ac5fbe8cc3de30d8d791f291b09781e0f0f5bb0a74bc3d1d1b2", func := "lombard/lombardlaw09.FundPays", spec := "fundPays", unfollowed := true, recurses := true, apart := false, narrowed := true }
def FundPaysUptoSaid : Prop := fundPaysUptoRow.holds Try.pinned (OpenSpec.upto fundPaysSpec)

/-- 'lombardlaw09.FundBetter', WHERE WHAT IT READS IS OF BULK AT MOST 1048576: true; the input reads as it did. -/
def fundBetterUptoRow : OpenClaim := { program := "ytklleedcdjkpeaa", sum := "962ea9ae091d1ac5fbe8cc3de30d8d791f291b09781e0f0f5bb0a74bc3d1d1b2", func := "lombard/lombardlaw09.FundBetter", spec := "fundBetter", unfollowed := true, recurses := true, apart := false, narrowed := true }
def FundBetterUptoSaid : Prop := fundBetterUptoRow.holds Try.pinned (OpenSpec.upto fundBetterSpec)

/-- 'lombardlaw09.FundCapital', WHERE WHAT IT READS IS OF BULK AT MOST 1048576: true; the input reads as it did. -/
def fundCapitalUptoRow : OpenClaim := { program := "ytklleedcdjkpeaa", sum := "962ea9ae091d1ac5fbe8cc3de30d8d791f291b09781e0f0f5bb0a74bc3d1d1b2", func := "lombard/lombardlaw09.FundCapital", spec := "fundCapital", unfollowed := true, recurses := true, apart := false, narrowed := true }
def FundCapitalUptoSaid : Prop := fundCapitalUptoRow.holds Try.pinned (OpenSpec.upto fundCapitalSpec)

/-- 'lombardlaw09.FundStarts', WHERE WHAT IT READS IS OF BULK AT MOST 1048576: true; the input reads as it did. -/
def fundStartsUptoRow : OpenClaim := { program := "ytklleedcdjkpeaa", sum := "962ea9ae091d1ac5fbe8cc3de30d8d791f291b09781e0f0f5bb0a74bc3d1d1b2", func := "lombard/lombardlaw09.FundStarts", spec := "fundStarts", unfollowed := true, recurses := true, apart := false, narrowed := true }
def FundStartsUptoSaid : Prop := fundStartsUptoRow.holds Try.pinned (OpenSpec.upto fundStartsSpec)

/-- 'lombardlaw09.FundFewest', WHERE WHAT IT READS IS OF BULK AT MOST 1048576: true; the input reads as it did. -/
def fundFewestUptoRow : OpenClaim := { program := "ytklleedcdjkpeaa", sum := "962ea9ae091d1ac5fbe8cc3de30d8d791f291b09781e0f0f5bb0a74bc3d1d1b2", func := "lombard/lombardlaw09.FundFewest", spec := "fundFewest", unfollowed := true, recurses := true, apart := false, narrowed := true }
def FundFewestUptoSaid : Prop := fundFewestUptoRow.holds Try.pinned (OpenSpec.upto fundFewestSpec)

/-- 'lombardlaw09.FundRuns', WHERE WHAT IT READS IS OF BULK AT MOST 1048576: true; the input reads as it did. -/
def fundRunsUptoRow : OpenClaim := { program := "ytklleedcdjkpeaa", sum := "962ea9ae091d1ac5fbe8cc3de30d8d791f291b09781e0f0f5bb0a74bc3d1d1b2", func := "lombard/lombardlaw09.FundRuns", spec := "fundRuns", unfollowed := true, recurses := true, apart := false, narrowed := true }
def FundRunsUptoSaid : Prop := fundRunsUptoRow.holds Try.pinned (OpenSpec.upto fundRunsSpec)

/-- 'lombardlaw09.FundNeeds', WHERE WHAT IT READS IS OF BULK AT MOST 1048576: true; the input reads as it did. -/
def fundNeedsUptoRow : OpenClaim := { program := "ytklleedcdjkpeaa", sum := "962ea9ae091d1ac5fbe8cc3de30d8d791f291b09781e0f0f5bb0a74bc3d1d1b2", func := "lombard/lombardlaw09.FundNeeds", spec := "fundNeeds", unfollowed := true, recurses := true, apart := false, narrowed := true }
def FundNeedsUptoSaid : Prop := fundNeedsUptoRow.holds Try.pinned (OpenSpec.upto fundNeedsSpec)

/-- 'lombardlaw09.FundFails', WHERE WHAT IT READS IS OF BULK AT MOST 1048576: true; the input reads as it did. -/
def fundFailsUptoRow : OpenClaim := { program := "ytklleedcdjkpeaa", sum := "962ea9ae091d1ac5fbe8cc3de30d8d791f291b09781e0f0f5bb0a74bc3d1d1b2", func := "lombard/lombardlaw09.FundFails", spec := "fundFails", unfollowed := true, recurses := true, apart := false, narrowed := true }
def FundFailsUptoSaid : Prop := fundFailsUptoRow.holds Try.pinned (OpenSpec.upto fundFailsSpec)

/-- 'lombardlaw09.FundKnown', WHERE WHAT IT READS IS OF BULK AT MOST 1048576: true; the input reads as it did. -/
def fundKnownUptoRow : OpenClaim := { program := "ytklleedcdjkpeaa", sum := "962ea9ae091d1ac5fbe8cc3de30d8d791f291b09781e0f0f5bb0a74bc3d1d1b2", func := "lombard/lombardlaw09.FundKnown", spec := "fundKnown", unfollowed := true, recurses := true, apart := false, narrowed := true }
def FundKnownUptoSaid : Prop := fundKnownUptoRow.holds Try.pinned (OpenSpec.upto fundKnownSpec)

end Rows
end Go.Proofs.Ytklleedcdjkpeaa
