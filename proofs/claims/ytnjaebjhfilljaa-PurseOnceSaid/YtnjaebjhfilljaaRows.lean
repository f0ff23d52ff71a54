/-
  No cell of these rows narrows 'for every input' (looked for: loops, veiled, ifaces, maps, wideKeys, modest, calm, conditions, laid).
  DERIVED. THE GIVEN ROWS OF THIS SEAT. 11 by the template 'for every input the law returns true; each argument reads behind the call as it read before'; 0 by the template 'total and deterministic' (their statements: YtnjaebjhfilljaaTotals.lean).
  GIVEN WITH THE SEED: the statements are not yours to turn. If you find one false, say at which input.
  Laid BY PROGRAM, IN A SANDBOX (cutbox-rows.mjs): the forced cells as the released guide's own fill.sh prints them over the translation 3a25879c99076481… (all of the seat's roots in one cut). By AI agents, Wed Nov 11 2026. No macro, syntax, notation, axiom, sorry.
-/
import Derived.Test.YtnjaebjhfilljaaChecked
import GoSem.Claim
import GoSem.ClaimJoined
import GoSem.ClaimMapViews
import Derived.JoinedTies
import Derived.KernelRfl
namespace Go.Proofs.Ytnjaebjhfilljaa
/- THE CELL 'sum', in the pinned program and in every row, IS THE sha256 OF THE DUMP (.gsa) THAT YtnjaebjhfilljaaProg.lean LOADS. Nothing in Lean hashes anything: it is a label: what it is worth is what the hold of that sum in a sandbox is worth. -/
noncomputable def Try.pinned : Pinned := { name := "ytnjaebjhfilljaa", sum := "3a25879c99076481b648e5832c244a3ee719c38b828f0eafe244d7bd733238d1", checked := Try.checked }
namespace Rows
def none {H : Type} : Left H := { results := [], args := [] }

/-- 'lombardlaw07.PurseShares': WHATEVER THE INPUT: true; the input reads as it did. -/
def purseSharesSpec : ChangeSpec := { name := "purseShares", fn := fun _ => fun
  | [d1, d2, d3] => { results := [.lit (.bool true)], args := [d1, d2, d3] }
  | _ => none }
def purseSharesRow : OpenClaim := { program := "ytnjaebjhfilljaa", sum := "3a25879c99076481b648e5832c244a3ee719c38b828f0eafe244d7bd733238d1", func := "lombard/lombardlaw07.PurseShares", spec := "purseShares", unfollowed := true, recurses := true, apart := false }
def PurseSharesSaid : Prop := purseSharesRow.holds Try.pinned (OpenSpec.ofChange purseSharesSpec)

/-- ITS FALSE NEIGHBOUR: 'it returns false'. Refute it at one input. -/
def purseSharesWrong : ChangeSpec := { name := "purseShares", fn := fun _ => fun
  | [d1, d2, d3] => { results := [.lit (.bool false)], args := [d1, d2, d3] }
  | _ => none }
def PurseSharesWrongFalsely : Prop := purseSharesRow.holds Try.pinned (OpenSpec.ofChange purseSharesWrong)

/-- 'lombardlaw07.PurseLots': WHATEVER THE INPUT: true; the input reads as it did. -/
def purseLotsSpec : ChangeSpec := { name := "purseLots", fn := fun _ => fun
  | [d1, d2] => { results := [.lit (.bool true)], args := [d1, d2] }
  | _ => none }
def purseLotsRow : OpenClaim := { program := "ytnjaebjhfilljaa", sum := "3a25879c99076481b648e5832c244a3ee719c38b828f0eafe244d7bd733238d1", func := "lombard/lombardlaw07.PurseLots", spec := "purseLots", unfollowed := true, recurses := true, apart := false }
def PurseLotsSaid : Prop := purseLotsRow.holds Try.pinned (OpenSpec.ofChange purseLotsSpec)

/-- ITS FALSE NEIGHBOUR: 'it returns false'. Refute it at one input. -/
def purseLotsWrong : ChangeSpec := { name := "purseLots", fn := fun _ => fun
  | [d1, d2] => { results := [.lit (.bool false)], args := [d1, d2] }
  | _ => none }
def PurseLotsWrongFalsely : Prop := purseLotsRow.holds Try.pinned (OpenSpec.ofChange purseLotsWrong)

/-- 'lombardlaw07.PurseFair': WHATEVER THE INPUT: true; the input reads as it did. -/
def purseFairSpec : ChangeSpec := { name := "purseFair", fn := fun _ => fun
  | [d1, d2] => { results := [.lit (.bool true)], args := [d1, d2] }
  | _ => none }
def purseFairRow : OpenClaim := { program := "ytnjaebjhfilljaa", sum := "3a25879c99076481b648e5832c244a3ee719c38b828f0eafe244d7bd733238d1", func := "lombard/lombardlaw07.PurseFair", spec := "purseFair", unfollowed := true, recurses := true, apart := false }
def PurseFairSaid : Prop := purseFairRow.holds Try.pinned (OpenSpec.ofChange purseFairSpec)

/-- ITS FALSE NEIGHBOUR: 'it returns false'. Refute it at one input. -/
def purseFairWrong : ChangeSpec := { name := "purseFair", fn := fun _ => fun
  | [d1, d2] => { results := [.lit (.bool false)], args := [d1, d2] }
  | _ => none }
def PurseFairWrongFalsely : Prop := purseFairRow.holds Try.pinned (OpenSpec.ofChange purseFairWrong)

/-- 'lombardlaw07.PurseMore': WHATEVER THE INPUT: true; the input reads as it did. -/
def purseMoreSpec : ChangeSpec := { name := "purseMore", fn := fun _ => fun
  | [d1, d2, d3] => { results := [.lit (.bool true)], args := [d1, d2, d3] }
  | _ => none }
def purseMoreRow : OpenClaim := { program := "ytnjaebjhfilljaa", sum := "3a25879c99076481b648e5832c244a3ee719c38b828f0eafe244d7bd733238d1", func := "lombard/lombardlaw07.PurseMore", spec := "purseMore", unfollowed := true, recurses := true, apart := false }
def PurseMoreSaid : Prop := purseMoreRow.holds Try.pinned (OpenSpec.ofChange purseMoreSpec)

/-- ITS FALSE NEIGHBOUR: 'it returns false'. Refute it at one input. -/
def purseMoreWrong : ChangeSpec := { name := "purseMore", fn := fun _ => fun
  | [d1, d2, d3] => { results := [.lit (.bool false)], args := [d1, d2, d3] }
  | _ => none }
def PurseMoreWrongFalsely : Prop := purseMoreRow.holds Try.pinned (OpenSpec.ofChange purseMoreWrong)

/-- 'lombardlaw07.PurseAlone': WHATEVER THE INPUT: true; the input reads as it did. -/
def purseAloneSpec : ChangeSpec := { name := "purseAlone", fn := fun _ => fun
  | [d1, d2, d3] => { results := [.lit (.bool true)], args := [d1, d2, d3] }
  | _ => none }
def purseAloneRow : OpenClaim := { program := "ytnjaebjhfilljaa", sum := "3a25879c99076481b648e5832c244a3ee719c38b828f0eafe244d7bd733238d1", func := "lombard/lombardlaw07.PurseAlone", spec := "purseAlone", unfollowed := true, recurses := true, apart := false }
def PurseAloneSaid : Prop := purseAloneRow.holds Try.pinned (OpenSpec.ofChange purseAloneSpec)

/-- ITS FALSE NEIGHBOUR: 'it returns false'. Refute it at one input. -/
def purseAloneWrong : ChangeSpec := { name := "purseAlone", fn := fun _ => fun
  | [d1, d2, d3] => { results := [.lit (.bool false)], args := [d1, d2, d3] }
  | _ => none }
def PurseAloneWrongFalsely : Prop := purseAloneRow.holds Try.pinned (OpenSpec.ofChange purseAloneWrong)

/-- 'lombardlaw07.PurseRanks': WHATEVER THE INPUT: true; the input reads as it did. -/
def purseRanksSpec : ChangeSpec := { name := "purseRanks", fn := fun _ => fun
  | [d1, d2, d3] => { results := [.lit (.bool true)], args := [d1, d2, d3] }
  | _ => none }
def purseRanksRow : OpenClaim := { program := "ytnjaebjhfilljaa", sum := "3a25879c99076481b648e5832c244a3ee719c38b828f0eafe244d7bd733238d1", func := "lombard/lombardlaw07.PurseRanks", spec := "purseRanks", unfollowed := true, recurses := true, apart := false }
def PurseRanksSaid : Prop := purseRanksRow.holds Try.pinned (OpenSpec.ofChange purseRanksSpec)

/-- ITS FALSE NEIGHBOUR: 'it returns false'. Refute it at one input. -/
def purseRanksWrong : ChangeSpec := { name := "purseRanks", fn := fun _ => fun
  | [d1, d2, d3] => { results := [.lit (.bool false)], args := [d1, d2, d3] }
  | _ => none }
def PurseRanksWrongFalsely : Prop := purseRanksRow.holds Try.pinned (OpenSpec.ofChange purseRanksWrong)

/-- 'lombardlaw07.PurseWhole': WHATEVER THE INPUT: true; the input reads as it did. -/
def purseWholeSpec : ChangeSpec := { name := "purseWhole", fn := fun _ => fun
  | [d1, d2] => { results := [.lit (.bool true)], args := [d1, d2] }
  | _ => none }
def purseWholeRow : OpenClaim := { program := "ytnjaebjhfilljaa", sum := "3a25879c99076481b648e5832c244a3ee719c38b828f0eafe244d7bd733238d1", func := "lombard/lombardlaw07.PurseWhole", spec := "purseWhole", unfollowed := true, recurses := true, apart := false }
def PurseWholeSaid : Prop := purseWholeRow.holds Try.pinned (OpenSpec.ofChange purseWholeSpec)

/-- ITS FALSE NEIGHBOUR: 'it returns false'. Refute it at one input. -/
def purseWholeWrong : ChangeSpec := { name := "purseWhole", fn := fun _ => fun
  | [d1, d2] => { results := [.lit (.bool false)], args := [d1, d2] }
  | _ => none }
def PurseWholeWrongFalsely : Prop := purseWholeRow.holds Try.pinned (OpenSpec.ofChange purseWholeWrong)

/-- 'lombardlaw07.PurseOnce': WHATEVER THE INPUT: true; the input reads as it did. -/
def purseOnceSpec : ChangeSpec := { name := "purseOnce", fn := fun _ => fun
  | [d1, d2] => { results := [.lit (.bool true)], args := [d1, d2] }
  | _ => none }
def purseOnceRow : OpenClaim := { program := "ytnjaebjhfilljaa", sum := "3a25879c99076481b648e5832c244a3ee719c38b828f0eafe244d7bd733238d1", func := "lombard/lombardlaw07.PurseOnce", spec := "purseOnce", unfollowed := true, recurses := true, apart := false }
def PurseOnceSaid : Prop := purseOnceRow.holds Try.pinned (OpenSpec.ofChange purseOnceSpec)

/-- ITS FALSE NEIGHBOUR: 'it returns false'. Refute it at one input. -/
def purseOnceWrong : ChangeSpec := { name := "purseOnce", fn := fun _ => fun
  | [d1, d2] => { results := [.lit (.bool false)], args := [d1, d2] }
  | _ => none }
def PurseOnceWrongFalsely : Prop := purseOnceRow.holds Try.pinned (OpenSpec.ofChange purseOnceWrong)

/-- 'lombardlaw07.PurseRefuses': WHATEVER THE INPUT: true; the input reads as it did. -/
def purseRefusesSpec : ChangeSpec := { name := "purseRefuses", fn := fun _ => fun
  | [d1, d2, d3] => { results := [.lit (.bool true)], args := [d1, d2, d3] }
  | _ => none }
def purseRefusesRow : OpenClaim := { program := "ytnjaebjhfilljaa", sum := "3a25879c99076481b648e5832c244a3ee719c38b828f0eafe244d7bd733238d1", func := "lombard/lombardlaw07.PurseRefuses", spec := "purseRefuses", unfollowed := true, recurses := true, apart := false }
def PurseRefusesSaid : Prop := purseRefusesRow.holds Try.pinned (OpenSpec.ofChange purseRefusesSpec)

/-- ITS FALSE NEIGHBOUR: 'it returns false'. Refute it at one input. -/
def purseRefusesWrong : ChangeSpec := { name := "purseRefuses", fn := fun _ => fun
  | [d1, d2, d3] => { results := [.lit (.bool false)], args := [d1, d2, d3] }
  | _ => none }
def PurseRefusesWrongFalsely : Prop := purseRefusesRow.holds Try.pinned (OpenSpec.ofChange purseRefusesWrong)

/-- 'lombardlaw07.PurseActs': WHATEVER THE INPUT: true; the input reads as it did. -/
def purseActsSpec : ChangeSpec := { name := "purseActs", fn := fun _ => fun
  | [d1, d2, d3] => { results := [.lit (.bool true)], args := [d1, d2, d3] }
  | _ => none }
def purseActsRow : OpenClaim := { program := "ytnjaebjhfilljaa", sum := "3a25879c99076481b648e5832c244a3ee719c38b828f0eafe244d7bd733238d1", func := "lombard/lombardlaw07.PurseActs", spec := "purseActs", unfollowed := true, recurses := true, apart := false }
def PurseActsSaid : Prop := purseActsRow.holds Try.pinned (OpenSpec.ofChange purseActsSpec)

/-- ITS FALSE NEIGHBOUR: 'it returns false'. Refute it at one input. -/
def purseActsWrong : ChangeSpec := { name := "purseActs", fn := fun _ => fun
  | [d1, d2, d3] => { results := [.lit (.bool false)], args := [d1, d2, d3] }
  | _ => none }
def PurseActsWrongFalsely : Prop := purseActsRow.holds Try.pinned (OpenSpec.ofChange purseActsWrong)

/-- 'lombardlaw07.PurseKnown': WHATEVER THE INPUT: true; the input reads as it did. -/
def purseKnownSpec : ChangeSpec := { name := "purseKnown", fn := fun _ => fun
  | [] => { results := [.lit (.bool true)], args := [] }
  | _ => none }
def purseKnownRow : OpenClaim := { program := "ytnjaebjhfilljaa", sum := "3a25879c99076481b648e5832c244a3ee719c38b828f0eafe244d7bd733238d1", func := "lombard/lombardlaw07.PurseKnown", spec := "purseKnown", unfollowed := true, recurses := true, apart := false }
def PurseKnownSaid : Prop := purseKnownRow.holds Try.pinned (OpenSpec.ofChange purseKnownSpec)

/-- ITS FALSE NEIGHBOUR: 'it returns false'. Refute it at one input. -/
def purseKnownWrong : ChangeSpec := { name := "purseKnown", fn := fun _ => fun
  | [] => { results := [.lit (.bool false)], args := [] }
  | _ => none }
def PurseKnownWrongFalsely : Prop := purseKnownRow.holds Try.pinned (OpenSpec.ofChange purseKnownWrong)

/- THE SECOND FORM. 'bulk': how many values and letters a reading holds, each counted each time it is reached (what is shared counts as often as it is met; a slice's spare places count too). A statement '..UptoSaid' is the law's where the arguments, and the package variables that the reading takes, are together of bulk at most 1048576: NARROWER than '..Said'. Prove '..Said' where nothing that the law and all that it calls make is longer than what came in: it says more and counts as full. Else prove '..UptoSaid'. A law counts once. -/
mutual
def uptoBulk {H : Type} : DataW H → Nat
  | .lit (.string bytes) => bytes.length + 1
  | .lit _ => 1
  | .nil => 1
  | .ptr d => uptoBulk d + 1
  | .slice elems spare => uptoBulkAll elems + uptoBulkAll spare + 1
  | .agg parts => uptoBulkAll parts + 1
  | .iface _ d => uptoBulk d + 1
  | .map entries => uptoBulkEntries entries + 1
  | .held _ => 1
def uptoBulkAll {H : Type} : List (DataW H) → Nat
  | [] => 0
  | d :: r => uptoBulk d + uptoBulkAll r
def uptoBulkEntries {H : Type} : List (Lit × DataW H) → Nat
  | [] => 0
  | x :: r => uptoBulkEntry x + uptoBulkEntries r
def uptoBulkEntry {H : Type} : Lit × DataW H → Nat
  | (.string bytes, d) => bytes.length + uptoBulk d + 1
  | (_, d) => uptoBulk d + 1
 end
def uptoSmall : (H : Type) → List (DataW H) → Bool := fun _ ds => decide (uptoBulkAll ds ≤ 1048576)
def OpenSpec.upto (s : _root_.Go.ChangeSpec) : _root_.Go.OpenSpec := { _root_.Go.OpenSpec.ofChange s with cond := some uptoSmall }

/-- 'lombardlaw07.PurseShares', WHERE WHAT IT READS IS OF BULK AT MOST 1048576: true; the input reads as it did. -/
def purseSharesUptoRow : OpenClaim := { program := "ytnjaebjhfilljaa", sum := "3a25879c99076481b648e5832c244a3ee719c38b828f0eafe244d7bd733238d1", func := "lombard/lombardlaw07.PurseShares", spec := "purseShares", unfollowed := true, recurses := true, apart := false, narrowed := true }
def PurseSharesUptoSaid : Prop := purseSharesUptoRow.holds Try.pinned (OpenSpec.upto purseSharesSpec)

/-- 'lombardlaw07.PurseLots', WHERE WHAT IT READS IS OF BULK AT MOST 1048576: true; the input reads as it did. -/
def purseLotsUptoRow : OpenClaim := { program := "ytnjaebjhfilljaa", sum := "3a25879c99076481b648e5832c244a3ee719c38b828f0eafe244d7bd733238d1", func := "lombard/lombardlaw07.PurseLots", spec := "purseLots", unfollowed := true, recurses := true, apart := false, narrowed := true }
def PurseLotsUptoSaid : Prop := purseLotsUptoRow.holds Try.pinned (OpenSpec.upto purseLotsSpec)

/-- 'lombardlaw07.PurseFair', WHERE WHAT IT READS IS OF BULK AT MOST 1048576: true; the input reads as it did. -/
def purseFairUptoRow : OpenClaim := { program := "ytnjaebjhfilljaa", sum := "3a25879c99076481b648e5832c244a3ee719c38b828f0eafe244d7bd733238d1", func := "lombard/lombardlaw07.PurseFair", spec := "purseFair", unfollowed := true, recurses := true, apart := false, narrowed := true }
def PurseFairUptoSaid : Prop := purseFairUptoRow.holds Try.pinned (OpenSpec.upto purseFairSpec)

/-- 'lombardlaw07.PurseMore', WHERE WHAT IT READS IS OF BULK AT MOST 1048576: true; the input reads as it did. -/
def purseMoreUptoRow : OpenClaim := { program := "ytnjaebjhfilljaa", sum := "3a25879c99076481b648e5832c244a3ee719c38b828f0eafe244d7bd733238d1", func := "lombard/lombardlaw07.PurseMore", spec := "purseMore", unfollowed := true, recurses := true, apart := false, narrowed := true }
def PurseMoreUptoSaid : Prop := purseMoreUptoRow.holds Try.pinned (OpenSpec.upto purseMoreSpec)

/-- 'lombardlaw07.PurseAlone', WHERE WHAT IT READS IS OF BULK AT MOST 1048576: true; the input reads as it did. -/
def purseAloneUptoRow : OpenClaim := { program := "ytnjaebjhfilljaa", sum := "3a25879c99076481b648e5832c244a3ee719c38b828f0eafe244d7bd733238d1", func := "lombard/lombardlaw07.PurseAlone", spec := "purseAlone", unfollowed := true, recurses := true, apart := false, narrowed := true }
def PurseAloneUptoSaid : Prop := purseAloneUptoRow.holds Try.pinned (OpenSpec.upto purseAloneSpec)

/-- 'lombardlaw07.PurseRanks', WHERE WHAT IT READS IS OF BULK AT MOST 1048576: true; the input reads as it did. -/
def purseRanksUptoRow : OpenClaim := { program := "ytnjaebjhfilljaa", sum := "3a25879c99076481b648e5832c244a3ee719c38b828f0eafe244d7bd733238d1", func := "lombard/lombardlaw07.PurseRanks", spec := "purseRanks", unfollowed := true, recurses := true, apart := false, narrowed := true }
def PurseRanksUptoSaid : Prop := purseRanksUptoRow.holds Try.pinned (OpenSpec.upto purseRanksSpec)

/-- 'lombardlaw07.PurseWhole', WHERE WHAT IT READS IS OF BULK AT MOST 1048576: true; the input reads as it did. -/
def purseWholeUptoRow : OpenClaim := { program := "ytnjaebjhfilljaa", sum := "3a25879c99076481b648e5832c244a3ee719c38b828f0eafe244d7bd733238d1", func := "lombard/lombardlaw07.PurseWhole", spec := "purseWhole", unfollowed := true, recurses := true, apart := false, narrowed := true }
def PurseWholeUptoSaid : Prop := purseWholeUptoRow.holds Try.pinned (OpenSpec.upto purseWholeSpec)

/-- 'lombardlaw07.PurseOnce', WHERE WHAT IT READS IS OF BULK AT MOST 1048576: true; the input reads as it did. -/
def purseOnceUptoRow : OpenClaim := { program := "ytnjaebjhfilljaa", sum := "3a25879c99076481b648e5832c244a3ee719c38b828f0eafe244d7bd733238d1", func := "lombard/lombardlaw07.PurseOnce", spec := "purseOnce", unfollowed := true, recurses := true, apart := false, narrowed := true }
def PurseOnceUptoSaid : Prop := purseOnceUptoRow.holds Try.pinned (OpenSpec.upto purseOnceSpec)

/-- 'lombardlaw07.PurseRefuses', WHERE WHAT IT READS IS OF BULK AT MOST 1048576: true; the input reads as it did. -/
def purseRefusesUptoRow : OpenClaim := { program := "ytnjaebjhfilljaa", sum := "3a25879c99076481b648e5832c244a3ee719c38b828f0eafe244d7bd733238d1", func := "lombard/lombardlaw07.PurseRefuses", spec := "purseRefuses", unfollowed := true, recurses := true, apart := false, narrowed := true }
def PurseRefusesUptoSaid : Prop := purseRefusesUptoRow.holds Try.pinned (OpenSpec.upto purseRefusesSpec)

/-- 'lombardlaw07.PurseActs', WHERE WHAT IT READS IS OF BULK AT MOST 1048576: true; the input reads as it did. -/
def purseActsUptoRow : OpenClaim := { program := "ytnjaebjhfilljaa", sum := "3a25879c99076481b648e5832c244a3ee719c38b828f0eafe244d7bd733238d1", func := "lombard/lombardlaw07.PurseActs", spec := "purseActs", unfollowed := true, recurses := true, apart := false, narrowed := true }
def PurseActsUptoSaid : Prop := purseActsUptoRow.holds Try.pinned (OpenSpec.upto purseActsSpec)

/-- 'lombardlaw07.PurseKnown', WHERE WHAT IT READS IS OF BULK AT MOST 1048576: true; the input reads as it did. -/
def purseKnownUptoRow : OpenClaim := { program := "ytnjaebjhfilljaa", sum := "3a25879c99076481b648e5832c244a3ee719c38b828f0eafe244d7bd733238d1", func := "lombard/lombardlaw07.PurseKnown", spec := "purseKnown", unfollowed := true, recurses := true, apart := false, narrowed := true }
def PurseKnownUptoSaid : Prop := purseKnownUptoRow.holds Try.pinned (OpenSpec.upto purseKnownSpec)

end Rows
end Go.Proofs.Ytnjaebjhfilljaa
