/-
  No cell of these rows narrows 'for every input' (looked for: loops, veiled, ifaces, maps, wideKeys, modest, calm, conditions, laid).
  DERIVED. THE GIVEN ROWS OF THIS SEAT. 9 by the template 'for every input the law returns true; each argument reads behind the call as it read before'; 0 by the template 'total and deterministic' (their statements: YtfenogdjhadcoaaTotals.lean).
  GIVEN WITH THE SEED: the statements are not yours to turn. If you find one false, say at which input.
  Laid BY PROGRAM, IN A SANDBOX (cutbox-rows.mjs): the forced cells as the released guide's own fill.sh prints them over the translation 6ba8008e1d77ecea… (all of the seat's roots in one cut). By AI agents, Wed Nov 11 2026. No macro, syntax, notation, axiom, sorry.
-/
import Derived.Test.YtfenogdjhadcoaaChecked
import GoSem.Claim
import GoSem.ClaimJoined
import GoSem.ClaimMapViews
import Derived.JoinedTies
import Derived.KernelRfl
namespace Go.Proofs.Ytfenogdjhadcoaa
/- THE CELL 'sum', in the pinned program and in every row, IS THE sha256 OF THE DUMP (.gsa) THAT YtfenogdjhadcoaaProg.lean LOADS. Nothing in Lean hashes anything: it is a label: what it is worth is what the hold of that sum in a sandbox is worth. -/
noncomputable def Try.pinned : Pinned := { name := "ytfenogdjhadcoaa", sum := "6ba8008e1d77eceabf1aa487c77f74ad0e0c6c98a9afb3d7536dca5cfa7130c2", checked := Try.checked }
namespace Rows
def none {H : Type} : Left H := { results := [], args := [] }

/-- 'lombardlaw08.TillPays': WHATEVER THE INPUT: true; the input reads as it did. -/
def tillPaysSpec : ChangeSpec := { name := "tillPays", fn := fun _ => fun
  | [d1, d2, d3] => { results := [.lit (.bool true)], args := [d1, d2, d3] }
  | _ => none }
def tillPaysRow : OpenClaim := { program := "ytfenogdjhadcoaa", sum := "6ba8008e1d77eceabf1aa487c77f74ad0e0c6c98a9afb3d7536dca5cfa7130c2", func := "lombard/lombardlaw08.TillPays", spec := "tillPays", unfollowed := true, recurses := true, plainKeys := false, apart := false }
def TillPaysSaid : Prop := tillPaysRow.holds Try.pinned (OpenSpec.ofChange tillPaysSpec)

/-- ITS FALSE NEIGHBOUR: 'it returns false'. Refute it at one input. -/
def tillPaysWrong : ChangeSpec := { name := "tillPays", fn := fun _ => fun
  | [d1, d2, d3] => { results := [.lit (.bool false)], args := [d1, d2, d3] }
  | _ => none }
def TillPaysWrongFalsely : Prop := tillPaysRow.holds Try.pinned (OpenSpec.ofChange tillPaysWrong)

/-- 'lombardlaw08.TillDays': WHATEVER THE INPUT: true; the input reads as it did. -/
def tillDaysSpec : ChangeSpec := { name := "tillDays", fn := fun _ => fun
  | [d] => { results := [.lit (.bool true)], args := [d] }
  | _ => none }
def tillDaysRow : OpenClaim := { program := "ytfenogdjhadcoaa", sum := "6ba8008e1d77eceabf1aa487c77f74ad0e0c6c98a9afb3d7536dca5cfa7130c2", func := "lombard/lombardlaw08.TillDays", spec := "tillDays", unfollowed := true, recurses := true, plainKeys := false, apart := false }
def TillDaysSaid : Prop := tillDaysRow.holds Try.pinned (OpenSpec.ofChange tillDaysSpec)

/-- ITS FALSE NEIGHBOUR: 'it returns false'. Refute it at one input. -/
def tillDaysWrong : ChangeSpec := { name := "tillDays", fn := fun _ => fun
  | [d] => { results := [.lit (.bool false)], args := [d] }
  | _ => none }
def TillDaysWrongFalsely : Prop := tillDaysRow.holds Try.pinned (OpenSpec.ofChange tillDaysWrong)

/-- 'lombardlaw08.TillFewest': WHATEVER THE INPUT: true; the input reads as it did. -/
def tillFewestSpec : ChangeSpec := { name := "tillFewest", fn := fun _ => fun
  | [d1, d2, d3, d4] => { results := [.lit (.bool true)], args := [d1, d2, d3, d4] }
  | _ => none }
def tillFewestRow : OpenClaim := { program := "ytfenogdjhadcoaa", sum := "6ba8008e1d77eceabf1aa487c77f74ad0e0c6c98a9afb3d7536dca5cfa7130c2", func := "lombard/lombardlaw08.TillFewest", spec := "tillFewest", unfollowed := true, recurses := true, plainKeys := false, apart := false }
def TillFewestSaid : Prop := tillFewestRow.holds Try.pinned (OpenSpec.ofChange tillFewestSpec)

/-- ITS FALSE NEIGHBOUR: 'it returns false'. Refute it at one input. -/
def tillFewestWrong : ChangeSpec := { name := "tillFewest", fn := fun _ => fun
  | [d1, d2, d3, d4] => { results := [.lit (.bool false)], args := [d1, d2, d3, d4] }
  | _ => none }
def TillFewestWrongFalsely : Prop := tillFewestRow.holds Try.pinned (OpenSpec.ofChange tillFewestWrong)

/-- 'lombardlaw08.TillBalances': WHATEVER THE INPUT: true; the input reads as it did. -/
def tillBalancesSpec : ChangeSpec := { name := "tillBalances", fn := fun _ => fun
  | [d1, d2] => { results := [.lit (.bool true)], args := [d1, d2] }
  | _ => none }
def tillBalancesRow : OpenClaim := { program := "ytfenogdjhadcoaa", sum := "6ba8008e1d77eceabf1aa487c77f74ad0e0c6c98a9afb3d7536dca5cfa7130c2", func := "lombard/lombardlaw08.TillBalances", spec := "tillBalances", unfollowed := true, recurses := true, plainKeys := false, apart := false }
def TillBalancesSaid : Prop := tillBalancesRow.holds Try.pinned (OpenSpec.ofChange tillBalancesSpec)

/-- ITS FALSE NEIGHBOUR: 'it returns false'. Refute it at one input. -/
def tillBalancesWrong : ChangeSpec := { name := "tillBalances", fn := fun _ => fun
  | [d1, d2] => { results := [.lit (.bool false)], args := [d1, d2] }
  | _ => none }
def TillBalancesWrongFalsely : Prop := tillBalancesRow.holds Try.pinned (OpenSpec.ofChange tillBalancesWrong)

/-- 'lombardlaw08.TillCut': WHATEVER THE INPUT: true; the input reads as it did. -/
def tillCutSpec : ChangeSpec := { name := "tillCut", fn := fun _ => fun
  | [d1, d2] => { results := [.lit (.bool true)], args := [d1, d2] }
  | _ => none }
def tillCutRow : OpenClaim := { program := "ytfenogdjhadcoaa", sum := "6ba8008e1d77eceabf1aa487c77f74ad0e0c6c98a9afb3d7536dca5cfa7130c2", func := "lombard/lombardlaw08.TillCut", spec := "tillCut", unfollowed := true, recurses := true, plainKeys := false, apart := false }
def TillCutSaid : Prop := tillCutRow.holds Try.pinned (OpenSpec.ofChange tillCutSpec)

/-- ITS FALSE NEIGHBOUR: 'it returns false'. Refute it at one input. -/
def tillCutWrong : ChangeSpec := { name := "tillCut", fn := fun _ => fun
  | [d1, d2] => { results := [.lit (.bool false)], args := [d1, d2] }
  | _ => none }
def TillCutWrongFalsely : Prop := tillCutRow.holds Try.pinned (OpenSpec.ofChange tillCutWrong)

/-- 'lombardlaw08.TillLinks': WHATEVER THE INPUT: true; the input reads as it did. -/
def tillLinksSpec : ChangeSpec := { name := "tillLinks", fn := fun _ => fun
  | [d1, d2, d3] => { results := [.lit (.bool true)], args := [d1, d2, d3] }
  | _ => none }
def tillLinksRow : OpenClaim := { program := "ytfenogdjhadcoaa", sum := "6ba8008e1d77eceabf1aa487c77f74ad0e0c6c98a9afb3d7536dca5cfa7130c2", func := "lombard/lombardlaw08.TillLinks", spec := "tillLinks", unfollowed := true, recurses := true, plainKeys := false, apart := false }
def TillLinksSaid : Prop := tillLinksRow.holds Try.pinned (OpenSpec.ofChange tillLinksSpec)

/-- ITS FALSE NEIGHBOUR: 'it returns false'. Refute it at one input. -/
def tillLinksWrong : ChangeSpec := { name := "tillLinks", fn := fun _ => fun
  | [d1, d2, d3] => { results := [.lit (.bool false)], args := [d1, d2, d3] }
  | _ => none }
def TillLinksWrongFalsely : Prop := tillLinksRow.holds Try.pinned (OpenSpec.ofChange tillLinksWrong)

/-- 'lombardlaw08.TillReasons': WHATEVER THE INPUT: true; the input reads as it did. -/
def tillReasonsSpec : ChangeSpec := { name := "tillReasons", fn := fun _ => fun
  | [d1, d2, d3] => { results := [.lit (.bool true)], args := [d1, d2, d3] }
  | _ => none }
def tillReasonsRow : OpenClaim := { program := "ytfenogdjhadcoaa", sum := "6ba8008e1d77eceabf1aa487c77f74ad0e0c6c98a9afb3d7536dca5cfa7130c2", func := "lombard/lombardlaw08.TillReasons", spec := "tillReasons", unfollowed := true, recurses := true, plainKeys := false, apart := false }
def TillReasonsSaid : Prop := tillReasonsRow.holds Try.pinned (OpenSpec.ofChange tillReasonsSpec)

/-- ITS FALSE NEIGHBOUR: 'it returns false'. Refute it at one input. -/
def tillReasonsWrong : ChangeSpec := { name := "tillReasons", fn := fun _ => fun
  | [d1, d2, d3] => { results := [.lit (.bool false)], args := [d1, d2, d3] }
  | _ => none }
def TillReasonsWrongFalsely : Prop := tillReasonsRow.holds Try.pinned (OpenSpec.ofChange tillReasonsWrong)

/-- 'lombardlaw08.TillFinds': WHATEVER THE INPUT: true; the input reads as it did. -/
def tillFindsSpec : ChangeSpec := { name := "tillFinds", fn := fun _ => fun
  | [d1, d2, d3] => { results := [.lit (.bool true)], args := [d1, d2, d3] }
  | _ => none }
def tillFindsRow : OpenClaim := { program := "ytfenogdjhadcoaa", sum := "6ba8008e1d77eceabf1aa487c77f74ad0e0c6c98a9afb3d7536dca5cfa7130c2", func := "lombard/lombardlaw08.TillFinds", spec := "tillFinds", unfollowed := true, recurses := true, plainKeys := false, apart := false }
def TillFindsSaid : Prop := tillFindsRow.holds Try.pinned (OpenSpec.ofChange tillFindsSpec)

/-- ITS FALSE NEIGHBOUR: 'it returns false'. Refute it at one input. -/
def tillFindsWrong : ChangeSpec := { name := "tillFinds", fn := fun _ => fun
  | [d1, d2, d3] => { results := [.lit (.bool false)], args := [d1, d2, d3] }
  | _ => none }
def TillFindsWrongFalsely : Prop := tillFindsRow.holds Try.pinned (OpenSpec.ofChange tillFindsWrong)

/-- 'lombardlaw08.TillKnown': WHATEVER THE INPUT: true; the input reads as it did. -/
def tillKnownSpec : ChangeSpec := { name := "tillKnown", fn := fun _ => fun
  | [] => { results := [.lit (.bool true)], args := [] }
  | _ => none }
def tillKnownRow : OpenClaim := { program := "ytfenogdjhadcoaa", sum := "6ba8008e1d77eceabf1aa487c77f74ad0e0c6c98a9afb3d7536dca5cfa7130c2", func := "lombard/lombardlaw08.TillKnown", spec := "tillKnown", unfollowed := true, recurses := true, plainKeys := false, apart := false }
def TillKnownSaid : Prop := tillKnownRow.holds Try.pinned (OpenSpec.ofChange tillKnownSpec)

/-- ITS FALSE NEIGHBOUR: 'it returns false'. Refute it at one input. -/
def tillKnownWrong : ChangeSpec := { name := "tillKnown", fn := fun _ => fun
  | [] => { results := [.lit (.bool false)], args := [] }
  | _ => none }
def TillKnownWrongFalsely : Prop := tillKnownRow.holds Try.pinned (OpenSpec.ofChange tillKnownWrong)

/- THE SECOND FORM. 'bulk': how many values and letters a reading holds, each counted each time it is reached (what is shared counts as often as it is met; a slice's spare places count too). A statement '..UptoSaid' is the law's where the arguments, and the package variables that the reading takes, are together of bulk at most 1048576: NARROWER than '..Said'. Prove '..Said' where nothing that the law and all that it calls make is longer than what came in: it says more and counts as full. Else prove '..UptoSaid'. A law counts once. -/
mutual
def uptoBulk {H : Type} : DataW H → Nat
  | .lit (.string bytes) => bytes.length + 1
  | .lit _ => 1
  | .nil => 1
  | .ptr d => uptoBulk d + 1
  | .slice elems spare => uptoBulkAll elems + uptoBulkAll spare + 1
  | .agg parts => uptoBulkAll parts + 1
  | .iface _ d => uptoBulk d + 1
  | .map entries => uptoBulkEntries entries + 1
  | .held _ => 1
def uptoBulkAll {H : Type} : List (DataW H) → Nat
  | [] => 0
  | d :: r => uptoBulk d + uptoBulkAll r
def uptoBulkEntries {H : Type} : List (Lit × DataW H) → Nat
  | [] => 0
  | x :: r => uptoBulkEntry x + uptoBulkEntries r
def uptoBulkEntry {H : Type} : Lit × DataW H → Nat
  | (.string bytes, d) => bytes.length + uptoBulk d + 1
  | (_, d) => uptoBulk d + 1
 end
def uptoSmall : (H : Type) → List (DataW H) → Bool := fun _ ds => decide (uptoBulkAll ds ≤ 1048576)
def OpenSpec.upto (s : _root_.Go.ChangeSpec) : _root_.Go.OpenSpec := { _root_.Go.OpenSpec.ofChange s with cond := some uptoSmall }

/-- 'lombardlaw08.TillPays', WHERE WHAT IT READS IS OF BULK AT MOST 1048576: true; the input reads as it did. -/
def tillPaysUptoRow : OpenClaim := { program := "ytfenogdjhadcoaa", sum := "6ba8008e1d77eceabf1aa487c77f74ad0e0c6c98a9afb3d7536dca5cfa7130c2", func := "lombard/lombardlaw08.TillPays", spec := "tillPays", unfollowed := true, recurses := true, plainKeys := false, apart := false, narrowed := true }
def TillPaysUptoSaid : Prop := tillPaysUptoRow.holds Try.pinned (OpenSpec.upto tillPaysSpec)

/-- 'lombardlaw08.TillDays', WHERE WHAT IT READS IS OF BULK AT MOST 1048576: true; the input reads as it did. -/
def tillDaysUptoRow : OpenClaim := { program := "ytfenogdjhadcoaa", sum := "6ba8008e1d77eceabf1aa487c77f74ad0e0c6c98a9afb3d7536dca5cfa7130c2", func := "lombard/lombardlaw08.TillDays", spec := "tillDays", unfollowed := true, recurses := true, plainKeys := false, apart := false, narrowed := true }
def TillDaysUptoSaid : Prop := tillDaysUptoRow.holds Try.pinned (OpenSpec.upto tillDaysSpec)

/-- 'lombardlaw08.TillFewest', WHERE WHAT IT READS IS OF BULK AT MOST 1048576: true; the input reads as it did. -/
def tillFewestUptoRow : OpenClaim := { program := "ytfenogdjhadcoaa", sum := "6ba8008e1d77eceabf1aa487c77f74ad0e0c6c98a9afb3d7536dca5cfa7130c2", func := "lombard/lombardlaw08.TillFewest", spec := "tillFewest", unfollowed := true, recurses := true, plainKeys := false, apart := false, narrowed := true }
def TillFewestUptoSaid : Prop := tillFewestUptoRow.holds Try.pinned (OpenSpec.upto tillFewestSpec)

/-- 'lombardlaw08.TillBalances', WHERE WHAT IT READS IS OF BULK AT MOST 1048576: true; the input reads as it did. -/
def tillBalancesUptoRow : OpenClaim := { program := "ytfenogdjhadcoaa", sum := "6ba8008e1d77eceabf1aa487c77f74ad0e0c6c98a9afb3d7536dca5cfa7130c2", func := "lombard/lombardlaw08.TillBalances", spec := "tillBalances", unfollowed := true, recurses := true, plainKeys := false, apart := false, narrowed := true }
def TillBalancesUptoSaid : Prop := tillBalancesUptoRow.holds Try.pinned (OpenSpec.upto tillBalancesSpec)

/-- 'lombardlaw08.TillCut', WHERE WHAT IT READS IS OF BULK AT MOST 1048576: true; the input reads as it did. -/
def tillCutUptoRow : OpenClaim := { program := "ytfenogdjhadcoaa", sum := "6ba8008e1d77eceabf1aa487c77f74ad0e0c6c98a9afb3d7536dca5cfa7130c2", func := "lombard/lombardlaw08.TillCut", spec := "tillCut", unfollowed := true, recurses := true, plainKeys := false, apart := false, narrowed := true }
def TillCutUptoSaid : Prop := tillCutUptoRow.holds Try.pinned (OpenSpec.upto tillCutSpec)

/-- 'lombardlaw08.TillLinks', WHERE WHAT IT READS IS OF BULK AT MOST 1048576: true; the input reads as it did. -/
def tillLinksUptoRow : OpenClaim := { program := "ytfenogdjhadcoaa", sum := "6ba8008e1d77eceabf1aa487c77f74ad0e0c6c98a9afb3d7536dca5cfa7130c2", func := "lombard/lombardlaw08.TillLinks", spec := "tillLinks", unfollowed := true, recurses := true, plainKeys := false, apart := false, narrowed := true }
def TillLinksUptoSaid : Prop := tillLinksUptoRow.holds Try.pinned (OpenSpec.upto tillLinksSpec)

/-- 'lombardlaw08.TillReasons', WHERE WHAT IT READS IS OF BULK AT MOST 1048576: true; the input reads as it did. -/
def tillReasonsUptoRow : OpenClaim := { program := "ytfenogdjhadcoaa", sum := "6ba8008e1d77eceabf1aa487c77f74ad0e0c6c98a9afb3d7536dca5cfa7130c2", func := "lombard/lombardlaw08.TillReasons", spec := "tillReasons", unfollowed := true, recurses := true, plainKeys := false, apart := false, narrowed := true }
def TillReasonsUptoSaid : Prop := tillReasonsUptoRow.holds Try.pinned (OpenSpec.upto tillReasonsSpec)

/-- 'lombardlaw08.TillFinds', WHERE WHAT IT READS IS OF BULK AT MOST 1048576: true; the input reads as it did. -/
def tillFindsUptoRow : OpenClaim := { program := "ytfenogdjhadcoaa", sum := "6ba8008e1d77eceabf1aa487c77f74ad0e0c6c98a9afb3d7536dca5cfa7130c2", func := "lombard/lombardlaw08.TillFinds", spec := "tillFinds", unfollowed := true, recurses := true, plainKeys := false, apart := false, narrowed := true }
def TillFindsUptoSaid : Prop := tillFindsUptoRow.holds Try.pinned (OpenSpec.upto tillFindsSpec)

/-- 'lombardlaw08.TillKnown', WHERE WHAT IT READS IS OF BULK AT MOST 1048576: true; the input reads as it did. -/
def tillKnownUptoRow : OpenClaim := { program := "ytfenogdjhadcoaa", sum := "6ba8008e1d77eceabf1aa487c77f74ad0e0c6c98a9afb3d7536dca5cfa7130c2", func := "lombard/lombardlaw08.TillKnown", spec := "tillKnown", unfollowed := true, recurses := true, plainKeys := false, apart := false, narrowed := true }
def TillKnownUptoSaid : Prop := tillKnownUptoRow.holds Try.pinned (OpenSpec.upto tillKnownSpec)

end Rows
end Go.Proofs.Ytfenogdjhadcoaa
