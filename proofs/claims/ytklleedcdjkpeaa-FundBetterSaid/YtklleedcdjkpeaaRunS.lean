/- Funds: runs that are allowed, the law of runs: states and what is to be shown, reduced. No conditions. -/
import Derived.Test.YtklleedcdjkpeaaStartsS
set_option linter.unusedSimpArgs false
set_option linter.unusedVariables false
set_option linter.constructorNameAsVariable false
set_option maxRecDepth 100000
set_option maxHeartbeats 2000000
namespace Go.P9
open Go.Lom Go.Proofs Go

/-! Starts of both -/

/-! runs -/
abbrev Grp := Int × Int × Int
def mayI (g : Grp) (st d : Int) : Int := if st < 0 ∨ d < st + g.2.2 then 0 else g.2.1
def cellOk (g : Grp) (st d n : Int) : Bool := decide (0 ≤ n ∧ n ≤ mayI g st d)
def cellsOk (g : Grp) (st : Int) (row : List Int) (j : Int) : Bool := ((List.range row.length).drop j.toNat).all fun k => cellOk g st k (row.getD k 0)
def rowOk (f : Fd) (s : List Int) (i : Nat) (row : List Int) : Bool :=
  decide (row.length = (fIn f).length) && (cellsOk ((fGroups f).getD i (0, 0, 0)) (s.getD i 0) row 0 && decide (row.sum ≤ ((fGroups f).getD i (0, 0, 0)).1))
def rowsOk (f : Fd) (s : List Int) (out : List (List Int)) (i : Int) : Bool := ((List.range out.length).drop i.toNat).all fun k => rowOk f s k (out.getD k [])
def allowB (f : Fd) (r : Rn) : Bool :=
  listsB (fGroups f).length r.1 0 && (decide ((r.1.length : Int) ≤ fBegin f) && (decide (r.2.length = (fGroups f).length) && rowsOk f (startsL f r.1) r.2 0))
def sOk (s : List Int) (i : Int) : Prop := -1 ≤ s.getD i.toNat 0 ∧ s.getD i.toNat 0 ≤ 96
/-! the program's -/
/-! the reference's -/
/-! the law -/
abbrev fcWorks : FC := ⟨[], [.b], fun _ K => K (true, ())⟩
end Go.P9
