/- Alarms: plain definitions. No conditions. -/
import Derived.Test.YtfenogdjhadcoaaGreatWatL
set_option linter.unusedVariables false
set_option linter.unusedSimpArgs false
namespace Go.P8
def repAt (w : Wt) (l : List Dl) (h : List Int) (p k : Int) : Bool := decide (at' h (dlAt l k).2.1 = p) && repB w l h k
/-- The first dealing from one on that a head's persons must report. -/
def firstRep (w : Wt) (l : List Dl) (h : List Int) (p : Int) : Nat → Int → Int
  | 0, k => k
  | n + 1, k => if repAt w l h p k = true then k else firstRep w l h p n (k + 1)
def idxP (l : List Dl) (h : List Int) (p : Int) : Nat → Int → Int
  | 0, _ => -1
  | n + 1, i => if at' h (dlAt l i).2.1 = p then i else idxP l h p n (i + 1)
def alarmK (w : Wt) (l : List Dl) (h : List Int) (p : Int) : Int := firstRep w l h p l.length 0
/-- The alarms of the heads from one on. -/
def alarmsF (w : Wt) (l : List Dl) (h : List Int) : Nat → Int → List Dl
  | 0, _ => []
  | n + 1, p => if alarmK w l h p < l.length then (p, alarmK w l h p, sumOf l (allI w l h (alarmK w l h p))) :: alarmsF w l h n (p + 1) else alarmsF w l h n (p + 1)
noncomputable def alarmsR (l : List Dl) (ls : List Lk) (w : Wt) : List Dl × Int := if watOk l ls w = true then (alarmsF w l (headOf ls) 24 0, 0) else ([], 83)
end Go.P8
