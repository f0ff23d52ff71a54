/- Funds: the reference's least plan, capital, groups: states and what is to be shown, reduced. No conditions. -/
import Derived.Test.YtfbpaonmegmcgaaGreatTaLeastS
set_option linter.all false
set_option maxRecDepth 100000
set_option maxHeartbeats 2000000
namespace Go.P9
open Go.Lom Go.Proofs Go
abbrev gM (m : List Int) (j : Int) : Int := m.getD j.toNat 0
def befo (i k i' c : Int) : Prop := i' < i \/ (i' = i /\ c < k)
structure PartM (f : Fd) (need t : Int) (m nx : List Int) (i k : Int) : Prop where
 low : ∀ j, 0 <= j -> j <= fBars f -> 0 <= gM nx j -> ∃ i' c, 0 <= i' /\ 0 <= gM m i' /\ 0 <= c /\ c <= slF f t /\ i' + c = j /\ need <= gM m i' + c * prF f t /\ gM nx j = gM m i' + c * prF f t
 all : ∀ i' c, befo i k i' c -> 0 <= i' -> 0 <= gM m i' -> 0 <= c -> c <= slF f t -> i' + c <= fBars f -> need <= gM m i' + c * prF f t -> gM m i' + c * prF f t <= gM nx (i' + c)
def needH (f : Fd) (ns : List Int) : Prop := needB f ns (fBars f) /\ ∀ x ∈ ns, -562949953421312 <= x /\ x <= 562949953421312
end Go.P9
