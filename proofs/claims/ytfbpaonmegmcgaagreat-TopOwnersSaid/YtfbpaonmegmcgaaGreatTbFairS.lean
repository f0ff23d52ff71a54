/- Share of both sides, and the law of the cents: states and what is to be shown, reduced. No conditions. -/
import Derived.Test.YtfbpaonmegmcgaaGreatTbShareS2
set_option linter.all false
set_option maxRecDepth 100000
namespace Go.P7
open Go.Lom Go.Proofs Go
def shareR (w : List Int) (s : Int) : List Int × Int := if validW w = true then (if 0 <= s /\ s <= 34359738368 then (shareL w s, 0) else ([], 7)) else ([], 70)
def sSh (w : List Int) (s : Int) (K : List Int -> Int -> Prop) : Prop := w.length <= big /\ ∀ r e, shareR w s = (r, e) -> K r e
abbrev fcSh : FC := ⟨[.v L, .v I], [L, E], fun x K => sSh x.1 x.2.1 fun r e => K (r, e, ())⟩
theorem v14F (w : List Int) (s : Int) (K : dens [L, E] -> Prop) : (xfn Tryz.prog [(12, fc47), (14, fcShare)] [] 5 5 fcSh (w, s, ()) K) =
 (w.length <= 9223372036854775807 /\ fork (!validW w) (K ([], (70 : Int), ())) (fork (decide (s >= (0 : Int))) (fork (!decide (s <= (34359738368 : Int))) (K ([], (7 : Int), ())) ((preW w /\ (0 : Int) <= s /\ s <= (34359738368 :
 Int)) /\ ∀ (r : List Int), r = shareL w s -> K (r, (0 : Int), ()))) (K ([], (7 : Int), ())))) := by kernel_rfl
def sFrom (a n b : Int) (K : Bool -> Prop) : Prop := K (decide (a <= n /\ n <= b))
def p5 (w : List Int) (s : Int) (l : List Int) (all : Int) : Prop := validW w = true /\ 0 <= s /\ s <= 34359738368 /\ l = shareL w s /\ all = w.sum
end Go.P7
