/- Days: the reference: states and what is to be shown, reduced. No conditions. -/
import Derived.Test.YtfenogdjhadcoaaDayS3
import Derived.Test.YtfenogdjhadcoaaRefS8
set_option linter.all false
set_option maxRecDepth 100000
set_option maxHeartbeats 2000000
namespace Go.P8
open Go.Lom Go.Proofs Go
abbrev fc62 : FC2 := ⟨A [.v L], 0, A [.any, .own 0 I], 1, fun (l, _) K => l.length <= 1000 /\ ∀ r : List Int, r = l -> K ((), r, ())⟩
theorem v62F (l : List Int) (K : fc62.post.den -> Prop) : (xfn2 Try.prog {} 5 62 fc62 (l, ()) K) =
 (req (fitsN (0 + l.length) 8) (req (decide (0 + (0 + l.length) <= List.length ([] ++ l))) (K ((), seg 0 (0 + l.length) ([] ++ l), ())))) := by kernel_rfl
structure okB (b : List Int) (d : Dy) (more : Int) : Prop where
 day : dayOk d = true
 len : b.length = d.1.length
 bnd : offB (bd more) b
 cnt : 0 <= more /\ more <= 3
end Go.P8
