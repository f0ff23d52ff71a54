/- CensusCheapest: states and what is to be shown, reduced. No conditions. -/
import Derived.Test.YtfbbpilflbpifaaFairP
set_option linter.unusedSimpArgs false
set_option linter.unusedVariables false
set_option linter.constructorNameAsVariable false
set_option maxRecDepth 100000
set_option maxHeartbeats 2000000
namespace Go.P10
open Go.Lom Go.Proofs Go

/-! Ahead -/
def aheadI : List Int → List Int → Bool
  | [], [] => false
  | [], _ :: _ => true
  | _ :: _, [] => false
  | x :: a, y :: b => if x = y then aheadI a b else decide (x < y)
abbrev fcAhead : FC := ⟨[.v L, .v L], [.b], fun x K => (x.1.length ≤ 9223372036854775807) ∧ K (aheadI x.1 x.2.1, ())⟩
/-! price -/
abbrev fc33 : FC := ⟨[.v TA, .v L], [I], fun x K => (okA x.1 ∧ eachB x.1.1 x.2.1 = true) ∧ ∀ r, r = costF x.2.1 x.1.2.1 → K (r, ())⟩
/-! the statement -/
abbrev TLo : Ty := .pr L L
abbrev fc6 : FC := ⟨[.v TA, .v TLo], [.b], fun x K => (bigs x.1 ∧ x.2.1.1.length ≤ big ∧ x.2.1.2.length ≤ big) ∧ K (true, ())⟩
theorem v6F (a : Au) (sa lo : List Int) (K : dens [.b] → Prop) : (xfn1 Try.prog { nm := true, f := [(16, fcLeast), (19, fcWorks), (20, fc20), (24, fc24w), (31, fc31), (33, fc33), (34, fcAhead)] } 5 6 fc6 (a, (sa, lo), ()) K) =
  (bigs a ∧ ∀ (s : List Int) (c e : Int), (s, c, e) = leastV a → fork (e != (0 : Int)) (fork ((↑(s.length) : Int) == (0 : Int)) (fork (c == (0 : Int)) (K (true, ())) (K (false, ()))) (K (false, ()))) ((bigs a ∧ s.length ≤
 9223372036854775807) ∧ ∀ (b : Bool) (e : Int), (b, e) = findsV a s → fork (!b) (K (false, ())) (fork (e != (0 : Int)) (K (false, ())) ((okA a ∧ eachB (a.1) s = true) ∧ ∀ (r : Int), r = costF s (a.2.1) → fork (r != c) (K
 (false, ())) ((bigs a ∧ s.length ≤ 9223372036854775807 ∧ lo.length ≤ 9223372036854775807) ∧ ∀ (n m e : Int), (n, m, e) = missF a s lo → fork (e == (0 : Int)) (lo.length ≤ 9223372036854775807 ∧ ∀ (n_1 : Ty.den I),
 (lo.length ≤ 6 → List.all lo inW = true → n_1 = List.sum lo) → AV.int IntKind.i64 (a.2.2.1) = AV.int IntKind.i64 (a.2.2.1) ∧ fork (decide (n_1 ≥ a.2.2.1)) (req (inR IntKind.i64 ((1000 : Int) * n)) (req (inR IntKind.i64
 ((1000 : Int) - a.2.2.2)) (req (inR IntKind.i64 (m * ((1000 : Int) - a.2.2.2))) (fork (decide ((1000 : Int) * n > m * ((1000 : Int) - a.2.2.2))) (K (false, ())) ((bigs a ∧ sa.length ≤ 9223372036854775807) ∧ ∀ (b : Bool)
 (e : Int), (b, e) = findsV a sa → fork (e != (0 : Int)) (fork (e == (0 : Int)) (K (true, ())) (fork (e == (101 : Int)) (K (true, ())) (K (false, ())))) (fork (!b) (fork (e == (0 : Int)) (K (true, ())) (fork (e == (101 :
 Int)) (K (true, ())) (K (false, ())))) ((okA a ∧ eachB (a.1) sa = true) ∧ ∀ (r : Int), r = costF sa (a.2.1) → fork (decide (r > c)) (K (true, ())) (fork (r == c) (sa.length ≤ 9223372036854775807 ∧ fork (!aheadI sa s) (K
 (true, ())) (K (false, ()))) (K (false, ())))))))))) ((bigs a ∧ sa.length ≤ 9223372036854775807) ∧ ∀ (b : Bool) (e : Int), (b, e) = findsV a sa → fork (e != (0 : Int)) (fork (e == (0 : Int)) (K (true, ())) (fork (e ==
 (101 : Int)) (K (true, ())) (K (false, ())))) (fork (!b) (fork (e == (0 : Int)) (K (true, ())) (fork (e == (101 : Int)) (K (true, ())) (K (false, ())))) ((okA a ∧ eachB (a.1) sa = true) ∧ ∀ (r : Int), r = costF sa (a.2.1)
 → fork (decide (r > c)) (K (true, ())) (fork (r == c) (sa.length ≤ 9223372036854775807 ∧ fork (!aheadI sa s) (K (true, ())) (K (false, ()))) (K (false, ()))))))) ((bigs a ∧ sa.length ≤ 9223372036854775807) ∧ ∀ (b : Bool)
 (e : Int), (b, e) = findsV a sa → fork (e != (0 : Int)) (fork (e == (0 : Int)) (K (true, ())) (fork (e == (101 : Int)) (K (true, ())) (K (false, ())))) (fork (!b) (fork (e == (0 : Int)) (K (true, ())) (fork (e == (101 :
 Int)) (K (true, ())) (K (false, ())))) ((okA a ∧ eachB (a.1) sa = true) ∧ ∀ (r : Int), r = costF sa (a.2.1) → fork (decide (r > c)) (K (true, ())) (fork (r == c) (sa.length ≤ 9223372036854775807 ∧ fork (!aheadI sa s) (K
 (true, ())) (K (false, ()))) (K (false, ()))))))))))) := by kernel_rfl
end Go.P10
