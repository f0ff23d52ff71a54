/- Miss, Worst, Finds and Least: states and what is to be shown, reduced. No conditions. -/
import Derived.Test.YtfbbpilflbpifaaLeastQ
set_option linter.unusedSimpArgs false
set_option linter.unusedVariables false
set_option linter.constructorNameAsVariable false
set_option maxRecDepth 100000
set_option maxHeartbeats 2000000
namespace Go.P10
open Go.Lom Go.Proofs Go
def zer81 : List Int := [0, 0, 0, 0, 0, 0, 0, 0, 0, 0, 0, 0, 0, 0, 0, 0, 0, 0, 0, 0, 0, 0, 0, 0, 0, 0, 0, 0, 0, 0, 0, 0, 0, 0, 0, 0, 0, 0, 0, 0, 0, 0, 0, 0, 0, 0, 0, 0, 0, 0, 0, 0, 0, 0, 0, 0, 0, 0, 0, 0, 0, 0, 0, 0, 0, 0, 0, 0, 0, 0, 0, 0, 0, 0, 0, 0, 0, 0, 0, 0, 0]
instance (a : Au) : Decidable (okA a) := by unfold okA okSt; infer_instance
abbrev sh64 : SV := S [(1, .v L), (2, .box 0 (.v TS)), (5, .v I)]
abbrev sh64e : SV := S [(1, .v L), (2, .box 0 (.v TS))]
abbrev sh64r : SV := S [(4, .v .b)]
def ex64 : Ex2
  | .ret => some (sh64r, 0)
  | _ => some (sh64e, 1)
abbrev lc64 : LC2 := ⟨0, sh64, 1, fun (l, s, i, _) Q => (okA s.1 ∧ s.2 = triC ∧ l.length ≤ big ∧ (0 ≤ i ∧ i ≤ l.length)) ∧
  ((l.length = s.1.1.length → eachB (s.1.1.drop i.toNat) (l.drop i.toNat) = true) → Q (.exit 0) (stS 1 sh64e (l, s, ()))) ∧ (l.length = s.1.1.length → eachB (s.1.1.drop i.toNat) (l.drop i.toNat) = false → Q .ret (stS 0 sh64r (false, ())))⟩
theorem v64L (l : List Int) (a : Au) (i : Int) (Q : AX → St → Prop) : (xloop2 Try.prog {} 5 64 0 lc64 ex64 (fun (l, _, i, _) => mL l i) (l, (a, triC), i, ()) Q) =
  (fork (decide (i < (↑(l.length) : Int))) (fork ((↑(l.length) : Int) == (↑(List.length (a.1)) : Int)) (req (decide ((0 : Int) ≤ i ∧ i < (↑(l.length) : Int))) (req (decide ((0 : Int) ≤ i ∧ i < (↑(List.length (a.1)) : Int)))
 (fork (decide (List.getD l (Int.toNat i) (0 : Int) ≥ (0 : Int))) (fork (!decide (List.getD l (Int.toNat i) (0 : Int) ≤ List.getD (a.1) (Int.toNat i) (0 : Int))) (Q AX.ret (stS 0 sh64r (false, ()))) (req (inR IntKind.i64
 (i + 1)) (mL l (i + 1) < mL l i ∧ LC2.spec lc64 (l, (a, triC), i + 1, ()) Q))) (Q AX.ret (stS 0 sh64r (false, ())))))) (Q (AX.exit 0) (stS 1 sh64e (l, (a, triC), ())))) (Q (AX.exit 0) (stS 1 sh64e (l, (a, triC), ())))) := by kernel_rfl
abbrev fc64 : FC := ⟨[.v TS, .v L], [.b], fun x K => (okA x.1.1 ∧ x.1.2 = triC ∧ x.2.1.length ≤ big) ∧ ∀ r, r = eachB x.1.1.1 x.2.1 → K (r, ())⟩
theorem v64F (a : Au) (l : List Int) (K : dens [.b] → Prop) : (xfn1 Try.prog { l2 := [(64, 0, lc64)] } 5 64 fc64 ((a, triC), l, ()) K) =
  ((okA a ∧ triC = triC ∧ l.length ≤ 9223372036854775807 ∧ (0 : SV.den (SV.slot 5 (SV.v I))) ≤ (0 : Int) ∧ (0 : Int) ≤ (↑(l.length) : SV.den (SV.slot 5 (SV.v I)))) ∧ ((l.length = List.length (a.1) → eachB (List.drop 0
 (a.1)) (List.drop 0 l) = true) → K ((↑(l.length) : Int) == (↑(List.length (a.1)) : Int), ())) ∧ (l.length = List.length (a.1) → eachB (List.drop 0 (a.1)) (List.drop 0 l) = false → K (false, ()))) := by kernel_rfl
def missF (a : Au) (sa lo : List Int) : Int × Int × Int := if okA a then if eachB a.1 sa = true then if eachB a.1 lo = true then (prodM a.1 sa lo, allM a.1 sa, 0) else (0, 0, 102) else (0, 0, 101) else (0, 0, 100)
abbrev W4 : Type := List Int × Int × Int × Int
def worstV (a : Au) (sa : List Int) : W4 := if okA a then if eachB a.1 sa = true then ((worstF a sa).1, (worstF a sa).2.1, (worstF a sa).2.2, 0) else ([], 0, 0, 101) else ([], 0, 0, 100)
def findsV (a : Au) (sa : List Int) : Bool × Int := if okA a then if eachB a.1 sa = true then (findsF a sa, 0) else (false, 101) else (false, 100)
def leastV (a : Au) : List Int × Int × Int := if okA a then ((runL a ([], 0) (gA a.1 [])).1, (runL a ([], 0) (gA a.1 [])).2, 0) else ([], 0, 100)
abbrev bigs (a : Au) : Prop := a.1.length ≤ big ∧ a.2.1.length ≤ big
abbrev fc20 : FC := ⟨[.v TA, .v L, .v L], [I, I, E], fun x K => (bigs x.1 ∧ x.2.1.length ≤ big ∧ x.2.2.1.length ≤ big) ∧ ∀ n m e, (n, m, e) = missF x.1 x.2.1 x.2.2.1 → K (n, m, e, ())⟩
theorem v20F (a : Au) (sa lo : List Int) (K : dens [I, I, E] → Prop) : (xfn1 Try.prog { nm := true, f := [(28, fc28), (55, fc55), (64, fc64), (65, fc65)] } 5 20 fc20 (a, sa, lo, ()) K) =
  ((List.length (a.1) ≤ 9223372036854775807 ∧ List.length (a.2.1) ≤ 9223372036854775807) ∧ ∀ (e : Ty.den E), (okA a → e = (0 : Ty.den E)) → (¬okA a → e = (100 : Ty.den E)) → fork (e != (0 : Int)) (fork (e != (0 : Int)) (K
 ((0 : Int), (0 : Int), e, ())) ((okA ([], [], (0 : Int), (0 : Int)) ∧ zer81 = triC ∧ lo.length ≤ 9223372036854775807) ∧ ∀ (r : Bool), r = eachB [] lo → fork (!r) (K ((0 : Int), (0 : Int), (102 : Int), ())) ((okSt [] ∧
 eachB [] sa = true ∧ eachB [] lo = true ∧ zer81 = triC) ∧ ∀ (p q : Int), p = prodM [] sa lo → q = allM [] sa → K (p, q, (0 : Int), ())))) (() = () ∧ AV.agg [AV.rl I (a.1), AV.rl I (a.2.1), AV.int IntKind.i64 (a.2.2.1),
 AV.int IntKind.i64 (a.2.2.2)] = AV.agg [AV.rl I (a.1), AV.rl I (a.2.1), AV.int IntKind.i64 (a.2.2.1), AV.int IntKind.i64 (a.2.2.2)] ∧ AV.agg [AV.rl I (a.1), AV.rl I (a.2.1), AV.int IntKind.i64 (a.2.2.1), AV.int
 IntKind.i64 (a.2.2.2)] = AV.agg [AV.rl I (a.1), AV.rl I (a.2.1), AV.int IntKind.i64 (a.2.2.1), AV.int IntKind.i64 (a.2.2.2)] ∧ (okA a ∧ triC = triC ∧ sa.length ≤ 9223372036854775807) ∧ ∀ (r : Bool), r = eachB (a.1) sa →
 fork (!r) (K ((0 : Int), (0 : Int), (101 : Int), ())) ((okA a ∧ triC = triC ∧ lo.length ≤ 9223372036854775807) ∧ ∀ (r : Bool), r = eachB (a.1) lo → fork (!r) (K ((0 : Int), (0 : Int), (102 : Int), ())) ((okSt (a.1) ∧
 eachB (a.1) sa = true ∧ eachB (a.1) lo = true ∧ triC = triC) ∧ ∀ (p q : Int), p = prodM (a.1) sa lo → q = allM (a.1) sa → K (p, q, (0 : Int), ()))))) := by kernel_rfl
abbrev fc23 : FC := ⟨[.v TA, .v L], [L, I, I, E], fun x K => (bigs x.1 ∧ x.2.1.length ≤ big) ∧ ∀ l n m e, (l, n, m, e) = worstV x.1 x.2.1 → K (l, n, m, e, ())⟩
theorem v23F (a : Au) (sa : List Int) (K : dens [L, I, I, E] → Prop) : (xfn1 Try.prog { nm := true, f := [(28, fc28), (55, fc55), (64, fc64), (67, fc67)] } 5 23 fc23 (a, sa, ()) K) =
  ((List.length (a.1) ≤ 9223372036854775807 ∧ List.length (a.2.1) ≤ 9223372036854775807) ∧ ∀ (e : Ty.den E), (okA a → e = (0 : Ty.den E)) → (¬okA a → e = (100 : Ty.den E)) → fork (e != (0 : Int)) (fork (e != (0 : Int)) (K
 ([], (0 : Int), (0 : Int), e, ())) ((okSt [] ∧ zer81 = triC ∧ eachB [] sa = true ∧ (0 : Ty.den I) ≤ (0 : Int) ∧ (0 : Int) ≤ (1000 : Ty.den I)) ∧ ∀ (b : List Int) (mo al : Int), (b, mo, al) = worstF ([], [], (0 : Int), (0
 : Int)) sa → K (b, mo, al, (0 : Int), ()))) (() = () ∧ AV.agg [AV.rl I (a.1), AV.rl I (a.2.1), AV.int IntKind.i64 (a.2.2.1), AV.int IntKind.i64 (a.2.2.2)] = AV.agg [AV.rl I (a.1), AV.rl I (a.2.1), AV.int IntKind.i64
 (a.2.2.1), AV.int IntKind.i64 (a.2.2.2)] ∧ AV.agg [AV.rl I (a.1), AV.rl I (a.2.1), AV.int IntKind.i64 (a.2.2.1), AV.int IntKind.i64 (a.2.2.2)] = AV.agg [AV.rl I (a.1), AV.rl I (a.2.1), AV.int IntKind.i64 (a.2.2.1), AV.int
 IntKind.i64 (a.2.2.2)] ∧ (okA a ∧ triC = triC ∧ sa.length ≤ 9223372036854775807) ∧ ∀ (r : Bool), r = eachB (a.1) sa → fork (!r) (K ([], (0 : Int), (0 : Int), (101 : Int), ())) ((okSt (a.1) ∧ triC = triC ∧ eachB (a.1) sa =
 true ∧ (0 : Ty.den I) ≤ a.2.2.1 ∧ a.2.2.1 ≤ (1000 : Ty.den I)) ∧ ∀ (b : List Int) (mo al : Int), (b, mo, al) = worstF a sa → K (b, mo, al, (0 : Int), ())))) := by kernel_rfl
abbrev fc31 : FC := ⟨[.v TA, .v L], [.b, E], fun x K => (bigs x.1 ∧ x.2.1.length ≤ big) ∧ ∀ b e, (b, e) = findsV x.1 x.2.1 → K (b, e, ())⟩
theorem v31F (a : Au) (sa : List Int) (K : dens [.b, E] → Prop) : (xfn1 Try.prog { nm := true, f := [(28, fc28), (55, fc55), (64, fc64), (57, fc57)] } 5 31 fc31 (a, sa, ()) K) =
  ((List.length (a.1) ≤ 9223372036854775807 ∧ List.length (a.2.1) ≤ 9223372036854775807) ∧ ∀ (e : Ty.den E), (okA a → e = (0 : Ty.den E)) → (¬okA a → e = (100 : Ty.den E)) → fork (e != (0 : Int)) (fork (e != (0 : Int)) (K
 (false, e, ())) ((okA ([], [], (0 : Int), (0 : Int)) ∧ zer81 = triC ∧ eachB [] sa = true) ∧ ∀ (r : Bool), r = findsF ([], [], (0 : Int), (0 : Int)) sa → K (r, (0 : Int), ()))) (() = () ∧ AV.agg [AV.rl I (a.1), AV.rl I
 (a.2.1), AV.int IntKind.i64 (a.2.2.1), AV.int IntKind.i64 (a.2.2.2)] = AV.agg [AV.rl I (a.1), AV.rl I (a.2.1), AV.int IntKind.i64 (a.2.2.1), AV.int IntKind.i64 (a.2.2.2)] ∧ AV.agg [AV.rl I (a.1), AV.rl I (a.2.1), AV.int
 IntKind.i64 (a.2.2.1), AV.int IntKind.i64 (a.2.2.2)] = AV.agg [AV.rl I (a.1), AV.rl I (a.2.1), AV.int IntKind.i64 (a.2.2.1), AV.int IntKind.i64 (a.2.2.2)] ∧ (okA a ∧ triC = triC ∧ sa.length ≤ 9223372036854775807) ∧ ∀ (r :
 Bool), r = eachB (a.1) sa → fork (!r) (K (false, (101 : Int), ())) ((okA a ∧ triC = triC ∧ eachB (a.1) sa = true) ∧ ∀ (r : Bool), r = findsF a sa → K (r, (0 : Int), ())))) := by kernel_rfl
end Go.P10
