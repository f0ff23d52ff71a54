/- Days: Explain: states and what is to be shown, reduced. No conditions. -/
import Derived.Test.YtfenogdjhadcoaaDayS2
set_option linter.all false
set_option maxRecDepth 100000
set_option maxHeartbeats 2000000
namespace Go.P8
open Go.Lom Go.Proofs Go
def subI (a b : List Int) : List Int := List.zipWith (fun x y => x - y) a b
abbrev sh22a : SV := S [(1, .box 0 (.v TDy)), (5, .box 1 (.lst 2 I)), (19, .v I), (20, .v I)]
abbrev sh22ae : SV := S [(1, .box 0 (.v TDy)), (5, .box 1 (.lst 2 I))]
abbrev lc22a : LC2 := ⟨0, sh22a, 3, fun (d, off, m, i, _) Q => (off.length = d.2.2.length /\ off.length <= 8 /\ m = off.length /\ (0 <= i /\ i <= off.length) /\ offB (39 * 1073741824) (off.drop i.toNat) /\ (∀ n ∈ d.2.2, 0 <= n /\ n <= 1073741824)) /\
 Q (.exit 0) (stS 3 sh22ae (d, off.take i.toNat ++ subI (off.drop i.toNat) (d.2.2.drop i.toNat), ()))⟩
theorem v22A (o cn : List Int) (ps : List Po) (off : List Int) (m i : Int) (Q : AX -> St -> Prop) : (xloop2 Try.prog { nm := true } 5 22 0 lc22a (fun _ => some (sh22ae, 3)) (fun (_, _, m, i, _) => (m - i).toNat) ((o, ps, cn), off, m, i, ()) Q) =
 (fork (decide (i < m)) (req (decide ((0 : Int) <= i /\ i < (↑(off.length) : Int))) (req (decide (Int.toNat i + 0 < off.length)) (req (decide ((0 : Int) <= i /\ i < (↑(cn.length) : Int))) (req (inR IntKind.i64 (List.getD off
 (Int.toNat i + 0) (0 : Int) - List.getD cn (Int.toNat i) (0 : Int))) (req (decide ((0 : Int) <= i /\ i < (↑(off.length) : Int))) (req (decide (Int.toNat i + 0 < off.length)) (∀ (ys : List (Ty.den I)), ys = List.set off
 (Int.toNat i + 0) (List.getD off (Int.toNat i + 0) (0 : Int) - List.getD cn (Int.toNat i) (0 : Int)) -> req (inR IntKind.i64 (i + 1)) (req (decide (off.length = ys.length)) (Int.toNat (m - (i + 1)) < Int.toNat (m - i) /\
 LC2.spec lc22a ((o, ps, cn), ys, m, i + 1, ()) Q))))))))) (req (decide (off.length = off.length)) (Q (AX.exit 0) (stS 3 sh22ae ((o, ps, cn), off, ()))))) := by kernel_rfl
def explFrom (ps : List Po) (off : List Int) (i : Nat) : Option (List Mi) := (List.range' i (4 - i)).findSome? fun n => expl ps n off 0
abbrev sh22b : SV := S [(1, .box 5 (.v TDy)), (5, .box 3 (.lst 4 I)), (7, .box 1 (.v LM)), (8, .box 6 cl56), (9, .v I), (36, .v I)]
abbrev sh22be : SV := S [(7, .box 0 (.v LM)), (9, .v I)]
abbrev lc22b : LC2 := ⟨0, sh22b, 7, fun (d, off, fo, u, e, i, _) Q => (dayOk d = true /\ off.length = d.1.length /\ offB (bd 3) off /\ e = 4 /\ (0 <= i /\ i <= 4)) /\
 (explFrom d.2.1 off i.toNat = none -> ∀ fo' : List Mi, Q (.exit 2) (stS 1 sh22be (fo', 4, ()))) /\ (∀ l, explFrom d.2.1 off i.toNat = some l -> Q (.exit 2) (stS 1 sh22be (l, 0, ())))⟩
theorem v22B (o cn : List Int) (ps : List Po) (off : List Int) (fo : List Mi) (i : Int) (Q : AX -> St -> Prop) : (xloop2 Try.prog { nm := true, ip := true, f2 := [(56, fc56 4)] } 5 22 1 lc22b (fun _ => some (sh22be, 1)) (fun (_, _, _, _, _, i, _) => (4 - i).toNat) ((o, ps, cn), off, fo, ((), (), (), (), (), ()), 4, i, ()) Q) =
 (fork (decide (i < (4 : Int))) (req (decide (off.length = off.length)) ((okX ([], 0) off (o, ps, cn) i /\ i < (↑4 : SV.den (SV.v I)) /\ (0 : SV.den (SV.v I)) <= (0 : Int) /\ (0 : Int) <= (16 : SV.den (SV.v I))) /\ ∀ (z' fo' :
 List Mi) (b : Bool), List.take 0 z' = List.take 0 [] -> 0 <= z'.length -> b = Option.isSome (expl ps (Int.toNat i) off 0) -> (∀ (l : List Mi), expl ps (Int.toNat i) off 0 = Option.some l -> fo' = List.take 0 [] ++ l) -> fork b
 (Q (AX.exit 2) (stS 1 sh22be (fo', (0 : Int), ()))) (req (inR IntKind.i64 (i + 1)) (req (decide (off.length = off.length)) (Int.toNat ((4 : SV.den (SV.slot 36 (SV.v I))) - (i + 1)) < Int.toNat ((4 : SV.den (SV.slot 36
 (SV.v I))) - i) /\ LC2.spec lc22b ((o, ps, cn), off, fo', ((), (), (), (), (), ()), (4 : SV.den (SV.slot 9 (SV.v I))), i + 1, ()) Q))))) (Q (AX.exit 2) (stS 1 sh22be (fo, (4 : SV.den (SV.slot 9 (SV.v I))), ())))) := by kernel_rfl
def offI (d : Dy) : List Int := subI (balI d.1 d.2.1) d.2.2
def explE (d : Dy) : List Mi × Int := if dayOk d = true then (match explFrom d.2.1 (offI d) 0 with | some l => (l, 0) | none => ([], 4)) else ([], 84)
abbrev fc22 : FC := ⟨[.v TDy], [LM, E], fun x K => bigD x.1 /\ ∀ (r : List Mi) (e : Int), (r, e) = explE x.1 -> K (r, e, ())⟩
theorem v22F (o cn : List Int) (ps : List Po) (K : dens [LM, E] -> Prop) : (xfn1 Try.prog { nm := true, ip := true, f := [(52, fc52)], f2 := [(53, fc53)], l2 := [(22, 0, lc22a), (22, 1, lc22b)] } 5 22 fc22 ((o, ps, cn), ()) K) =
 (bigD (o, ps, cn) /\ ∀ (b : Bool), b = dayOk (o, ps, cn) -> fork (!b) (K ([], (84 : Int), ())) (dayOk (o, ps, cn) = true /\ ∀ (r : List Int), r = balI o ps -> req (decide (r.length = r.length)) ((r.length = cn.length /\
 r.length <= 8 /\ (↑(r.length) : Int) = (↑(r.length) : SV.den (SV.slot 19 (SV.v I))) /\ ((0 : SV.den (SV.slot 20 (SV.v I))) <= (0 : Int) /\ (0 : Int) <= (↑(r.length) : SV.den (SV.slot 20 (SV.v I)))) /\ offB (41875931136 : Int)
 (List.drop 0 r) /\ ∀ (n : Ty.den I), n ∈ cn -> (0 : Ty.den I) <= n /\ n <= (1073741824 : Ty.den I)) /\ req (decide (List.length (List.take 0 r ++ subI (List.drop 0 r) (List.drop 0 cn)) = List.length (List.take 0 r ++ subI
 (List.drop 0 r) (List.drop 0 cn)))) ((dayOk (o, ps, cn) = true /\ List.length (List.take 0 r ++ subI (List.drop 0 r) (List.drop 0 cn)) = o.length /\ offB (42949672960 : Int) (List.take 0 r ++ subI (List.drop 0 r) (List.drop
 0 cn)) /\ (4 : Int) = (4 : SV.den (SV.slot 9 (SV.v I))) /\ (0 : SV.den (SV.slot 36 (SV.v I))) <= (0 : Int) /\ (0 : Int) <= (4 : SV.den (SV.slot 36 (SV.v I)))) /\ (explFrom ps (List.take 0 r ++ subI (List.drop 0 r) (List.drop 0
 cn)) 0 = none -> ∀ (fo' : List Mi), K ([], (4 : SV.den (SV.slot 9 (SV.v I))), ())) /\ ∀ (l : List Mi), explFrom ps (List.take 0 r ++ subI (List.drop 0 r) (List.drop 0 cn)) 0 = Option.some l -> K (l, (0 : Int), ()))))) := by kernel_rfl
end Go.P8
