/- Funds: plans, flows, sound plans: states and what is to be shown, reduced. No conditions. -/
import Derived.Test.YtfbpaonmegmcgaaGreatTaNeedsS
set_option linter.all false
set_option maxRecDepth 100000
set_option maxHeartbeats 2000000
namespace Go.P9
open Go.Lom Go.Proofs Go
def planC (f : Fd) (l : List Int) (i : Int) : Bool := ((List.range l.length).drop i.toNat).all fun k => decide (0 <= l.getD k 0 /\ l.getD k 0 <= (fSell f).getD k 0)
def planB (f : Fd) (l : List Int) : Bool := decide (l.length = (fIn f).length) && (planC f l 0 && decide (l.sum <= fBars f))
abbrev fcPlan : FC := ⟨[.v TF, .v L], [.b], fun x K => (okF x.1 = true /\ x.2.1.length <= 9223372036854775807) /\ K (planB x.1 x.2.1, ())⟩
abbrev sh47 : SV := S [(1, .v L), (2, bF), (12, .v L), (13, .v I), (14, .v I)]
abbrev sh47e : SV := S [(1, .v L), (2, bF)]
def ex47 : Ex2
 | .ret => some (shR4, 0)
 | _ => some (sh47e, 1)
def s47 (l : List Int) (f : Fd) (l' : List Int) (m i : Int) (Q : LQ) : Prop := (okF f = true /\ l.length = (fIn f).length /\ l' = l /\ m = l.length /\ 0 <= i /\ i <= l.length) /\
 (planC f l i = true -> Q (.exit 0) (stS 1 sh47e (l, f, ()))) /\ (planC f l i = false -> Q .ret (stS 0 shR4 (false, ())))
abbrev lc47 : LC2 := ⟨0, sh47, 1, fun (l, f, l', m, i, _) Q => s47 l f l' m i Q⟩
theorem v47L (l : List Int) (f : Fd) (l' : List Int) (m i : Int) (Q : AX -> St -> Prop) : (xloop2 Tryz.prog { f := [(31, fcWith)] } 5 17 0 lc47 ex47 (fun (l, _, _, _, i, _) => mL l i) (l, f, l', m, i, ()) Q) =
 (fork (decide (i < m)) (req (decide ((0 : Int) <= i /\ i < (↑(l'.length) : Int))) (req (decide ((0 : Int) <= i /\ i < (↑(List.length (f.2.2.2.1)) : Int))) (fork (!decide ((0 : Int) <= List.getD l' (Int.toNat i) (0 : Int) /\
 List.getD l' (Int.toNat i) (0 : Int) <= List.getD (f.2.2.2.1) (Int.toNat i) (0 : Int))) (Q AX.ret (stS 0 shR4 (false, ()))) (req (inR IntKind.i64 (i + 1)) (mL l (i + 1) < mL l i /\ LC2.spec lc47 (l, f, l', m, i + 1, ())
 Q))))) (Q (AX.exit 0) (stS 1 sh47e (l, f, ())))) := by kernel_rfl
theorem v47F (f : Fd) (l : List Int) (K : dens [.b] -> Prop) : (xfn1 Tryz.prog { f := [(32, fcSum)], l2 := [(17, 0, lc47)] } 5 17 fcPlan (f, l, ()) K) =
 (fork ((↑(l.length) : Int) != (↑(List.length (f.2.1)) : Int)) (K (false, ())) ((okF f = true /\ l.length = List.length (fIn f) /\ l = l /\ (↑(l.length) : Int) = (↑(l.length) : Int) /\ (0 : Int) <= (0 : Int) /\ (0 : Int) <=
 (↑(l.length) : Int)) /\ (planC f l (0 : Int) = true -> (l.length <= 9223372036854775807 /\ fitS (0 : Int) l) /\ AV.int IntKind.i64 (f.2.2.2.2.2.2.2.2) = AV.int IntKind.i64 (f.2.2.2.2.2.2.2.2) /\ K (decide (List.sum l <=
 f.2.2.2.2.2.2.2.2), ())) /\ (planC f l (0 : Int) = false -> K (false, ())))) := by kernel_rfl
def spanC (l : List Int) (s : List (Int × Int)) (i : Int) : Bool := ((List.range s.length).drop i.toNat).all fun k => decide ((s.getD k (0, 0)).1 <= l.getD k 0 /\ l.getD k 0 <= (s.getD k (0, 0)).2)
def flowB (l : List Int) (s : List (Int × Int)) : Bool := decide (l.length = s.length) && spanC l s 0
abbrev fcFlow : FC := ⟨[.v L, .v LSp], [.b], fun x K => (x.1.length <= 9223372036854775807 /\ x.2.1.length <= 9223372036854775807) /\ K (flowB x.1 x.2.1, ())⟩
abbrev sh49 : SV := S [(0, .v L), (12, .v LSp), (13, .v I), (14, .v I)]
def ex49 : Ex2
 | .ret => some (shR4, 0)
 | _ => some (.nil, 0)
def s49 (l : List Int) (s : List (Int × Int)) (m i : Int) (Q : LQ) : Prop := (l.length = s.length /\ l.length <= 9223372036854775807 /\ m = s.length /\ 0 <= i /\ i <= s.length) /\
 (spanC l s i = true -> Q (.exit 0) (stS 0 .nil ())) /\ (spanC l s i = false -> Q .ret (stS 0 shR4 (false, ())))
abbrev lc49 : LC2 := ⟨0, sh49, 0, fun (l, s, m, i, _) Q => s49 l s m i Q⟩
theorem v49L (l : List Int) (s : List (Int × Int)) (m i : Int) (Q : AX -> St -> Prop) : (xloop2 Tryz.prog { f := [(31, fcWith)] } 5 19 0 lc49 ex49 (fun (_, s, _, i, _) => mL s i) (l, s, m, i, ()) Q) =
 (fork (decide (i < m)) (req (decide ((0 : Int) <= i /\ i < (↑(s.length) : Int))) (req (decide ((0 : Int) <= i /\ i < (↑(l.length) : Int))) (fork (!decide ((List.getD s (Int.toNat i) ((0 : Int), (0 : Int))).1 <= List.getD l
 (Int.toNat i) (0 : Int) /\ List.getD l (Int.toNat i) (0 : Int) <= (List.getD s (Int.toNat i) ((0 : Int), (0 : Int))).2)) (Q AX.ret (stS 0 shR4 (false, ()))) (req (inR IntKind.i64 (i + 1)) (mL s (i + 1) < mL s i /\ LC2.spec
 lc49 (l, s, m, i + 1, ()) Q))))) (Q (AX.exit 0) (stS 0 SV.nil ()))) := by kernel_rfl
theorem v49F (l : List Int) (s : List (Int × Int)) (K : dens [.b] -> Prop) : (xfn1 Tryz.prog { l2 := [(19, 0, lc49)] } 5 19 fcFlow (l, s, ()) K) =
 (fork ((↑(l.length) : Int) != (↑(s.length) : Int)) (K (false, ())) ((l.length = s.length /\ l.length <= 9223372036854775807 /\ (↑(s.length) : Int) = (↑(s.length) : Int) /\ (0 : Int) <= (0 : Int) /\ (0 : Int) <= (↑(s.length) :
 Int)) /\ (spanC l s (0 : Int) = true -> K (true, ())) /\ (spanC l s (0 : Int) = false -> K (false, ())))) := by kernel_rfl
def monI (f : Fd) (l : List Int) (i m : Int) : Int := m + l.getD i.toNat 0 * ((fPrices f).getD i.toNat (0, 0)).1
def soundN (f : Fd) (l : List Int) : List Int -> Int -> Int -> Bool
 | [], _, _ => true
 | n :: ns, i, m => if monI f l i m < n then false else soundN f l ns (i + 1) (monI f l i m)
def soundB (f : Fd) (l : List Int) : Bool := soundN f l (needsL f) 0 0
end Go.P9
