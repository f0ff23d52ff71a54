import Derived.Test.YtcpdcpfbgmiaoaaDoorRollF
import Derived.Test.YtcpdcpfbgmiaoaaDoorCodeS
set_option linter.all false
/- Rolls: the statements that ask the program alone: states and what is to be shown, reduced. No conditions. -/
set_option maxRecDepth 100000
set_option maxHeartbeats 2000000
namespace Go.P3
open Go.Lom Go.Proofs Go
abbrev LC' : Ty := .sl CT
structure okLs (l : List Cl) : Prop where
 len : l.length <= big
 all : ∀ c ∈ l, okCl c
end Go.P3

/- Rolls: comparisons, a roll after calls, TicketRefuses: states and what is to be shown, reduced. No conditions. -/
set_option maxRecDepth 100000
set_option maxHeartbeats 2000000
namespace Go.P3
open Go.Lom Go.Proofs Go
abbrev LE : Ty := .sl E5
abbrev LK : Ty := .sl T6
abbrev sh37 : SV := S [(0, .v LE), (1, .v LE), (5, .v I)]
abbrev lc37 : LC2 := ⟨0, sh37, 0, fun (a, b, i, _) Q => (a = b /\ a.length <= 1000 /\ 0 <= i /\ i <= a.length) /\ Q (.exit 0) (stS 0 .nil ())⟩
theorem v37L (a : List Ev) (i : Int) (Q : AX -> St -> Prop) : (xloop2 Tryd.prog {} 5 37 0 lc37 exB4 (fun (a, _, i, _) => mL a i) (a, a, i, ()) Q) =
 (fork (decide (i < (↑(a.length) : Int))) (req (decide ((0 : Int) <= i /\ i < (↑(a.length) : Int))) (req (decide ((0 : Int) <= i /\ i < (↑(a.length) : Int))) (fork (!((List.getD a (Int.toNat i) (0, 0, 0, 0, 0)).1 == (List.getD
 a (Int.toNat i) (0, 0, 0, 0, 0)).1 && ((List.getD a (Int.toNat i) (0, 0, 0, 0, 0)).2.1 == (List.getD a (Int.toNat i) (0, 0, 0, 0, 0)).2.1 && ((List.getD a (Int.toNat i) (0, 0, 0, 0, 0)).2.2.1 == (List.getD a (Int.toNat i)
 (0, 0, 0, 0, 0)).2.2.1 && ((List.getD a (Int.toNat i) (0, 0, 0, 0, 0)).2.2.2.1 == (List.getD a (Int.toNat i) (0, 0, 0, 0, 0)).2.2.2.1 && ((List.getD a (Int.toNat i) (0, 0, 0, 0, 0)).2.2.2.2 == (List.getD a (Int.toNat i)
 (0, 0, 0, 0, 0)).2.2.2.2 && true)))))) (Q AX.ret (stS 0 shB4 (false, ()))) (req (inR IntKind.i64 (i + 1)) (mL a (i + 1) < mL a i /\ LC2.spec lc37 (a, a, i + 1, ()) Q))))) (Q (AX.exit 0) (stS 0 SV.nil ()))) := by kernel_rfl
def stepI (s : RS) (c : Cl) : RS := (callI s c).1
abbrev sh41 : SV := S [(1, .v LC'), (5, .box 0 (rollC 1 2)), (7, .v I)]
abbrev sh41e : SV := S [(5, .box 0 (rollC 1 2))]
abbrev lc41 : LC2 := ⟨0, sh41, 3, fun (l, r, i, _) Q => (okR (r.1, r.2.1, r.2.2.1, r.2.2.2.1) /\ r.2.2.2.2.1 = true /\ okLs l /\ 0 <= i /\ i <= 60 /\ (r.2.2.2.1.length : Int) <= i) /\
 ∀ (w1 d1 : Int) (ts1 : List Tk) (es1 : List Ev), (w1, d1, ts1, es1) = ((l.take 60).drop i.toNat).foldl stepI (r.1, r.2.1, r.2.2.1, r.2.2.2.1) -> Q (.exit 0) (stS 3 sh41e ((w1, d1, ts1, es1, true, ()), ()))⟩
theorem v41L (w d0 : Int) (ts : List Tk) (es : List Ev) (l : List Cl) (i : Int) (Q : AX -> St -> Prop) : (xloop2 Tryd.prog { f2 := [(31, fcCall)] } 5 41 0 lc41 (fun _ => some (sh41e, 3)) (fun (_, _, i, _) => (60 - i).toNat) (l, (w, d0, ts, es, true, ()), i, ()) Q) =
 (fork (decide (i < (↑(l.length) : Int))) (fork (decide (i < (60 : Int))) (req (decide ((0 : Int) <= i /\ i < (↑(l.length) : Int))) (req (decide (0 + ts.length <= ts.length)) (req (decide (0 + es.length <= es.length)) ((okR
 (w, d0, seg 0 (ts.length) ts, seg 0 (es.length) es) /\ true = true /\ fitsN (List.length (seg 0 (es.length) es) + 1) 40 = true /\ okCl (List.getD l (Int.toNat i) ((0 : Int), (0 : Int), [], [], [], [], []))) /\ ∀ (w1 d1 : Int)
 (ts1 : List Tk) (es1 : List Ev) (tx : List Tx) (l_1 : List Int) (e : Int), ((w1, d1, ts1, es1), tx, l_1, e) = callI (w, d0, seg 0 (ts.length) ts, seg 0 (es.length) es) (List.getD l (Int.toNat i) ((0 : Int), (0 : Int), [],
 [], [], [], [])) -> req (inR IntKind.i64 (i + 1)) (req (decide (0 + ts1.length <= ts1.length)) (req (decide (0 + es1.length <= es1.length)) (Int.toNat ((60 : SV.den (SV.slot 7 (SV.v I))) - (i + 1)) < Int.toNat ((60 : SV.den
 (SV.slot 7 (SV.v I))) - i) /\ LC2.spec lc41 (l, (w1, d1, seg 0 (ts1.length) ts1, seg 0 (es1.length) es1, true, ()), i + 1, ()) Q))))))) (req (decide (0 + ts.length <= ts.length)) (req (decide (0 + es.length <= es.length)) (Q
 (AX.exit 0) (stS 3 sh41e ((w, d0, seg 0 (ts.length) ts, seg 0 (es.length) es, true, ()), ())))))) (req (decide (0 + ts.length <= ts.length)) (req (decide (0 + es.length <= es.length)) (Q (AX.exit 0) (stS 3 sh41e ((w, d0,
 seg 0 (ts.length) ts, seg 0 (es.length) es, true, ()), ())))))) := by kernel_rfl
abbrev fcAfter : FC2 := ⟨A [.v I, .v LC'], 0, A [.any, .any, .box 0 (rollC 1 2)], 3, fun (wt, l, _) K => (0 <= wt /\ wt <= 1000 /\ okLs l) /\
 ∀ (w1 d1 : Int) (ts1 : List Tk) (es1 : List Ev), (w1, d1, ts1, es1) = (l.take 60).foldl stepI (wt, 0, [], []) -> K ((), (), (w1, d1, ts1, es1, true, ()), ())⟩
theorem v41F (wt : Int) (l : List Cl) (K : fcAfter.post.den -> Prop) : (xfn2 Tryd.prog { f := [(49, fcWith)], l2 := [(41, 0, lc41)] } 5 41 fcAfter (wt, l, ()) K) =
 (fork (!decide ((0 : Int) <= wt /\ wt <= (1000 : Int))) False ((okR (wt, (0 : Int), [], []) /\ true = true /\ okLs l /\ (0 : SV.den (SV.slot 7 (SV.v I))) <= (0 : Int) /\ (0 : Int) <= (60 : SV.den (SV.slot 7 (SV.v I))) /\ (0 : Int)
 <= (0 : Int)) /\ ∀ (w1 d1 : Int) (ts1 : List Tk) (es1 : List Ev), (w1, d1, ts1, es1) = List.foldl stepI (wt, (0 : Int), [], []) (List.drop 0 (List.take 60 l)) -> req (decide (0 + ts1.length <= ts1.length)) (req (decide (0 +
 es1.length <= es1.length)) (K ((), (), (w1, d1, seg 0 (ts1.length) ts1, seg 0 (es1.length) es1, true, ()), ()))))) := by kernel_rfl
end Go.P3

/- Rolls by the reference: states and what is to be shown, reduced. No conditions. -/
set_option maxRecDepth 100000
set_option maxHeartbeats 2000000
namespace Go.P3
open Go.Lom Go.Proofs Go
abbrev refC (i j : Nat) : SV := A [.v I, .v I, .own i T6, .own j E5]
abbrev refL : SV := A [.v I, .v I, .lst 1 T6, .lst 2 E5]
abbrev roomy (es : List Ev) : Prop := fitsN (es.length + 1) 40 = true
end Go.P3
