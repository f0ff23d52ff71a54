/- Payments: states and what is to be shown, reduced. No conditions. -/
import Derived.Test.YtfenogdjhadcoaaPayL
import Derived.Test.YtfenogdjhadcoaaLibD
import Derived.KernelRfl
import Derived.Test.YtfenogdjhadcoaaProg
set_option linter.all false
set_option maxRecDepth 100000
set_option maxHeartbeats 2000000
namespace Go.P8
open Go.Lom Go.Proofs Go
@[reducible] def S : List (Nat × SV) -> SV
 | [] => .nil
 | p :: l => .cons (.slot p.1 p.2) (S l)
@[reducible] def A : List SV -> SV
 | [] => .nil
 | p :: l => .cons p (A l)
abbrev I : Ty := .i .i64
abbrev E : Ty := .i .i64
abbrev L : Ty := .sl I
abbrev big : Nat := 9223372036854775807
def mL {α : Type} (l : List α) (i : Int) : Nat := (l.length - i).toNat
abbrev Dr : Type := List Int × List Int
def haveB (n : Int) : Bool := decide (0 <= n /\ n <= 50)
def firstBadH : List Int -> Int -> Int
 | [], _ => -1
 | x :: l, i => if haveB x = true then firstBadH l (i + 1) else i
abbrev sh84 : SV := S [(0, .v L), (1, .a (.clo 79 [] [])), (7, .v I), (8, .v I)]
abbrev shR4i : SV := S [(4, .v I)]
def ex84 : Ex2
 | .ret => some (shR4i, 0)
 | _ => some (.nil, 0)
abbrev lc84 : LC2 := ⟨0, sh84, 0, fun (l, _, m, i, _) Q => (0 <= i /\ i <= l.length /\ m = l.length /\ l.length <= 2000) /\ ((l.drop i.toNat).all haveB = true -> Q (.exit 0) (stS 0 .nil ())) /\ ((l.drop i.toNat).all haveB = false -> Q .ret (stS 0 shR4i (firstBadH (l.drop i.toNat) i, ())))⟩
theorem v84L (l : List Int) (m i : Int) (Q : AX -> St -> Prop) : (xloop2 Try.prog {} 5 84 0 lc84 ex84 (fun (l, _, _, i, _) => mL l i) (l, ((), ()), m, i, ()) Q) =
 (fork (decide (i < m)) (req (decide ((0 : Int) <= i /\ i < (↑(l.length) : Int))) (fork (decide (List.getD l (Int.toNat i) (0 : Int) >= (0 : Int))) (fork (!decide (List.getD l (Int.toNat i) (0 : Int) <= (50 : Int))) (Q AX.ret
 (stS 0 shR4i (i, ()))) (req (inR IntKind.i64 (i + 1)) (mL l (i + 1) < mL l i /\ LC2.spec lc84 (l, ((), ()), m, i + 1, ()) Q))) (Q AX.ret (stS 0 shR4i (i, ()))))) (Q (AX.exit 0) (stS 0 SV.nil ()))) := by kernel_rfl
abbrev fcFrom : FC := ⟨[.v I, .v I, .v I], [.b], fun x K => K (decide (x.1 <= x.2.1 /\ x.2.1 <= x.2.2.1), ())⟩
theorem v26F (a n b : Int) (K : dens [.b] -> Prop) : (xfn1 Try.prog {} 5 26 fcFrom (a, n, b, ()) K) =
 (fork (decide (a <= n)) (K (decide (n <= b), ())) (K (false, ()))) := by kernel_rfl
def valueN : List Int -> List Int -> Int
 | c :: cs, n :: l => n * c + valueN cs l
 | _, _ => 0
abbrev fc50 : FC2 := ⟨A [.v L], 0, A [.any, .own 0 I], 1, fun (l, _) K => l.length <= 8 /\ ∀ r : List Int, r = l -> K ((), r, ())⟩
theorem v50F (l : List Int) (K : fc50.post.den -> Prop) : (xfn2 Try.prog {} 5 50 fc50 (l, ()) K) =
 (∀ (b : Bool), (b = true -> l.length = 0) -> fork b (K ((), [], ())) (req (fitsN (0 + l.length) 8) (req (decide (0 + (0 + l.length) <= List.length ([] ++ l))) (K ((), seg 0 (0 + l.length) ([] ++ l), ()))))) := by kernel_rfl
end Go.P8
