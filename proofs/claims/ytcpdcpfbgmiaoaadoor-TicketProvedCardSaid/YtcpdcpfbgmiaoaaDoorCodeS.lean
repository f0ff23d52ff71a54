import Derived.Test.YtcpdcpfbgmiaoaaDoorFitS
import Derived.Test.YtcpdcpfbgmiaoaaDoorReadS
set_option linter.all false
/- Tickets: the best half by the reference, and the laws of halves: states and what is to be shown, reduced. No conditions. -/
set_option maxRecDepth 100000
set_option maxHeartbeats 2000000
namespace Go.P3
open Go.Lom Go.Proofs Go
abbrev fcWorks : FC := ⟨[], [.b], fun _ K => K (true, ())⟩
def stepC (e : List Int) (x : Int × Int) (h : List Int) : Int × Int :=
 if (fitE e h).2 = 0 then (if (fitE e h).1 > x.1 then ((fitE e h).1, 1) else if (fitE e h).1 = x.1 then (x.1, x.2 + 1) else x) else x
def runC (e : List Int) (hs : List (List Int)) : Nat -> Int -> Int × Int -> Int × Int
 | 0, _, x => x
 | k + 1, i, x => runC e hs k (i + 1) (stepC e x (hs.getD i.toNat []))
end Go.P3

/- Tickets: codes by the reference: states and what is to be shown, reduced. No conditions. -/
set_option maxRecDepth 100000
set_option maxHeartbeats 2000000
namespace Go.P3
open Go.Lom Go.Proofs Go
def textT : Nat -> Int -> List UInt8
 | 0, _ => []
 | k + 1, n => if n > 9 then textT k (n.tdiv 10) ++ [byteI (48 + n.tmod 10)] else [byteI (48 + n.tmod 10)]
abbrev sh17e : SV := S [(0, .v .s), (4, .v I)]
def ex17 : Ex2
 | .ret => some (shR2, 0)
 | _ => some (sh17e, 0)
def cntK (s : List UInt8) : Nat -> Int -> Int -> Option Int
 | 0, _, c => some c
 | k + 1, i, c => if cI s i = 63 then cntK s k (i + 1) (c + 1) else if cI s i < 48 \/ cI s i > 57 then none else cntK s k (i + 1) c
abbrev sh19a : SV := S [(0, .v .s), (4, .v I), (5, .v I)]
abbrev sh19ae : SV := S [(0, .v .s), (4, .v I)]
def ex19a : Ex2
 | .ret => some (shR3, 0)
 | _ => some (sh19ae, 0)
def s19a (s : List UInt8) (c i : Int) (Q : LQ) : Prop := ((s.length : Int) <= 9223372036854775807 /\ 0 <= i /\ i <= s.length /\ 0 <= c /\ c <= i) /\
 ((cntK s (s.length - i.toNat) i c = none -> Q .ret (stS 0 shR3 ([], 5, ()))) /\ (∀ r, cntK s (s.length - i.toNat) i c = some r -> Q (.exit 0) (stS 0 sh19ae (s, r, ()))))
abbrev lc19a : LC2 := ⟨0, sh19a, 0, fun (s, c, i, _) Q => s19a s c i Q⟩
theorem v19A (s : List UInt8) (c i : Int) (Q : AX -> St -> Prop) : (xloop2 Tryd.prog {} 5 19 0 lc19a ex19a (fun (s, _, i, _) => s.length - i.toNat) (s, c, i, ()) Q) =
 (fork (decide (i < (↑(s.length) : Int))) (req (decide ((0 : Int) <= i /\ i < (↑(s.length) : Int))) (fork ((↑(UInt8.toNat (List.getD s (Int.toNat i) (0 : UInt8))) : Int) == (63 : Int)) (req (inR IntKind.i64 (c + 1)) (req
 (inR IntKind.i64 (i + 1)) (s.length - Int.toNat (i + 1) < s.length - Int.toNat i /\ LC2.spec lc19a (s, c + 1, i + 1, ()) Q))) (req (decide ((0 : Int) <= i /\ i < (↑(s.length) : Int))) (fork (decide ((↑(UInt8.toNat (List.getD
 s (Int.toNat i) (0 : UInt8))) : Int) < (48 : Int))) (Q AX.ret (stS 0 shR3 ([], (5 : Int), ()))) (req (decide ((0 : Int) <= i /\ i < (↑(s.length) : Int))) (fork (decide ((↑(UInt8.toNat (List.getD s (Int.toNat i) (0 :
 UInt8))) : Int) > (57 : Int))) (Q AX.ret (stS 0 shR3 ([], (5 : Int), ()))) (req (inR IntKind.i64 (i + 1)) (s.length - Int.toNat (i + 1) < s.length - Int.toNat i /\ LC2.spec lc19a (s, c, i + 1, ()) Q)))))))) (Q (AX.exit 0)
 (stS 0 sh19ae (s, c, ())))) := by kernel_rfl
def backK : Nat -> Int -> Int -> List Int -> List Int
 | 0, _, _, w => w
 | k + 1, i, n, w => if w.getD i.toNat 0 = 63 then backK k (i - 1) (n.tdiv 10) (w.set i.toNat (48 + n.tmod 10)) else backK k (i - 1) n w
def eqK (a b : List Int) : Nat -> Int -> Bool -> Bool
 | 0, _, r => r
 | k + 1, i, r => if r = true then eqK a b k (i + 1) (a.getD i.toNat 0 == b.getD i.toNat 0) else r
abbrev sh20 : SV := S [(0, .v L), (1, .v L), (5, .v .b), (6, .v I)]
abbrev sh20e : SV := S [(5, .v .b)]
def s20 (a b : List Int) (r : Bool) (i : Int) (Q : LQ) : Prop := (a.length <= 100000 /\ (r = true -> a.length = b.length) /\ 0 <= i /\ i <= a.length) /\ Q (.exit 0) (stS 0 sh20e (eqK a b (a.length - i.toNat) i r, ()))
abbrev lc20 : LC2 := ⟨0, sh20, 0, fun (a, b, r, i, _) Q => s20 a b r i Q⟩
theorem v20L (a b : List Int) (r : Bool) (i : Int) (Q : AX -> St -> Prop) : (xloop2 Tryd.prog {} 5 20 0 lc20 (ex1 sh20e) (fun (a, _, _, i, _) => a.length - i.toNat) (a, b, r, i, ()) Q) =
 (fork r (fork (decide (i < (↑(a.length) : Int))) (req (decide ((0 : Int) <= i /\ i < (↑(a.length) : Int))) (req (decide ((0 : Int) <= i /\ i < (↑(b.length) : Int))) (req (inR IntKind.i64 (i + 1)) (a.length - Int.toNat (i + 1)
 < a.length - Int.toNat i /\ LC2.spec lc20 (a, b, List.getD a (Int.toNat i) (0 : Int) == List.getD b (Int.toNat i) (0 : Int), i + 1, ()) Q)))) (Q (AX.exit 0) (stS 0 sh20e (r, ())))) (Q (AX.exit 0) (stS 0 sh20e (r, ())))) := by kernel_rfl
abbrev fcSame : FC := ⟨[.v L, .v L], [.b], fun x K => (x.1 = x.2.1 /\ x.1.length <= 100000) /\ K (true, ())⟩
theorem v20F (a b : List Int) (K : dens [.b] -> Prop) : (xfn1 Tryd.prog { l2 := [(20, 0, lc20)] } 5 20 fcSame (a, b, ()) K) =
 ((a.length <= 100000 /\ (((↑(a.length) : Int) == (↑(b.length) : Int)) = true -> a.length = b.length) /\ (0 : Int) <= (0 : Int) /\ (0 : Int) <= (↑(a.length) : Int)) /\ K (eqK a b (a.length - 0) (0 : Int) ((↑(a.length) : Int) ==
 (↑(b.length) : Int)), ())) := by kernel_rfl
end Go.P3
