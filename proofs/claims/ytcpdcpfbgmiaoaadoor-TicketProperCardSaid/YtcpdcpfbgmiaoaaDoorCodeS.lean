/- Tickets: codes by the reference: states and what is to be shown, reduced. No conditions. -/
import Derived.Test.YtcpdcpfbgmiaoaaDoorReadS
import Derived.Test.YtcpdcpfbgmiaoaaDoorFit2S
set_option linter.all false
set_option maxRecDepth 100000
set_option maxHeartbeats 2000000
namespace Go.P3
open Go.Lom Go.Proofs Go
def limT : Nat -> Int
 | 0 => 0
 | 1 => 10
 | k + 2 => limT (k + 1) * 10
def textT : Nat -> Int -> List UInt8
 | 0, _ => []
 | k + 1, n => if n > 9 then textT k (n.tdiv 10) ++ [byteI (48 + n.tmod 10)] else [byteI (48 + n.tmod 10)]
abbrev fcT (m : Int) (F : Int -> List UInt8) : FC := ⟨[.v I], [.s], fun x K => (0 <= x.1 /\ x.1 < m) /\ K (F x.1, ())⟩
theorem v99F (m m' : Int) (F F' : Int -> List UInt8) (n : Int) (K : dens [.s] -> Prop) : (xfn1 Tryd.prog { f := [(99, fcT m F)] } 5 99 (fcT m' F') (n, ()) K) =
 (fork (decide (n < (0 : Int))) (req (inR IntKind.i64 (-n)) (((0 : AT.den (AT.v I)) <= -n /\ -n < m) /\ req (Nat.ble (1 + List.length (F (-n))) 9223372036854775807) (K (Array.toList (ByteArray.data { data := #[(45 : UInt8)]
 }) ++ F (-n), ())))) (req (inR IntKind.i64 ((48 : Int) + Int.tmod n (10 : Int))) (req (inR IntKind.u8 ((48 : Int) + Int.tmod n (10 : Int))) (fork (decide (n > (9 : Int))) (req (inR IntKind.i64 (Int.tdiv n (10 : Int)))
 (((0 : AT.den (AT.v I)) <= Int.tdiv n (10 : Int) /\ Int.tdiv n (10 : Int) < m) /\ req (Nat.ble (List.length (F (Int.tdiv n (10 : Int))) + List.length (List.map byteI (seg 0 1 [(48 : Int) + Int.tmod n (10 : Int)])))
 9223372036854775807) (K (F (Int.tdiv n (10 : Int)) ++ List.map byteI (seg 0 1 [(48 : Int) + Int.tmod n (10 : Int)]), ())))) (K (List.map byteI (seg 0 1 [(48 : Int) + Int.tmod n (10 : Int)]), ())))))) := by kernel_rfl
def padT (m : Int) (s : List UInt8) : List UInt8 := List.replicate (m - s.length).toNat 48 ++ s
abbrev sh84 : SV := S [(1, .v I), (5, .v .s)]
abbrev sh84e : SV := S [(5, .v .s)]
def s84 (m : Int) (s : List UInt8) (Q : LQ) : Prop := m <= 10 /\ Q (.exit 0) (stS 0 sh84e (padT m s, ()))
abbrev lc84 : LC2 := ⟨0, sh84, 0, fun (m, s, _) Q => s84 m s Q⟩
theorem v84L (m : Int) (s : List UInt8) (Q : AX -> St -> Prop) : (xloop2 Tryd.prog {} 5 84 0 lc84 (ex1 sh84e) (fun (m, s, _) => (m - s.length).toNat) (m, s, ()) Q) =
 (fork (decide ((↑(s.length) : Int) < m)) (req (Nat.ble (1 + s.length) 9223372036854775807) (Int.toNat (m - (↑(List.length (Array.toList (ByteArray.data { data := #[(48 : UInt8)] }) ++ s)) : SV.den (SV.slot 1 (SV.v I)))) <
 Int.toNat (m - (↑(s.length) : SV.den (SV.slot 1 (SV.v I)))) /\ LC2.spec lc84 (m, Array.toList (ByteArray.data { data := #[(48 : UInt8)] }) ++ s, ()) Q)) (Q (AX.exit 0) (stS 0 sh84e (s, ())))) := by kernel_rfl
abbrev fcPad : FC := ⟨[.v I, .v I], [.s], fun x K => (0 <= x.1 /\ x.1 <= 99999999 /\ x.2.1 <= 10) /\ K (padT x.2.1 (textT 8 x.1), ())⟩
theorem v84F (n m : Int) (K : dens [.s] -> Prop) : (xfn1 Tryd.prog { f := [(99, fcT (limT 8) (textT 8))], l2 := [(84, 0, lc84)] } 5 84 fcPad (n, m, ()) K) =
 (((0 : AT.den (AT.v I)) <= n /\ n < (100000000 : Int)) /\ m <= (10 : Int) /\ K (padT m (textT 8 n), ())) := by kernel_rfl
theorem v51F (n : Int) (K : dens [.s] -> Prop) : (xfn1 Tryd.prog { f := [(84, fcPad)] } 5 51 fcCodeI (n, ()) K) =
 (((0 : AT.den (AT.v I)) <= n /\ n <= (99999999 : AT.den (AT.v I)) /\ (8 : Int) <= (10 : AT.den (AT.v I))) /\ req (inR IntKind.i64 ((100 : Int) * n)) (req (inR IntKind.i64 ((98 : Int) - Int.tmod ((100 : Int) * n) (97 : Int)))
 (((0 : AT.den (AT.v I)) <= (98 : Int) - Int.tmod ((100 : Int) * n) (97 : Int) /\ (98 : Int) - Int.tmod ((100 : Int) * n) (97 : Int) <= (99999999 : AT.den (AT.v I)) /\ (2 : Int) <= (10 : AT.den (AT.v I))) /\ req (Nat.ble
 (List.length (padT (8 : Int) (textT 8 n)) + List.length (padT (2 : Int) (textT 8 ((98 : Int) - Int.tmod ((100 : Int) * n) (97 : Int))))) 9223372036854775807) (K (padT (8 : Int) (textT 8 n) ++ padT (2 : Int) (textT 8 ((98
 : Int) - Int.tmod ((100 : Int) * n) (97 : Int))), ()))))) := by kernel_rfl
abbrev sh17 : SV := S [(0, .v .s), (4, .v I), (5, .v I)]
abbrev sh17e : SV := S [(0, .v .s), (4, .v I)]
def ex17 : Ex2
 | .ret => some (shR2, 0)
 | _ => some (sh17e, 0)
def s17 (s : List UInt8) (n i : Int) (Q : LQ) : Prop := (s.length = 10 /\ 0 <= i /\ i <= 10 /\ 0 <= n /\ n < 10 ^ (min i 8).toNat) /\
 ((numK s (10 - i).toNat i n = none -> Q .ret (stS 0 shR2 (0, 5, ()))) /\ (∀ r, numK s (10 - i).toNat i n = some r -> 0 <= r -> r <= 99999999 -> Q (.exit 0) (stS 0 sh17e (s, r, ()))))
abbrev lc17 : LC2 := ⟨0, sh17, 0, fun (s, n, i, _) Q => s17 s n i Q⟩
theorem v17L (s : List UInt8) (n i : Int) (Q : AX -> St -> Prop) : (xloop2 Tryd.prog { f := [(28, fcFrom)] } 5 17 0 lc17 ex17 (fun (_, _, i, _) => (10 - i).toNat) (s, n, i, ()) Q) =
 (fork (decide (i < (10 : Int))) (req (decide ((0 : Int) <= i /\ i < (↑(s.length) : Int))) (req (inR IntKind.i64 (↑(UInt8.toNat (List.getD s (Int.toNat i) (0 : UInt8))) : Int)) (req (inR IntKind.i64 ((↑(UInt8.toNat
 (List.getD s (Int.toNat i) (0 : UInt8))) : Int) - 48)) (fork (!decide ((0 : Int) <= (↑(UInt8.toNat (List.getD s (Int.toNat i) (0 : UInt8))) : Int) - 48 /\ (↑(UInt8.toNat (List.getD s (Int.toNat i) (0 : UInt8))) : Int) - 48
 <= (9 : Int))) (Q AX.ret (stS 0 shR2 ((0 : Int), (5 : Int), ()))) (fork (decide (i < (8 : Int))) (req (inR IntKind.i64 ((10 : Int) * n)) (req (inR IntKind.i64 ((10 : Int) * n + ((↑(UInt8.toNat (List.getD s (Int.toNat i) (0
 : UInt8))) : Int) - 48))) (req (inR IntKind.i64 (i + 1)) (Int.toNat ((10 : SV.den (SV.slot 5 (SV.v I))) - (i + 1)) < Int.toNat ((10 : SV.den (SV.slot 5 (SV.v I))) - i) /\ LC2.spec lc17 (s, (10 : Int) * n + ((↑(UInt8.toNat
 (List.getD s (Int.toNat i) (0 : UInt8))) : Int) - 48), i + 1, ()) Q)))) (req (inR IntKind.i64 (i + 1)) (Int.toNat ((10 : SV.den (SV.slot 5 (SV.v I))) - (i + 1)) < Int.toNat ((10 : SV.den (SV.slot 5 (SV.v I))) - i) /\
 LC2.spec lc17 (s, n, i + 1, ()) Q))))))) (Q (AX.exit 0) (stS 0 sh17e (s, n, ())))) := by kernel_rfl
theorem v17F (s : List UInt8) (K : dens [I, I] -> Prop) : (xfn1 Tryd.prog { f := [(51, fcCodeI)], l2 := [(17, 0, lc17)] } 5 17 fcNumber (s, ()) K) =
 (fork ((↑(s.length) : Int) != (10 : Int)) (K ((0 : Int), (5 : Int), ())) ((s.length = 10 /\ (0 : Int) <= (0 : Int) /\ (0 : Int) <= (10 : Int) /\ (0 : Int) <= (0 : Int) /\ (0 : Int) < (1 : Int)) /\ (numK s 10 (0 : Int) (0 : Int) =
 none -> K ((0 : SV.den (SV.slot 2 (SV.v I))), (5 : SV.den (SV.slot 3 (SV.v I))), ())) /\ ∀ (r : Int), numK s 10 (0 : Int) (0 : Int) = Option.some r -> (0 : Int) <= r -> r <= (99999999 : Int) -> fork (decide (r < (1 : Int))) (K
 ((0 : Int), (30 : Int), ())) (((0 : AT.den (AT.v I)) <= r /\ r <= (99999999 : AT.den (AT.v I))) /\ fork (!codeS r == s) (K ((0 : Int), (30 : Int), ())) (K (r, (0 : Int), ()))))) := by kernel_rfl
def cntK (s : List UInt8) : Nat -> Int -> Int -> Option Int
 | 0, _, c => some c
 | k + 1, i, c => if cI s i = 63 then cntK s k (i + 1) (c + 1) else if cI s i < 48 \/ cI s i > 57 then none else cntK s k (i + 1) c
abbrev sh19a : SV := S [(0, .v .s), (4, .v I), (5, .v I)]
abbrev sh19ae : SV := S [(0, .v .s), (4, .v I)]
def ex19a : Ex2
 | .ret => some (shR3, 0)
 | _ => some (sh19ae, 0)
def s19a (s : List UInt8) (c i : Int) (Q : LQ) : Prop := ((s.length : Int) <= 9223372036854775807 /\ 0 <= i /\ i <= s.length /\ 0 <= c /\ c <= i) /\
 ((cntK s (s.length - i.toNat) i c = none -> Q .ret (stS 0 shR3 ([], 5, ()))) /\ (∀ r, cntK s (s.length - i.toNat) i c = some r -> Q (.exit 0) (stS 0 sh19ae (s, r, ()))))
abbrev lc19a : LC2 := ⟨0, sh19a, 0, fun (s, c, i, _) Q => s19a s c i Q⟩
theorem v19A (s : List UInt8) (c i : Int) (Q : AX -> St -> Prop) : (xloop2 Tryd.prog {} 5 19 0 lc19a ex19a (fun (s, _, i, _) => s.length - i.toNat) (s, c, i, ()) Q) =
 (fork (decide (i < (↑(s.length) : Int))) (req (decide ((0 : Int) <= i /\ i < (↑(s.length) : Int))) (fork ((↑(UInt8.toNat (List.getD s (Int.toNat i) (0 : UInt8))) : Int) == (63 : Int)) (req (inR IntKind.i64 (c + 1)) (req
 (inR IntKind.i64 (i + 1)) (s.length - Int.toNat (i + 1) < s.length - Int.toNat i /\ LC2.spec lc19a (s, c + 1, i + 1, ()) Q))) (req (decide ((0 : Int) <= i /\ i < (↑(s.length) : Int))) (fork (decide ((↑(UInt8.toNat (List.getD
 s (Int.toNat i) (0 : UInt8))) : Int) < (48 : Int))) (Q AX.ret (stS 0 shR3 ([], (5 : Int), ()))) (req (decide ((0 : Int) <= i /\ i < (↑(s.length) : Int))) (fork (decide ((↑(UInt8.toNat (List.getD s (Int.toNat i) (0 :
 UInt8))) : Int) > (57 : Int))) (Q AX.ret (stS 0 shR3 ([], (5 : Int), ()))) (req (inR IntKind.i64 (i + 1)) (s.length - Int.toNat (i + 1) < s.length - Int.toNat i /\ LC2.spec lc19a (s, c, i + 1, ()) Q)))))))) (Q (AX.exit 0)
 (stS 0 sh19ae (s, c, ())))) := by kernel_rfl
def backK : Nat -> Int -> Int -> List Int -> List Int
 | 0, _, _, w => w
 | k + 1, i, n, w => if w.getD i.toNat 0 = 63 then backK k (i - 1) (n.tdiv 10) (w.set i.toNat (48 + n.tmod 10)) else backK k (i - 1) n w
def eqK (a b : List Int) : Nat -> Int -> Bool -> Bool
 | 0, _, r => r
 | k + 1, i, r => if r = true then eqK a b k (i + 1) (a.getD i.toNat 0 == b.getD i.toNat 0) else r
abbrev sh20 : SV := S [(0, .v L), (1, .v L), (5, .v .b), (6, .v I)]
abbrev sh20e : SV := S [(5, .v .b)]
def s20 (a b : List Int) (r : Bool) (i : Int) (Q : LQ) : Prop := (a.length <= 100000 /\ (r = true -> a.length = b.length) /\ 0 <= i /\ i <= a.length) /\ Q (.exit 0) (stS 0 sh20e (eqK a b (a.length - i.toNat) i r, ()))
abbrev lc20 : LC2 := ⟨0, sh20, 0, fun (a, b, r, i, _) Q => s20 a b r i Q⟩
theorem v20L (a b : List Int) (r : Bool) (i : Int) (Q : AX -> St -> Prop) : (xloop2 Tryd.prog {} 5 20 0 lc20 (ex1 sh20e) (fun (a, _, _, i, _) => a.length - i.toNat) (a, b, r, i, ()) Q) =
 (fork r (fork (decide (i < (↑(a.length) : Int))) (req (decide ((0 : Int) <= i /\ i < (↑(a.length) : Int))) (req (decide ((0 : Int) <= i /\ i < (↑(b.length) : Int))) (req (inR IntKind.i64 (i + 1)) (a.length - Int.toNat (i + 1)
 < a.length - Int.toNat i /\ LC2.spec lc20 (a, b, List.getD a (Int.toNat i) (0 : Int) == List.getD b (Int.toNat i) (0 : Int), i + 1, ()) Q)))) (Q (AX.exit 0) (stS 0 sh20e (r, ())))) (Q (AX.exit 0) (stS 0 sh20e (r, ())))) := by kernel_rfl
abbrev fcSame : FC := ⟨[.v L, .v L], [.b], fun x K => (x.1 = x.2.1 /\ x.1.length <= 100000) /\ K (true, ())⟩
theorem v20F (a b : List Int) (K : dens [.b] -> Prop) : (xfn1 Tryd.prog { l2 := [(20, 0, lc20)] } 5 20 fcSame (a, b, ()) K) =
 ((a.length <= 100000 /\ (((↑(a.length) : Int) == (↑(b.length) : Int)) = true -> a.length = b.length) /\ (0 : Int) <= (0 : Int) /\ (0 : Int) <= (↑(a.length) : Int)) /\ K (eqK a b (a.length - 0) (0 : Int) ((↑(a.length) : Int) ==
 (↑(b.length) : Int)), ())) := by kernel_rfl
end Go.P3
