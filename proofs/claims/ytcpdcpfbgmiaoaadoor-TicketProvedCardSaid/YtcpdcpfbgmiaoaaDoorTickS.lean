/- Tickets: codes: states and what is to be shown, reduced. No conditions. -/
import Derived.Test.YtcpdcpfbgmiaoaaDoorLibD
import Derived.KernelRfl
import Derived.Test.YtcpdcpfbgmiaoaaDoorProg
set_option linter.all false
set_option maxRecDepth 100000
set_option maxHeartbeats 2000000
namespace Go.P3
open Go.Lom Go.Proofs Go
abbrev I : Ty := .i .i64
abbrev L : Ty := .sl I
abbrev B8 : Ty := .i .u8
abbrev LQ := AX -> St -> Prop
@[reducible] def S : List (Nat × SV) -> SV
 | [] => .nil
 | p :: l => .cons (.slot p.1 p.2) (S l)
@[reducible] def A : List SV -> SV
 | [] => .nil
 | p :: l => .cons p (A l)
def ex1 (s : SV) : Ex2 := fun _ => some (s, 0)
def mL {α : Type} (l : List α) (i : Int) : Nat := (l.length - i).toNat
def sFrom (a n b : Int) (K : Bool -> Prop) : Prop := K (decide (a <= n /\ n <= b))
abbrev fcFrom : FC := ⟨[.v I, .v I, .v I], [.b], fun x K => sFrom x.1 x.2.1 x.2.2.1 fun r => K (r, ())⟩
abbrev fcWith : FC := ⟨[.v I, .v I, .v I], [.b], fun x K => sFrom x.2.1 x.1 x.2.2.1 fun r => K (r, ())⟩
theorem v28F (a n b : Int) (K : dens [.b] -> Prop) : (xfn1 Tryd.prog {} 5 28 fcFrom (a, n, b, ()) K) =
 (fork (decide (a <= n)) (K (decide (n <= b), ())) (K (false, ()))) := by kernel_rfl
theorem v49F (n a b : Int) (K : dens [.b] -> Prop) : (xfn1 Tryd.prog {} 5 49 fcWith (n, a, b, ()) K) =
 (fork (decide (n >= a)) (K (decide (n <= b), ())) (K (false, ()))) := by kernel_rfl
def putD : Nat -> Int -> Int -> List Int -> List Int
 | 0, _, _, bs => bs
 | k + 1, n, i, bs => putD k (n.tdiv 10) (i + 1) (bs.set (9 - i).toNat (48 + n.tmod 10))
def restD : Nat -> Int -> Int
 | 0, n => n
 | k + 1, n => restD k (n.tdiv 10)
def fullI (n : Int) : Int := 100 * n + 98 - (100 * n).tmod 97
def codeI (n : Int) : List Int := putD 10 (fullI n) 0 (List.replicate 10 0)
def codeS (n : Int) : List UInt8 := (codeI n).map byteI
abbrev FWa (i : Nat) : SV := S [(4, .box 1 (.own i B8))]
abbrev Wa := (List Int × Unit) × Rng
abbrev sh85A : SV := S [(0, .yf 0 (FWa 5)), (2, .box 4 (.v I)), (5, .v I), (6, .v I)]
abbrev sh85Ae : SV := S [(0, .yf 0 (FWa 5)), (2, .box 4 (.v I))]
abbrev mkA (rg : Rng) (bs : List Int) : Wa := ((bs, ()), rg)
def s85A (w : Wa) (n m i : Int) (Q : LQ) : Prop := (w.2 = rngOf Tryd.prog 50 0 /\ w.1.1.length = 10 /\ m = 10 /\ 0 <= i /\ i <= 10 /\ 0 <= n /\ n <= 9223372036854775807) /\
 Q (.exit 0) (stS 6 sh85Ae (mkA (rngOf Tryd.prog 50 0) (putD (10 - i).toNat n i w.1.1), restD (10 - i).toNat n, ()))
abbrev lc85A : LC2 := ⟨5, sh85A, 6, fun (w, n, m, i, _) Q => s85A w n m i Q⟩
theorem v85A (bs : List Int) (n m i : Int) (Q : AX -> St -> Prop) : (xloop2 Tryd.prog {} 5 85 0 lc85A (fun _ => some (sh85Ae, 6)) (fun (_, _, m, i, _) => (m - i).toNat) (((bs, ()), rngOf Tryd.prog 50 0), n, m, i, ()) Q) =
 (fork (decide (i < m)) (req (inR IntKind.i64 ((9 : Int) - i)) (req (inR IntKind.i64 ((48 : Int) + Int.tmod n (10 : Int))) (req (inR IntKind.u8 ((48 : Int) + Int.tmod n (10 : Int))) (req (decide ((0 : Int) <= (9 : Int) - i
 /\ (9 : Int) - i < (↑(bs.length) : Int))) (req (decide (Int.toNat ((9 : Int) - i) + 0 < bs.length)) (req (inR IntKind.i64 (Int.tdiv n (10 : Int))) (req (inR IntKind.i64 (i + 1)) (req (decide (0 + bs.length <= List.length
 (List.set bs (Int.toNat ((9 : Int) - i) + 0) ((48 : Int) + Int.tmod n (10 : Int))))) (Int.toNat (m - (i + 1)) < Int.toNat (m - i) /\ LC2.spec lc85A (((seg 0 (bs.length) (List.set bs (Int.toNat ((9 : Int) - i) + 0) ((48 :
 Int) + Int.tmod n (10 : Int))), ()), rngOf Go.Proofs.Tryd.prog 50 0), Int.tdiv n (10 : Int), m, i + 1, ()) Q))))))))) (req (decide (0 + bs.length <= bs.length)) (Q (AX.exit 0) (stS 6 sh85Ae (((seg 0 (bs.length) bs, ()),
 rngOf Go.Proofs.Tryd.prog 50 0), n, ()))))) := by kernel_rfl
abbrev pre85A : SV := A [.yf 0 (FWa 2), .box 3 (.v I), .box 4 (.v I)]
abbrev post85A : SV := A [.yf 0 (FWa 5), .any, .any]
abbrev fc85A : FC2 := ⟨pre85A, 5, post85A, 6, fun (w, m, n, _) K => (w.2 = rngOf Tryd.prog 50 0 /\ w.1.1.length = 10 /\ m = 10 /\ 0 <= n /\ n <= 9223372036854775807) /\ K (mkA (rngOf Tryd.prog 50 0) (putD 10 n 0 w.1.1), (), (), ())⟩
theorem v85B (bs : List Int) (m n : Int) (K : post85A.den -> Prop) : (xfn2 Tryd.prog { l2 := [(85, 0, lc85A)] } 5 85 fc85A (((bs, ()), rngOf Tryd.prog 50 0), m, n, ()) K) =
 (req (decide (0 + bs.length <= bs.length)) ((rngOf Go.Proofs.Tryd.prog 50 0 = rngOf Go.Proofs.Tryd.prog 50 0 /\ List.length (seg 0 (bs.length) bs) = 10 /\ m = (10 : Int) /\ (0 : Int) <= (0 : Int) /\ (0 : Int) <= (10 : Int) /\ (0
 : Int) <= n /\ n <= (9223372036854775807 : Int)) /\ req (decide (0 + List.length (((mkA (rngOf Go.Proofs.Tryd.prog 50 0) (putD 10 n (0 : Int) (seg 0 (bs.length) bs))).1).1) <= List.length (((mkA (rngOf Go.Proofs.Tryd.prog 50
 0) (putD 10 n (0 : Int) (seg 0 (bs.length) bs))).1).1))) (K (((seg 0 (List.length (((mkA (rngOf Go.Proofs.Tryd.prog 50 0) (putD 10 n (0 : Int) (seg 0 (bs.length) bs))).1).1)) (((mkA (rngOf Go.Proofs.Tryd.prog 50 0) (putD
 10 n (0 : Int) (seg 0 (bs.length) bs))).1).1), ()), rngOf Go.Proofs.Tryd.prog 50 0), (), (), ())))) := by kernel_rfl
abbrev fcCodeI : FC := ⟨[.v I], [.s], fun x K => (0 <= x.1 /\ x.1 <= 99999999) /\ K (codeS x.1, ())⟩
theorem v50F (n : Int) (K : dens [.s] -> Prop) : (xfn1 Tryd.prog { f2 := [(85, fc85A)] } 5 50 fcCodeI (n, ()) K) =
 (req (inR IntKind.i64 ((100 : Int) * n)) (req (inR IntKind.i64 ((100 : Int) * n + 98)) (req (inR IntKind.i64 ((100 : Int) * n)) (req (inR IntKind.i64 ((100 : Int) * n + 98 - Int.tmod ((100 : Int) * n) (97 : Int))) ((rngOf
 Go.Proofs.Tryd.prog 50 0 = rngOf Go.Proofs.Tryd.prog 50 0 /\ 10 = 10 /\ (10 : Int) = (10 : SV.den (SV.box 3 (SV.v I))) /\ (0 : SV.den (SV.box 4 (SV.v I))) <= (100 : Int) * n + 98 - Int.tmod ((100 : Int) * n) (97 : Int) /\ (100
 : Int) * n + 98 - Int.tmod ((100 : Int) * n) (97 : Int) <= (9223372036854775807 : SV.den (SV.box 4 (SV.v I)))) /\ K (List.map byteI (seg 0 (List.length (((mkA (rngOf Go.Proofs.Tryd.prog 50 0) (putD 10 ((100 : Int) * n + 98
 - Int.tmod ((100 : Int) * n) (97 : Int)) (0 : Int) (seg 0 10 (List.replicate 10 (0 : Int))))).1).1)) (((mkA (rngOf Go.Proofs.Tryd.prog 50 0) (putD 10 ((100 : Int) * n + 98 - Int.tmod ((100 : Int) * n) (97 : Int)) (0 :
 Int) (seg 0 10 (List.replicate 10 (0 : Int))))).1).1)), ())))))) := by kernel_rfl
def cI (s : List UInt8) (i : Int) : Int := ((s.getD i.toNat 0).toNat : Int)
def numK (s : List UInt8) : Nat -> Int -> Int -> Option Int
 | 0, _, n => some n
 | k + 1, i, n => if cI s i < 48 \/ cI s i > 57 then none else numK s k (i + 1) (if i < 8 then 10 * n + (cI s i - 48) else n)
def numberI (s : List UInt8) : Int × Int := if s.length ≠ 10 then (0, 5) else match numK s 10 0 0 with
 | none => (0, 5)
 | some n => if n = 0 \/ codeS n ≠ s then (0, 30) else (n, 0)
abbrev shR2 : SV := S [(2, .v I), (3, .v I)]
abbrev sh16 : SV := S [(0, .v .s), (4, .v I), (10, .v I), (11, .v I)]
abbrev sh16e : SV := S [(0, .v .s), (4, .v I)]
def ex16 : Ex2
 | .ret => some (shR2, 0)
 | _ => some (sh16e, 0)
def s16 (s : List UInt8) (n m i : Int) (Q : LQ) : Prop := (s.length = 10 /\ m = 10 /\ 0 <= i /\ i <= 10 /\ 0 <= n /\ n < 10 ^ (min i 8).toNat) /\
 ((numK s (10 - i).toNat i n = none -> Q .ret (stS 0 shR2 (0, 5, ()))) /\ (∀ r, numK s (10 - i).toNat i n = some r -> 0 <= r -> r <= 99999999 -> Q (.exit 0) (stS 0 sh16e (s, r, ()))))
abbrev lc16 : LC2 := ⟨0, sh16, 0, fun (s, n, m, i, _) Q => s16 s n m i Q⟩
theorem v16L (s : List UInt8) (n m i : Int) (Q : AX -> St -> Prop) : (xloop2 Tryd.prog {} 5 16 0 lc16 ex16 (fun (_, _, m, i, _) => (m - i).toNat) (s, n, m, i, ()) Q) =
 (fork (decide (i < m)) (req (decide ((0 : Int) <= i /\ i < (↑(s.length) : Int))) (fork (decide ((↑(UInt8.toNat (List.getD s (Int.toNat i) (0 : UInt8))) : Int) < (48 : Int))) (Q AX.ret (stS 0 shR2 ((0 : Int), (5 : Int),
 ()))) (req (decide ((0 : Int) <= i /\ i < (↑(s.length) : Int))) (fork (decide ((↑(UInt8.toNat (List.getD s (Int.toNat i) (0 : UInt8))) : Int) > (57 : Int))) (Q AX.ret (stS 0 shR2 ((0 : Int), (5 : Int), ()))) (fork (decide
 (i < (8 : Int))) (req (inR IntKind.i64 ((10 : Int) * n)) (req (decide ((0 : Int) <= i /\ i < (↑(s.length) : Int))) (req (inR IntKind.u8 ((↑(UInt8.toNat (List.getD s (Int.toNat i) (0 : UInt8))) : Int) - 48)) (req (inR
 IntKind.i64 ((↑(UInt8.toNat (List.getD s (Int.toNat i) (0 : UInt8))) : Int) - 48)) (req (inR IntKind.i64 ((10 : Int) * n + ((↑(UInt8.toNat (List.getD s (Int.toNat i) (0 : UInt8))) : Int) - 48))) (req (inR IntKind.i64 (i +
 1)) (Int.toNat (m - (i + 1)) < Int.toNat (m - i) /\ LC2.spec lc16 (s, (10 : Int) * n + ((↑(UInt8.toNat (List.getD s (Int.toNat i) (0 : UInt8))) : Int) - 48), m, i + 1, ()) Q))))))) (req (inR IntKind.i64 (i + 1)) (Int.toNat
 (m - (i + 1)) < Int.toNat (m - i) /\ LC2.spec lc16 (s, n, m, i + 1, ()) Q))))))) (Q (AX.exit 0) (stS 0 sh16e (s, n, ())))) := by kernel_rfl
abbrev fcNumber : FC := ⟨[.v .s], [I, I], fun x K => K ((numberI x.1).1, (numberI x.1).2, ())⟩
theorem v16F (s : List UInt8) (K : dens [I, I] -> Prop) : (xfn1 Tryd.prog { f := [(50, fcCodeI)], l2 := [(16, 0, lc16)] } 5 16 fcNumber (s, ()) K) =
 (fork ((↑(s.length) : Int) != (10 : Int)) (K ((0 : Int), (5 : Int), ())) ((s.length = 10 /\ (↑(s.length) : Int) = (10 : Int) /\ (0 : Int) <= (0 : Int) /\ (0 : Int) <= (10 : Int) /\ (0 : Int) <= (0 : Int) /\ (0 : Int) < (1 : Int))
 /\ (numK s 10 (0 : Int) (0 : Int) = none -> K ((0 : SV.den (SV.slot 2 (SV.v I))), (5 : SV.den (SV.slot 3 (SV.v I))), ())) /\ ∀ (r : Int), numK s 10 (0 : Int) (0 : Int) = Option.some r -> (0 : Int) <= r -> r <= (99999999 : Int) ->
 fork (r == (0 : Int)) (K ((0 : Int), (30 : Int), ())) (((0 : AT.den (AT.v I)) <= r /\ r <= (99999999 : AT.den (AT.v I))) /\ fork (!codeS r == s) (K ((0 : Int), (30 : Int), ())) (K (r, (0 : Int), ()))))) := by kernel_rfl
abbrev fcCode : FC := ⟨[.v I], [.s, I], fun x K => K (if 1 <= x.1 /\ x.1 <= 99999999 then codeS x.1 else [], if 1 <= x.1 /\ x.1 <= 99999999 then 0 else 7, ())⟩
theorem v14F (n : Int) (K : dens [.s, I] -> Prop) : (xfn1 Tryd.prog { f := [(50, fcCodeI), (49, fcWith)] } 5 14 fcCode (n, ()) K) =
 (fork (!decide ((1 : Int) <= n /\ n <= (99999999 : Int))) (K (Array.toList (ByteArray.data { data := #[] }), (7 : Int), ())) (((0 : AT.den (AT.v I)) <= n /\ n <= (99999999 : AT.den (AT.v I))) /\ K (codeS n, (0 : Int), ()))) := by kernel_rfl
end Go.P3
