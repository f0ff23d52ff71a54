/- Audits: what is missed, and the worst loss: states and what is to be shown, reduced. No conditions. -/
import Derived.Test.YtfbbpilflbpifaaTurnP
set_option linter.unusedSimpArgs false
set_option linter.unusedVariables false
set_option linter.constructorNameAsVariable false
set_option maxRecDepth 100000
set_option maxHeartbeats 2000000
namespace Go.P10
open Go.Lom Go.Proofs Go
abbrev TA : Ty := .pr L (.pr L (.pr I I))
abbrev TRI : Ty := .ar 81 I
abbrev TS : Ty := .pr TA TRI
abbrev Au : Type := List Int × List Int × Int × Int
def triC : List Int := [1, 0, 0, 0, 0, 0, 0, 0, 0, 1, 1, 0, 0, 0, 0, 0, 0, 0, 1, 2, 1, 0, 0, 0, 0, 0, 0, 1, 3, 3, 1, 0, 0, 0, 0, 0, 1, 4, 6, 4, 1, 0, 0, 0, 0, 1, 5, 10, 10, 5, 1, 0, 0, 0, 1, 6, 15, 20, 15, 6, 1, 0, 0, 1, 7, 21, 35, 35, 21, 7, 1, 0, 1, 8, 28, 56, 70, 56, 28, 8, 1]
def chs (n k : Int) : Int := triC.getD (9 * n + k).toNat 0
def prodM : List Int → List Int → List Int → Int
  | n :: st, s :: sa, x :: lo => chs (n - x) s * prodM st sa lo
  | _, _, _ => 1
def allM : List Int → List Int → Int
  | n :: st, s :: sa => chs n s * allM st sa
  | _, _ => 1
def eachB : List Int → List Int → Bool
  | [], [] => true
  | n :: st, x :: l => decide (0 ≤ x ∧ x ≤ n) && eachB st l
  | _, _ => false
def okSt (st : List Int) : Prop := (1 ≤ st.length ∧ st.length ≤ 4) ∧ ∀ n ∈ st, 1 ≤ n ∧ n ≤ 8
abbrev sh65 : SV := S [(1, .v L), (2, .v L), (3, .box 0 (.v TS)), (6, .v I), (7, .v I), (12, .v L), (13, .v I), (14, .v I)]
abbrev sh65e : SV := S [(6, .v I), (7, .v I)]
abbrev lc65 : LC2 := ⟨0, sh65, 1, fun (sa, lo, s, x, y, l, m, i, _) Q => (okSt l ∧ eachB l sa = true ∧ eachB l lo = true ∧ s.1.1 = l ∧ s.2 = triC ∧ m = l.length ∧ (0 ≤ i ∧ i ≤ l.length) ∧ (0 ≤ x ∧ x ≤ 70 ^ i.toNat) ∧ (0 ≤ y ∧ y ≤ 70 ^ i.toNat)) ∧
  ∀ p q, p = x * prodM (l.drop i.toNat) (sa.drop i.toNat) (lo.drop i.toNat) → q = y * allM (l.drop i.toNat) (sa.drop i.toNat) → Q (.exit 0) (stS 0 sh65e (p, q, ()))⟩
theorem v65L (sa lo : List Int) (a : Au) (x y : Int) (l : List Int) (m i : Int) (Q : AX → St → Prop) : (xloop2 Try.prog { nm := true } 5 65 0 lc65 (fun _ => some (sh65e, 0)) (fun (_, _, _, _, _, l, _, i, _) => mL l i) (sa, lo, (a, triC), x, y, l, m, i, ()) Q) =
  (fork (decide (i < m)) (req (decide ((0 : Int) ≤ i ∧ i < (↑(l.length) : Int))) (req (decide ((0 : Int) ≤ i ∧ i < (↑(lo.length) : Int))) (req (inR IntKind.i64 (List.getD l (Int.toNat i) (0 : Int) - List.getD lo (Int.toNat
 i) (0 : Int))) (req (decide ((0 : Int) ≤ i ∧ i < (↑(sa.length) : Int))) (req (decide ((0 : Int) ≤ List.getD l (Int.toNat i) (0 : Int) - List.getD lo (Int.toNat i) (0 : Int) ∧ List.getD l (Int.toNat i) (0 : Int) -
 List.getD lo (Int.toNat i) (0 : Int) < (9 : Int))) (req (decide ((0 : Int) ≤ List.getD sa (Int.toNat i) (0 : Int) ∧ List.getD sa (Int.toNat i) (0 : Int) < (9 : Int))) (req (selOk IntKind.i64 (Ty.enc TS (a, triC)) (addN (4
 + Int.toNat (List.getD l (Int.toNat i) (0 : Int) - List.getD lo (Int.toNat i) (0 : Int)) * 9) (Int.toNat (List.getD sa (Int.toNat i) (0 : Int))))) (req (inR IntKind.i64 (x * selI (Ty.enc TS (a, triC)) (addN (4 + Int.toNat
 (List.getD l (Int.toNat i) (0 : Int) - List.getD lo (Int.toNat i) (0 : Int)) * 9) (Int.toNat (List.getD sa (Int.toNat i) (0 : Int)))))) (req (decide ((0 : Int) ≤ i ∧ i < (↑(sa.length) : Int))) (req (decide ((0 : Int) ≤
 List.getD l (Int.toNat i) (0 : Int) ∧ List.getD l (Int.toNat i) (0 : Int) < (9 : Int))) (req (decide ((0 : Int) ≤ List.getD sa (Int.toNat i) (0 : Int) ∧ List.getD sa (Int.toNat i) (0 : Int) < (9 : Int))) (req (selOk
 IntKind.i64 (Ty.enc TS (a, triC)) (addN (4 + Int.toNat (List.getD l (Int.toNat i) (0 : Int)) * 9) (Int.toNat (List.getD sa (Int.toNat i) (0 : Int))))) (req (inR IntKind.i64 (y * selI (Ty.enc TS (a, triC)) (addN (4 +
 Int.toNat (List.getD l (Int.toNat i) (0 : Int)) * 9) (Int.toNat (List.getD sa (Int.toNat i) (0 : Int)))))) (req (inR IntKind.i64 (i + 1)) (mL l (i + 1) < mL l i ∧ LC2.spec lc65 (sa, lo, (a, triC), x * selI (Ty.enc TS (a,
 triC)) (addN (4 + Int.toNat (List.getD l (Int.toNat i) (0 : Int) - List.getD lo (Int.toNat i) (0 : Int)) * 9) (Int.toNat (List.getD sa (Int.toNat i) (0 : Int)))), y * selI (Ty.enc TS (a, triC)) (addN (4 + Int.toNat
 (List.getD l (Int.toNat i) (0 : Int)) * 9) (Int.toNat (List.getD sa (Int.toNat i) (0 : Int)))), l, m, i + 1, ()) Q))))))))))))))) (Q (AX.exit 0) (stS 0 sh65e (x, y, ())))) := by kernel_rfl
abbrev fc65 : FC := ⟨[.v TS, .v L, .v L], [I, I], fun x K => (okSt x.1.1.1 ∧ eachB x.1.1.1 x.2.1 = true ∧ eachB x.1.1.1 x.2.2.1 = true ∧ x.1.2 = triC) ∧ ∀ p q, p = prodM x.1.1.1 x.2.1 x.2.2.1 → q = allM x.1.1.1 x.2.1 → K (p, q, ())⟩
theorem v65F (a : Au) (sa lo : List Int) (K : dens [I, I] → Prop) : (xfn1 Try.prog { nm := true, l2 := [(65, 0, lc65)] } 5 65 fc65 ((a, triC), sa, lo, ()) K) =
  ((okSt (a.1) ∧ eachB (a.1) sa = true ∧ eachB (a.1) lo = true ∧ a.1 = a.1 ∧ triC = triC ∧ (↑(List.length (a.1)) : Int) = (↑(List.length (a.1)) : SV.den (SV.slot 13 (SV.v I))) ∧ ((0 : SV.den (SV.slot 14 (SV.v I))) ≤ (0 :
 Int) ∧ (0 : Int) ≤ (↑(List.length (a.1)) : SV.den (SV.slot 14 (SV.v I)))) ∧ ((0 : SV.den (SV.slot 6 (SV.v I))) ≤ (1 : Int) ∧ (1 : Int) ≤ (70 : SV.den (SV.slot 6 (SV.v I))) ^ 0) ∧ (0 : SV.den (SV.slot 7 (SV.v I))) ≤ (1 :
 Int) ∧ (1 : Int) ≤ (70 : SV.den (SV.slot 7 (SV.v I))) ^ 0) ∧ ∀ (p : SV.den (SV.slot ((6, SV.v I).1) ((6, SV.v I).2))) (q : SV.den (SV.slot ((7, SV.v I).1) ((7, SV.v I).2))), p = (1 : Int) * prodM (List.drop 0 (a.1))
 (List.drop 0 sa) (List.drop 0 lo) → q = (1 : Int) * allM (List.drop 0 (a.1)) (List.drop 0 sa) → K (p, q, ())) := by kernel_rfl
abbrev fc58 : FC2 := ⟨A [.v L], 0, A [.any, .own 0 I], 1, fun (l, _) K => l.length ≤ 1000 ∧ ∀ r : List Int, r = l → K ((), r, ())⟩
theorem v58F (l : List Int) (K : fc58.post.den → Prop) : (xfn2 Try.prog {} 5 58 fc58 (l, ()) K) =
  (∀ (b : Bool), (b = true → l.length = 0) → fork b (K ((), [], ())) (req (fitsN (0 + l.length) 8) (req (decide (0 + (0 + l.length) ≤ List.length ([] ++ l))) (K ((), seg 0 (0 + l.length) ([] ++ l), ()))))) := by kernel_rfl
def gW : List Int → List Int → Int → List (List Int)
  | [], l, left => if left > 0 then [] else [l]
  | n :: st, l, left => (List.range ((min n left).toNat + 1)).flatMap fun k : Nat => gW st (l ++ [(k : Int)]) (left - k)
def gWs (n : Int) (st l : List Int) (left : Int) (i : Int) : List (List Int) := (List.range' i.toNat ((min n left).toNat + 1 - i.toNat)).flatMap fun k : Nat => gW st (l ++ [(k : Int)]) (left - k)
abbrev W3 : Type := List Int × Int × Int
def updW (st sa : List Int) (x : W3) (l : List Int) : W3 := if prodM st sa l > x.2.1 then (l, prodM st sa l, allM st sa) else x
def runW (st sa : List Int) (x : W3) (ls : List (List Int)) : W3 := ls.foldl (updW st sa) x
abbrev FWs : SV := S [(2, .box 3 (.v TS)), (3, .box 4 (.v L)), (4, .box 5 (.v L)), (5, .box 6 (.v I)), (6, .box 7 (.v I))]
abbrev cl94 : SV := .fn 94 .nil (A [.ref 0, .ref 1, .ref 8, .ref 9])
abbrev sh94 : SV := S [(0, .pre 10 I), (1, .v I), (2, .box 0 (.v TS)), (3, .box 1 (.yf 2 FWs)), (4, .box 8 (.v I)), (5, .box 9 cl94), (38, .v I), (39, .v I)]
abbrev sh94e : SV := S [(0, .pre 10 I), (2, .box 0 (.v TS)), (3, .box 1 (.yf 2 FWs)), (4, .box 8 (.v I)), (5, .box 9 cl94)]
def okP (st : List Int) (zs : List Int) (n : Nat) : Prop := n ≤ zs.length ∧ n ≤ st.length ∧ eachB (st.take n) (zs.take n) = true
abbrev lc94 (c : Nat) : LC2 := ⟨11, sh94, 11, fun (z, left, s, w, sum, u, m, i, _) Q => (okSt s.1.1 ∧ s.2 = triC ∧ w.1.1 = s ∧ w.2 = (rngOf Try.prog 67 0) ∧ eachB s.1.1 w.1.2.1 = true ∧ okP s.1.1 z.1 z.2 ∧ z.2 < s.1.1.length ∧ s.1.1.length - z.2 ≤ c ∧ (0 ≤ left ∧ left ≤ 1000) ∧ 0 ≤ sum ∧ m = min (s.1.1.getD z.2 0) left + 1 ∧ (0 ≤ i ∧ i ≤ m)) ∧
  ∀ (z' b1 : List Int) (m1 a1 : Int), z'.take z.2 = z.1.take z.2 → z.2 ≤ z'.length → (b1, m1, a1) = runW s.1.1 w.1.2.1 (w.1.2.2.1, w.1.2.2.2.1, w.1.2.2.2.2.1) (gWs (s.1.1.getD z.2 0) (s.1.1.drop (z.2 + 1)) (z.1.take z.2) left i) → Q (.exit 0) (stS 11 sh94e ((z', z.2), s, ((s, w.1.2.1, b1, m1, a1, ()), (rngOf Try.prog 67 0)), sum, u, ()))⟩
abbrev pre94 : SV := A [.pre 10 I, .v I, .box 0 (.v TS), .box 1 (.yf 2 FWs), .box 8 (.v I), .box 9 cl94]
abbrev post94 : SV := A [.pre 10 I, .any, .box 0 (.v TS), .box 1 (.yf 2 FWs), .box 8 (.v I), .box 9 cl94, .v .b]
abbrev fc94 (c : Nat) : FC2 := ⟨pre94, 11, post94, 11, fun (z, left, s, w, sum, u, _) K => (okSt s.1.1 ∧ s.2 = triC ∧ w.1.1 = s ∧ w.2 = (rngOf Try.prog 67 0) ∧ eachB s.1.1 w.1.2.1 = true ∧ okP s.1.1 z.1 z.2 ∧ s.1.1.length - z.2 < c ∧ (0 ≤ left ∧ left ≤ 1000) ∧ 0 ≤ sum) ∧
  ∀ (z' b1 : List Int) (m1 a1 : Int), z'.take z.2 = z.1.take z.2 → z.2 ≤ z'.length → (b1, m1, a1) = runW s.1.1 w.1.2.1 (w.1.2.2.1, w.1.2.2.2.1, w.1.2.2.2.2.1) (gW (s.1.1.drop z.2) (z.1.take z.2) left) → K ((z', z.2), (), s, ((s, w.1.2.1, b1, m1, a1, ()), (rngOf Try.prog 67 0)), sum, u, true, ())⟩
theorem v94L (c : Nat) (z : List Int) (n : Nat) (left : Int) (a : Au) (sa b : List Int) (mo al sum m i : Int) (Q : AX → St → Prop) : (xloop2 Try.prog { nm := true, ip := true, f2 := [(94, fc94 c)] } 5 94 0 (lc94 c) (fun _ => some (sh94e, 11)) (fun (_, _, _, _, _, _, m, i, _) => (m - i).toNat) ((z, n), left, (a, triC), (((a, triC), sa, b, mo, al, ()), (rngOf Try.prog 67 0)), sum, ((), (), (), (), (), ()), m, i, ()) Q) =
  (fork (decide (i < m)) (req (inR IntKind.i64 (left - i)) (AV.fn (Go.Fn.func 94) [] [AV.ptr 0 0 0, AV.ptr 1 0 0, AV.ptr 8 0 0, AV.ptr 9 0 0] = AV.fn (Go.Fn.func 94) [] [AV.ptr 0 0 0, AV.ptr 1 0 0, AV.ptr 8 0 0, AV.ptr 9 0
 0] ∧ req (decide (0 + n ≤ z.length)) (req (fitsN (n + 1) 8) ((∀ (ys : List (Ty.den (Ty.i IntKind.i64))), ys = List.take (0 + n) z ++ [i] ++ List.drop (0 + n + 1) z → AV.fn (Go.Fn.func 94) [] [AV.ptr 0 0 0, AV.ptr 1 0 0,
 AV.ptr 8 0 0, AV.ptr 9 0 0] = AV.fn (Go.Fn.func 94) [] [AV.ptr 0 0 0, AV.ptr 1 0 0, AV.ptr 8 0 0, AV.ptr 9 0 0] ∧ req (Nat.ble (n + 1) (ys.length)) ((okSt (a.1) ∧ triC = triC ∧ (a, triC) = (a, triC) ∧ rngOf
 Go.Proofs.Try.prog 67 0 = rngOf Go.Proofs.Try.prog 67 0 ∧ eachB (a.1) sa = true ∧ okP (a.1) ys (n + 1) ∧ List.length (a.1) - (n + 1) < c ∧ ((0 : SV.den (SV.v I)) ≤ left - i ∧ left - i ≤ (1000 : SV.den (SV.v I))) ∧ (0 :
 SV.den (SV.box 8 (SV.v I))) ≤ sum) ∧ ∀ (z' b1 : List Int) (m1 a1 : Int), List.take (n + 1) z' = List.take (n + 1) ys → n + 1 ≤ z'.length → (b1, m1, a1) = runW (a.1) sa (b, mo, al) (gW (List.drop (n + 1) (a.1)) (List.take
 (n + 1) ys) (left - i)) → req (inR IntKind.i64 (i + 1)) (req (Nat.ble n (z'.length)) (Int.toNat (m - (i + 1)) < Int.toNat (m - i) ∧ LC2.spec (lc94 c) ((z', n), left, (a, triC), (((a, triC), sa, b1, m1, a1, ()), rngOf
 Go.Proofs.Try.prog 67 0), sum, ((), (), (), (), (), ()), m, i + 1, ()) Q)))) ∧ ∀ (ys : List (Ty.den (Ty.i IntKind.i64))), ys = seg 0 n z ++ [i] → AV.fn (Go.Fn.func 94) [] [AV.ptr 0 0 0, AV.ptr 1 0 0, AV.ptr 8 0 0, AV.ptr
 9 0 0] = AV.fn (Go.Fn.func 94) [] [AV.ptr 0 0 0, AV.ptr 1 0 0, AV.ptr 8 0 0, AV.ptr 9 0 0] ∧ req (Nat.ble (n + 1) (ys.length)) ((okSt (a.1) ∧ triC = triC ∧ (a, triC) = (a, triC) ∧ rngOf Go.Proofs.Try.prog 67 0 = rngOf
 Go.Proofs.Try.prog 67 0 ∧ eachB (a.1) sa = true ∧ okP (a.1) ys (n + 1) ∧ List.length (a.1) - (n + 1) < c ∧ ((0 : SV.den (SV.v I)) ≤ left - i ∧ left - i ≤ (1000 : SV.den (SV.v I))) ∧ (0 : SV.den (SV.box 8 (SV.v I))) ≤ sum)
 ∧ ∀ (z' b1 : List Int) (m1 a1 : Int), List.take (n + 1) z' = List.take (n + 1) ys → n + 1 ≤ z'.length → (b1, m1, a1) = runW (a.1) sa (b, mo, al) (gW (List.drop (n + 1) (a.1)) (List.take (n + 1) ys) (left - i)) → req (inR
 IntKind.i64 (i + 1)) (req (Nat.ble n (z.length)) (Int.toNat (m - (i + 1)) < Int.toNat (m - i) ∧ LC2.spec (lc94 c) ((z, n), left, (a, triC), (((a, triC), sa, b1, m1, a1, ()), rngOf Go.Proofs.Try.prog 67 0), sum, ((), (),
 (), (), (), ()), m, i + 1, ()) Q))))))) (req (Nat.ble n (z.length)) (Q (AX.exit 0) (stS 11 sh94e ((z, n), (a, triC), (((a, triC), sa, b, mo, al, ()), rngOf Go.Proofs.Try.prog 67 0), sum, ((), (), (), (), (), ()), ()))))) := by kernel_rfl
theorem v94F (c : Nat) (z : List Int) (n : Nat) (left : Int) (a : Au) (sa b : List Int) (mo al sum : Int) (K : post94.den → Prop) : (xfn2 Try.prog { nm := true, ip := true, f := [(65, fc65)], f2 := [(58, fc58)], l2 := [(94, 0, lc94 c)] } 5 94 (fc94 (c + 1)) ((z, n), left, (a, triC), (((a, triC), sa, b, mo, al, ()), (rngOf Try.prog 67 0)), sum, ((), (), (), (), (), ()), ()) K) =
  (fork ((↑n : Int) == (↑(List.length (a.1)) : Int)) (fork (decide (left > (0 : Int))) (req (Nat.ble n (z.length)) (K ((z, n), (), (a, triC), (((a, triC), sa, b, mo, al, ()), rngOf Go.Proofs.Try.prog 67 0), sum, ((), (),
 (), (), (), ()), true, ()))) (req (decide (0 + n ≤ z.length)) ((okSt (a.1) ∧ eachB (a.1) sa = true ∧ eachB (a.1) (seg 0 n z) = true ∧ triC = triC) ∧ ∀ (p q : Int), p = prodM (a.1) sa (seg 0 n z) → q = allM (a.1) sa → fork
 (decide (p > mo)) (req (decide (0 + n ≤ z.length)) (List.length (seg 0 n z) ≤ 1000 ∧ ∀ (r : List Int), r = seg 0 n z → req (Nat.ble n (z.length)) (req (decide (0 + r.length ≤ r.length)) (K ((z, n), (), (a, triC), (((a,
 triC), sa, seg 0 (r.length) r, p, q, ()), rngOf Go.Proofs.Try.prog 67 0), sum, ((), (), (), (), (), ()), true, ()))))) (req (Nat.ble n (z.length)) (K ((z, n), (), (a, triC), (((a, triC), sa, b, mo, al, ()), rngOf
 Go.Proofs.Try.prog 67 0), sum, ((), (), (), (), (), ()), true, ())))))) (req (decide ((0 : Int) ≤ (↑n : Int) ∧ (↑n : Int) < (↑(List.length (a.1)) : Int))) (fork (decide (sum ≥ (0 : Int))) (req (inR IntKind.i64 ((if left <
 List.getD (a.1) n (0 : Int) then left else List.getD (a.1) n (0 : Int)) + 1)) (req (Nat.ble n (z.length)) ((okSt (a.1) ∧ triC = triC ∧ (a, triC) = (a, triC) ∧ rngOf Go.Proofs.Try.prog 67 0 = rngOf Go.Proofs.Try.prog 67 0
 ∧ eachB (a.1) sa = true ∧ okP (a.1) z n ∧ n < List.length (a.1) ∧ List.length (a.1) - n ≤ c ∧ ((0 : SV.den (SV.slot 1 (SV.v I))) ≤ left ∧ left ≤ (1000 : SV.den (SV.slot 1 (SV.v I)))) ∧ (0 : SV.den (SV.slot 4 (SV.box 8
 (SV.v I)))) ≤ sum ∧ (if left < List.getD (a.1) n (0 : Int) then left else List.getD (a.1) n (0 : Int)) + 1 = Min.min (List.getD (a.1) n (0 : Ty.den I)) left + (1 : SV.den (SV.slot 38 (SV.v I))) ∧ (0 : SV.den (SV.slot 39
 (SV.v I))) ≤ (0 : Int) ∧ (0 : Int) ≤ (if left < List.getD (a.1) n (0 : Int) then left else List.getD (a.1) n (0 : Int)) + 1) ∧ ∀ (z' b1 : List Int) (m1 a1 : Int), List.take n z' = List.take n z → n ≤ z'.length → (b1, m1,
 a1) = runW (a.1) sa (b, mo, al) (gWs (List.getD (a.1) n (0 : Ty.den I)) (List.drop (n + 1) (a.1)) (List.take n z) left (0 : Int)) → req (Nat.ble n (z'.length)) (K ((z', n), (), (a, triC), (((a, triC), sa, b1, m1, a1, ()),
 rngOf Go.Proofs.Try.prog 67 0), sum, ((), (), (), (), (), ()), true, ()))))) (req (inR IntKind.i64 (List.getD (a.1) n (0 : Int) + 1)) (req (Nat.ble n (z.length)) ((okSt (a.1) ∧ triC = triC ∧ (a, triC) = (a, triC) ∧ rngOf
 Go.Proofs.Try.prog 67 0 = rngOf Go.Proofs.Try.prog 67 0 ∧ eachB (a.1) sa = true ∧ okP (a.1) z n ∧ n < List.length (a.1) ∧ List.length (a.1) - n ≤ c ∧ ((0 : SV.den (SV.slot 1 (SV.v I))) ≤ left ∧ left ≤ (1000 : SV.den
 (SV.slot 1 (SV.v I)))) ∧ (0 : SV.den (SV.slot 4 (SV.box 8 (SV.v I)))) ≤ sum ∧ List.getD (a.1) n (0 : Int) + 1 = Min.min (List.getD (a.1) n (0 : Ty.den I)) left + (1 : SV.den (SV.slot 38 (SV.v I))) ∧ (0 : SV.den (SV.slot
 39 (SV.v I))) ≤ (0 : Int) ∧ (0 : Int) ≤ List.getD (a.1) n (0 : Int) + 1) ∧ ∀ (z' b1 : List Int) (m1 a1 : Int), List.take n z' = List.take n z → n ≤ z'.length → (b1, m1, a1) = runW (a.1) sa (b, mo, al) (gWs (List.getD
 (a.1) n (0 : Ty.den I)) (List.drop (n + 1) (a.1)) (List.take n z) left (0 : Int)) → req (Nat.ble n (z'.length)) (K ((z', n), (), (a, triC), (((a, triC), sa, b1, m1, a1, ()), rngOf Go.Proofs.Try.prog 67 0), sum, ((), (),
 (), (), (), ()), true, ())))))))) := by kernel_rfl
def worstF (a : Au) (sa : List Int) : W3 := runW a.1 sa ([], -1, 0) (gW a.1 [] a.2.2.1)
abbrev fc67 : FC := ⟨[.v TS, .v L], [L, I, I], fun x K => (okSt x.1.1.1 ∧ x.1.2 = triC ∧ eachB x.1.1.1 x.2.1 = true ∧ (0 ≤ x.1.1.2.2.1 ∧ x.1.1.2.2.1 ≤ 1000)) ∧ ∀ b mo al, (b, mo, al) = worstF x.1.1 x.2.1 → K (b, mo, al, ())⟩
theorem v67F (a : Au) (sa : List Int) (K : dens [L, I, I] → Prop) : (xfn1 Try.prog { nm := true, ip := true, f2 := [(94, fc94 10)] } 5 67 fc67 ((a, triC), sa, ()) K) =
  ((okSt (a.1) ∧ triC = triC ∧ (a, triC) = (a, triC) ∧ rngOf Go.Proofs.Try.prog 67 0 = rngOf Go.Proofs.Try.prog 67 0 ∧ eachB (a.1) sa = true ∧ okP (a.1) [] 0 ∧ List.length (a.1) < 10 ∧ ((0 : SV.den (SV.v I)) ≤ selI ([AV.rl
 I (a.1)] ++ ([AV.rl I (a.2.1)] ++ ([AV.int IntKind.i64 (a.2.2.1)] ++ [AV.int IntKind.i64 (a.2.2.2)])) ++ List.flatMap (fun x => [AV.int IntKind.i64 x]) (padL 81 (0 : Int) triC)) 2 ∧ selI ([AV.rl I (a.1)] ++ ([AV.rl I
 (a.2.1)] ++ ([AV.int IntKind.i64 (a.2.2.1)] ++ [AV.int IntKind.i64 (a.2.2.2)])) ++ List.flatMap (fun x => [AV.int IntKind.i64 x]) (padL 81 (0 : Int) triC)) 2 ≤ (1000 : SV.den (SV.v I))) ∧ (0 : SV.den (SV.box 8 (SV.v I)))
 ≤ selI ([AV.rl I (a.1)] ++ ([AV.rl I (a.2.1)] ++ ([AV.int IntKind.i64 (a.2.2.1)] ++ [AV.int IntKind.i64 (a.2.2.2)])) ++ List.flatMap (fun x => [AV.int IntKind.i64 x]) (padL 81 (0 : Int) triC)) 2) ∧ ∀ (z' b1 : List Int)
 (m1 a1 : Int), List.take 0 z' = List.take 0 [] → 0 ≤ z'.length → (b1, m1, a1) = runW (a.1) sa ([], (-1 : Int), (0 : Int)) (gW (List.drop 0 (a.1)) (List.take 0 []) (selI ([AV.rl I (a.1)] ++ ([AV.rl I (a.2.1)] ++ ([AV.int
 IntKind.i64 (a.2.2.1)] ++ [AV.int IntKind.i64 (a.2.2.2)])) ++ List.flatMap (fun x => [AV.int IntKind.i64 x]) (padL 81 (0 : Int) triC)) 2)) → AV.int IntKind.i64 a1 = AV.int IntKind.i64 a1 ∧ AV.int IntKind.i64 m1 = AV.int
 IntKind.i64 m1 ∧ AV.int IntKind.i64 a1 = AV.int IntKind.i64 a1 ∧ K (b1, m1, a1, ())) := by kernel_rfl
end Go.P10
