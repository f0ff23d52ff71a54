/- Audits: the reference: states and what is to be shown, reduced. No conditions. -/
import Derived.Test.YtfbbpilflbpifaaAuditL
set_option linter.unusedSimpArgs false
set_option linter.unusedVariables false
set_option linter.constructorNameAsVariable false
set_option maxRecDepth 100000
set_option maxHeartbeats 2000000
namespace Go.P10
open Go.Lom Go.Proofs Go

abbrev LL : Ty := .sl L
/-! the number of choices -/
def cR (n k : Int) : Nat → Int
  | 0 => 1
  | i + 1 => Int.tdiv (cR n k i * (n - k + (i + 1))) (i + 1)
abbrev sh95 : SV := S [(0, .v I), (1, .v I), (5, .v I), (6, .v I)]
abbrev sh95e : SV := S [(5, .v I)]
abbrev lc95 : LC2 := ⟨0, sh95, 0, fun (n, k, x, i, _) Q => ((0 ≤ k ∧ k ≤ n ∧ n ≤ 8) ∧ (1 ≤ i ∧ i ≤ k + 1) ∧ x = cR n k (i - 1).toNat) ∧ ∀ r, r = chs n k → Q (.exit 0) (stS 0 sh95e (r, ()))⟩
theorem v95L (n k x i : Int) (Q : AX → St → Prop) : (xloop2 Try.prog {} 5 95 0 lc95 (fun _ => some (sh95e, 0)) (fun (_, k, _, i, _) => (k + 1 - i).toNat) (n, k, x, i, ()) Q) =
  (fork (decide (i ≤ k)) (req (inR IntKind.i64 (n - k)) (req (inR IntKind.i64 (n - k + i)) (req (inR IntKind.i64 (x * (n - k + i))) (req (decide (i ≠ (0 : Int))) (req (inR IntKind.i64 (Int.tdiv (x * (n - k + i)) i)) (req
 (inR IntKind.i64 (i + 1)) (Int.toNat (k + (1 : SV.den (SV.slot 1 (SV.v I))) - (i + 1)) < Int.toNat (k + (1 : SV.den (SV.slot 1 (SV.v I))) - i) ∧ LC2.spec lc95 (n, k, Int.tdiv (x * (n - k + i)) i, i + 1, ()) Q))))))) (Q
 (AX.exit 0) (stS 0 sh95e (x, ())))) := by kernel_rfl
abbrev fc95 : FC := ⟨[.v I, .v I], [I], fun x K => ((0 ≤ x.1 ∧ x.1 ≤ 8) ∧ (0 ≤ x.2.1 ∧ x.2.1 ≤ 8)) ∧ ∀ r, r = chs x.1 x.2.1 → K (r, ())⟩
theorem v95F (n k : Int) (K : dens [I] → Prop) : (xfn1 Try.prog { l2 := [(95, 0, lc95)] } 5 95 fc95 (n, k, ()) K) =
  (fork (decide (k < (0 : Int))) (K ((0 : Int), ())) (fork (decide (k > n)) (K ((0 : Int), ())) ((((0 : SV.den (SV.slot 1 (SV.v I))) ≤ k ∧ k ≤ n ∧ n ≤ (8 : SV.den (SV.slot 0 (SV.v I)))) ∧ ((1 : SV.den (SV.slot 6 (SV.v I)))
 ≤ (1 : Int) ∧ (1 : Int) ≤ k + (1 : SV.den (SV.slot 6 (SV.v I)))) ∧ (1 : Int) = cR n k 0) ∧ ∀ (r : Int), r = chs n k → K (r, ())))) := by kernel_rfl
/-! misses -/
abbrev sh70 : SV := S [(1, .v L), (2, .v L), (3, .box 0 (.v TA)), (7, .v I), (8, .v I)]
abbrev sh70e : SV := S [(7, .v I)]
abbrev lc70 : LC2 := ⟨0, sh70, 1, fun (sa, lo, a, x, i, _) Q => (okSt a.1 ∧ eachB a.1 sa = true ∧ eachB a.1 lo = true ∧ (0 ≤ i ∧ i ≤ a.1.length) ∧ (0 ≤ x ∧ x ≤ 70 ^ i.toNat)) ∧ ∀ r, r = x * prodM (a.1.drop i.toNat) (sa.drop i.toNat) (lo.drop i.toNat) → Q (.exit 0) (stS 0 sh70e (r, ()))⟩
theorem v70L (sa lo : List Int) (a : Au) (x i : Int) (Q : AX → St → Prop) : (xloop2 Try.prog { f := [(95, fc95)] } 5 70 0 lc70 (fun _ => some (sh70e, 0)) (fun (sa, _, _, _, i, _) => mL sa i) (sa, lo, a, x, i, ()) Q) =
  (fork (decide (i < (↑(sa.length) : Int))) (req (decide ((0 : Int) ≤ i ∧ i < (↑(List.length (a.1)) : Int))) (req (decide ((0 : Int) ≤ i ∧ i < (↑(lo.length) : Int))) (req (inR IntKind.i64 (List.getD (a.1) (Int.toNat i) (0 :
 Int) - List.getD lo (Int.toNat i) (0 : Int))) (req (decide ((0 : Int) ≤ i ∧ i < (↑(sa.length) : Int))) ((((0 : AT.den (AT.v I)) ≤ List.getD (a.1) (Int.toNat i) (0 : Int) - List.getD lo (Int.toNat i) (0 : Int) ∧ List.getD
 (a.1) (Int.toNat i) (0 : Int) - List.getD lo (Int.toNat i) (0 : Int) ≤ (8 : AT.den (AT.v I))) ∧ (0 : AT.den (AT.v I)) ≤ List.getD sa (Int.toNat i) (0 : Int) ∧ List.getD sa (Int.toNat i) (0 : Int) ≤ (8 : AT.den (AT.v I)))
 ∧ ∀ (r : Int), r = chs (List.getD (a.1) (Int.toNat i) (0 : Int) - List.getD lo (Int.toNat i) (0 : Int)) (List.getD sa (Int.toNat i) (0 : Int)) → req (inR IntKind.i64 (x * r)) (req (inR IntKind.i64 (i + 1)) (mL sa (i + 1)
 < mL sa i ∧ LC2.spec lc70 (sa, lo, a, x * r, i + 1, ()) Q))))))) (Q (AX.exit 0) (stS 0 sh70e (x, ())))) := by kernel_rfl
abbrev fc70 : FC := ⟨[.v TA, .v L, .v L], [I], fun x K => (okSt x.1.1 ∧ eachB x.1.1 x.2.1 = true ∧ eachB x.1.1 x.2.2.1 = true) ∧ ∀ r, r = prodM x.1.1 x.2.1 x.2.2.1 → K (r, ())⟩
theorem v70F (a : Au) (sa lo : List Int) (K : dens [I] → Prop) : (xfn1 Try.prog { l2 := [(70, 0, lc70)] } 5 70 fc70 (a, sa, lo, ()) K) =
  ((okSt (a.1) ∧ eachB (a.1) sa = true ∧ eachB (a.1) lo = true ∧ ((0 : SV.den (SV.slot 8 (SV.v I))) ≤ (0 : Int) ∧ (0 : Int) ≤ (↑(List.length (a.1)) : SV.den (SV.slot 8 (SV.v I)))) ∧ (0 : SV.den (SV.slot 7 (SV.v I))) ≤ (1 :
 Int) ∧ (1 : Int) ≤ (70 : SV.den (SV.slot 7 (SV.v I))) ^ 0) ∧ ∀ (r : SV.den (SV.slot ((7, SV.v I).1) ((7, SV.v I).2))), r = (1 : Int) * prodM (List.drop 0 (a.1)) (List.drop 0 sa) (List.drop 0 lo) → K (r, ())) := by kernel_rfl
/-! each -/
abbrev sh69 : SV := S [(1, .v L), (2, .box 0 (.v TA)), (5, .v .b), (6, .v I)]
abbrev sh69e : SV := S [(5, .v .b)]
abbrev lc69 : LC2 := ⟨0, sh69, 1, fun (l, a, ok, i, _) Q => (0 ≤ i ∧ l.length ≤ big ∧ (ok = true → l.length = a.1.length ∧ i ≤ l.length)) ∧ ∀ r, r = (ok && eachB (a.1.drop i.toNat) (l.drop i.toNat)) → Q (.exit 0) (stS 0 sh69e (r, ()))⟩
theorem v69L (l : List Int) (a : Au) (ok : Bool) (i : Int) (Q : AX → St → Prop) : (xloop2 Try.prog {} 5 69 0 lc69 (fun _ => some (sh69e, 0)) (fun (l, _, _, i, _) => (l.length + 1 - i).toNat) (l, a, ok, i, ()) Q) =
  (fork ok (fork (decide (i < (↑(l.length) : Int))) (req (decide ((0 : Int) ≤ i ∧ i < (↑(l.length) : Int))) (req (decide ((0 : Int) ≤ i ∧ i < (↑(List.length (a.1)) : Int))) (fork (decide ((0 : Int) ≤ List.getD l (Int.toNat
 i) (0 : Int))) (req (inR IntKind.i64 (i + 1)) (Int.toNat ((↑(l.length) : SV.den (SV.slot 6 (SV.v I))) + (1 : SV.den (SV.slot 6 (SV.v I))) - (i + 1)) < Int.toNat ((↑(l.length) : SV.den (SV.slot 6 (SV.v I))) + (1 : SV.den
 (SV.slot 6 (SV.v I))) - i) ∧ LC2.spec lc69 (l, a, decide (List.getD l (Int.toNat i) (0 : Int) ≤ List.getD (a.1) (Int.toNat i) (0 : Int)), i + 1, ()) Q)) (req (inR IntKind.i64 (i + 1)) (Int.toNat ((↑(l.length) : SV.den
 (SV.slot 6 (SV.v I))) + (1 : SV.den (SV.slot 6 (SV.v I))) - (i + 1)) < Int.toNat ((↑(l.length) : SV.den (SV.slot 6 (SV.v I))) + (1 : SV.den (SV.slot 6 (SV.v I))) - i) ∧ LC2.spec lc69 (l, a, false, i + 1, ()) Q))))) (Q
 (AX.exit 0) (stS 0 sh69e (ok, ())))) (Q (AX.exit 0) (stS 0 sh69e (ok, ())))) := by kernel_rfl
abbrev fc69 : FC := ⟨[.v TA, .v L], [.b], fun x K => x.2.1.length ≤ big ∧ ∀ r, r = eachB x.1.1 x.2.1 → K (r, ())⟩
theorem v69F (a : Au) (l : List Int) (K : dens [.b] → Prop) : (xfn1 Try.prog { l2 := [(69, 0, lc69)] } 5 69 fc69 (a, l, ()) K) =
  (((0 : SV.den (SV.slot 6 (SV.v I))) ≤ (0 : Int) ∧ l.length ≤ 9223372036854775807 ∧ (((↑(l.length) : Int) == (↑(List.length (a.1)) : Int)) = true → l.length = List.length (a.1) ∧ (0 : Int) ≤ (↑(l.length) : SV.den (SV.slot
 6 (SV.v I))))) ∧ ∀ (r : Bool), r = ((↑(l.length) : Int) == (↑(List.length (a.1)) : Int) && eachB (List.drop 0 (a.1)) (List.drop 0 l)) → K (r, ())) := by kernel_rfl
/-! Check -/
def okB : List Int → List Int → Bool
  | n :: st, c :: cs => (decide (1 ≤ n ∧ n ≤ 8) && decide (0 ≤ c ∧ c ≤ 1000)) && okB st cs
  | _, _ => true
abbrev sh29 : SV := S [(1, TAb), (3, .v .b), (4, .v I)]
abbrev sh29e : SV := S [(1, TAb), (3, .v .b)]
abbrev lc29 : LC2 := ⟨0, sh29, 1, fun (a, ok, i, _) Q => (0 ≤ i ∧ (ok = true → a.1.length ≤ 4 ∧ a.2.1.length = a.1.length ∧ i ≤ a.1.length)) ∧ ∀ r, r = (ok && okB (a.1.drop i.toNat) (a.2.1.drop i.toNat)) → Q (.exit 0) (stS 1 sh29e (a, r, ()))⟩
theorem v29L (a : Au) (ok : Bool) (i : Int) (Q : AX → St → Prop) : (xloop2 Try.prog {} 5 29 0 lc29 (fun _ => some (sh29e, 1)) (fun (a, _, i, _) => (a.1.length + 1 - i).toNat) (a, ok, i, ()) Q) =
  (fork ok (fork (decide (i < (↑(List.length (a.1)) : Int))) (req (decide ((0 : Int) ≤ i ∧ i < (↑(List.length (a.1)) : Int))) (fork (decide ((1 : Int) ≤ List.getD (a.1) (Int.toNat i) (0 : Int))) (fork (decide (List.getD
 (a.1) (Int.toNat i) (0 : Int) ≤ (8 : Int))) (req (decide ((0 : Int) ≤ i ∧ i < (↑(List.length (a.2.1)) : Int))) (fork (decide ((0 : Int) ≤ List.getD (a.2.1) (Int.toNat i) (0 : Int))) (req (inR IntKind.i64 (i + 1))
 (Int.toNat ((↑(List.length (a.1)) : SV.den (SV.slot 4 (SV.v I))) + (1 : SV.den (SV.slot 4 (SV.v I))) - (i + 1)) < Int.toNat ((↑(List.length (a.1)) : SV.den (SV.slot 4 (SV.v I))) + (1 : SV.den (SV.slot 4 (SV.v I))) - i) ∧
 LC2.spec lc29 (a, decide (List.getD (a.2.1) (Int.toNat i) (0 : Int) ≤ (1000 : Int)), i + 1, ()) Q)) (req (inR IntKind.i64 (i + 1)) (Int.toNat ((↑(List.length (a.1)) : SV.den (SV.slot 4 (SV.v I))) + (1 : SV.den (SV.slot 4
 (SV.v I))) - (i + 1)) < Int.toNat ((↑(List.length (a.1)) : SV.den (SV.slot 4 (SV.v I))) + (1 : SV.den (SV.slot 4 (SV.v I))) - i) ∧ LC2.spec lc29 (a, false, i + 1, ()) Q)))) (req (inR IntKind.i64 (i + 1)) (Int.toNat
 ((↑(List.length (a.1)) : SV.den (SV.slot 4 (SV.v I))) + (1 : SV.den (SV.slot 4 (SV.v I))) - (i + 1)) < Int.toNat ((↑(List.length (a.1)) : SV.den (SV.slot 4 (SV.v I))) + (1 : SV.den (SV.slot 4 (SV.v I))) - i) ∧ LC2.spec
 lc29 (a, false, i + 1, ()) Q))) (req (inR IntKind.i64 (i + 1)) (Int.toNat ((↑(List.length (a.1)) : SV.den (SV.slot 4 (SV.v I))) + (1 : SV.den (SV.slot 4 (SV.v I))) - (i + 1)) < Int.toNat ((↑(List.length (a.1)) : SV.den
 (SV.slot 4 (SV.v I))) + (1 : SV.den (SV.slot 4 (SV.v I))) - i) ∧ LC2.spec lc29 (a, false, i + 1, ()) Q)))) (Q (AX.exit 0) (stS 1 sh29e (a, ok, ())))) (Q (AX.exit 0) (stS 1 sh29e (a, ok, ())))) := by kernel_rfl
theorem v29F (a : Au) (K : dens [E] → Prop) : (xfn1 Try.prog { f := [(24, fc24w)], l2 := [(29, 0, lc29)] } 5 29 fc28 (a, ()) K) =
  (fork (decide ((1 : Int) ≤ (↑(List.length (a.1)) : Int))) (fork (decide ((↑(List.length (a.1)) : Int) ≤ (4 : Int))) (fork ((↑(List.length (a.2.1)) : Int) == (↑(List.length (a.1)) : Int)) (fork (decide ((0 : Int) ≤
 a.2.2.2)) (((0 : SV.den (SV.slot 4 (SV.v I))) ≤ (0 : Int) ∧ (decide (a.2.2.2 ≤ (1000 : Int)) = true → List.length (a.1) ≤ 4 ∧ List.length (a.2.1) = List.length (a.1) ∧ (0 : Int) ≤ (↑(List.length (a.1)) : SV.den (SV.slot 4
 (SV.v I))))) ∧ ∀ (r : Bool), r = (decide (a.2.2.2 ≤ (1000 : Int)) && okB (List.drop 0 (a.1)) (List.drop 0 (a.2.1))) → fork (!r) (K ((100 : Int), ())) (List.length (a.1) ≤ 9223372036854775807 ∧ ∀ (n : Ty.den I),
 (List.length (a.1) ≤ 6 → List.all (a.1) inW = true → n = List.sum (a.1)) → AV.int IntKind.i64 (a.2.2.1) = AV.int IntKind.i64 (a.2.2.1) ∧ fork (decide ((1 : Int) ≤ a.2.2.1)) (fork (!decide (a.2.2.1 ≤ n)) (K ((100 : Int),
 ())) (K ((0 : Int), ()))) (K ((100 : Int), ())))) (((0 : SV.den (SV.slot 4 (SV.v I))) ≤ (0 : Int) ∧ (false = true → List.length (a.1) ≤ 4 ∧ List.length (a.2.1) = List.length (a.1) ∧ (0 : Int) ≤ (↑(List.length (a.1)) :
 SV.den (SV.slot 4 (SV.v I))))) ∧ ∀ (r : Bool), r = (false && okB (List.drop 0 (a.1)) (List.drop 0 (a.2.1))) → fork (!r) (K ((100 : Int), ())) (List.length (a.1) ≤ 9223372036854775807 ∧ ∀ (n : Ty.den I), (List.length (a.1)
 ≤ 6 → List.all (a.1) inW = true → n = List.sum (a.1)) → AV.int IntKind.i64 (a.2.2.1) = AV.int IntKind.i64 (a.2.2.1) ∧ fork (decide ((1 : Int) ≤ a.2.2.1)) (fork (!decide (a.2.2.1 ≤ n)) (K ((100 : Int), ())) (K ((0 : Int),
 ()))) (K ((100 : Int), ()))))) (((0 : SV.den (SV.slot 4 (SV.v I))) ≤ (0 : Int) ∧ (false = true → List.length (a.1) ≤ 4 ∧ List.length (a.2.1) = List.length (a.1) ∧ (0 : Int) ≤ (↑(List.length (a.1)) : SV.den (SV.slot 4
 (SV.v I))))) ∧ ∀ (r : Bool), r = (false && okB (List.drop 0 (a.1)) (List.drop 0 (a.2.1))) → fork (!r) (K ((100 : Int), ())) (List.length (a.1) ≤ 9223372036854775807 ∧ ∀ (n : Ty.den I), (List.length (a.1) ≤ 6 → List.all
 (a.1) inW = true → n = List.sum (a.1)) → AV.int IntKind.i64 (a.2.2.1) = AV.int IntKind.i64 (a.2.2.1) ∧ fork (decide ((1 : Int) ≤ a.2.2.1)) (fork (!decide (a.2.2.1 ≤ n)) (K ((100 : Int), ())) (K ((0 : Int), ()))) (K ((100
 : Int), ()))))) (((0 : SV.den (SV.slot 4 (SV.v I))) ≤ (0 : Int) ∧ (false = true → List.length (a.1) ≤ 4 ∧ List.length (a.2.1) = List.length (a.1) ∧ (0 : Int) ≤ (↑(List.length (a.1)) : SV.den (SV.slot 4 (SV.v I))))) ∧ ∀ (r
 : Bool), r = (false && okB (List.drop 0 (a.1)) (List.drop 0 (a.2.1))) → fork (!r) (K ((100 : Int), ())) (List.length (a.1) ≤ 9223372036854775807 ∧ ∀ (n : Ty.den I), (List.length (a.1) ≤ 6 → List.all (a.1) inW = true → n =
 List.sum (a.1)) → AV.int IntKind.i64 (a.2.2.1) = AV.int IntKind.i64 (a.2.2.1) ∧ fork (decide ((1 : Int) ≤ a.2.2.1)) (fork (!decide (a.2.2.1 ≤ n)) (K ((100 : Int), ())) (K ((0 : Int), ()))) (K ((100 : Int), ()))))) (((0 :
 SV.den (SV.slot 4 (SV.v I))) ≤ (0 : Int) ∧ (false = true → List.length (a.1) ≤ 4 ∧ List.length (a.2.1) = List.length (a.1) ∧ (0 : Int) ≤ (↑(List.length (a.1)) : SV.den (SV.slot 4 (SV.v I))))) ∧ ∀ (r : Bool), r = (false &&
 okB (List.drop 0 (a.1)) (List.drop 0 (a.2.1))) → fork (!r) (K ((100 : Int), ())) (List.length (a.1) ≤ 9223372036854775807 ∧ ∀ (n : Ty.den I), (List.length (a.1) ≤ 6 → List.all (a.1) inW = true → n = List.sum (a.1)) →
 AV.int IntKind.i64 (a.2.2.1) = AV.int IntKind.i64 (a.2.2.1) ∧ fork (decide ((1 : Int) ≤ a.2.2.1)) (fork (!decide (a.2.2.1 ≤ n)) (K ((100 : Int), ())) (K ((0 : Int), ()))) (K ((100 : Int), ()))))) := by kernel_rfl
def askedV (a : Au) (sa : List Int) : Int := if okA a then if eachB a.1 sa = true then 0 else 101 else 100
abbrev fc68 : FC := ⟨[.v TA, .v L], [E], fun x K => (bigs x.1 ∧ x.2.1.length ≤ big) ∧ ∀ e, e = askedV x.1 x.2.1 → K (e, ())⟩
theorem v68F (a : Au) (sa : List Int) (K : dens [E] → Prop) : (xfn1 Try.prog { f := [(29, fc28), (69, fc69)] } 5 68 fc68 (a, sa, ()) K) =
  ((List.length (a.1) ≤ 9223372036854775807 ∧ List.length (a.2.1) ≤ 9223372036854775807) ∧ ∀ (e : Ty.den E), (okA a → e = (0 : Ty.den E)) → (¬okA a → e = (100 : Ty.den E)) → fork (e != (0 : Int)) (K (e, ())) (sa.length ≤
 9223372036854775807 ∧ ∀ (r : Bool), r = eachB (a.1) sa → fork (!r) (K ((101 : Int), ())) (K ((0 : Int), ())))) := by kernel_rfl
theorem v27F (a : Au) (sa lo : List Int) (K : dens [I, I, E] → Prop) : (xfn1 Try.prog { nm := true, f := [(68, fc68), (69, fc69), (70, fc70)] } 5 27 fc20 (a, sa, lo, ()) K) =
  ((bigs a ∧ sa.length ≤ 9223372036854775807) ∧ ∀ (e : Int), e = askedV a sa → fork (e != (0 : Int)) (K ((0 : Int), (0 : Int), e, ())) (lo.length ≤ 9223372036854775807 ∧ ∀ (r : Bool), r = eachB (a.1) lo → fork (!r) (K ((0 :
 Int), (0 : Int), (102 : Int), ())) (req (decide ((0 : Int) ≤ (↑(sa.length) : Int) ∧ (↑(sa.length) : Int) ≤ (↑(sa.length) : Int) ∧ (8 : Int) * (↑(sa.length) : Int) ≤ (281474976710656 : Int) ∧ (↑(sa.length) : Int) ≤
 (281474976710656 : Int))) ((okSt (a.1) ∧ eachB (a.1) sa = true ∧ eachB (a.1) lo = true) ∧ ∀ (r : Int), r = prodM (a.1) sa lo → AV.int IntKind.i64 (↑(sa.length) : Int) = AV.int IntKind.i64 (↑(sa.length) : Int) ∧ AV.agg
 [AV.rl I (a.1), AV.rl I (a.2.1), AV.int IntKind.i64 (a.2.2.1), AV.int IntKind.i64 (a.2.2.2)] = AV.agg [AV.rl I (a.1), AV.rl I (a.2.1), AV.int IntKind.i64 (a.2.2.1), AV.int IntKind.i64 (a.2.2.2)] ∧ (okSt (a.1) ∧ eachB
 (a.1) sa = true ∧ eachB (a.1) (List.replicate (sa.length) (0 : Int)) = true) ∧ ∀ (r_1 : Int), r_1 = prodM (a.1) sa (List.replicate (sa.length) (0 : Int)) → K (r, r_1, (0 : Int), ()))))) := by kernel_rfl
/-! cost -/
abbrev sh61 : SV := S [(1, .v L), (2, .box 0 (.v TA)), (5, .v I), (6, .v I)]
abbrev lc61 : LC2 := ⟨0, sh61, 1, fun (l, a, n, i, _) Q => (okA a ∧ eachB a.1 l = true ∧ (0 ≤ i ∧ i ≤ l.length) ∧ n = costF (l.take i.toNat) a.2.1) ∧ Q (.exit 0) (stS 1 (S [(5, .v I)]) (costF l a.2.1, ()))⟩
theorem v61L (l : List Int) (a : Au) (n i : Int) (Q : AX → St → Prop) : (xloop2 Try.prog { nm := true } 5 61 0 lc61 (fun _ => some (S [(5, .v I)], 1)) (fun (l, _, _, i, _) => mL l i) (l, a, n, i, ()) Q) =
  (fork (decide (i < (↑(l.length) : Int))) (req (decide ((0 : Int) ≤ i ∧ i < (↑(l.length) : Int))) (req (decide ((0 : Int) ≤ i ∧ i < (↑(List.length (a.2.1)) : Int))) (req (inR IntKind.i64 (List.getD l (Int.toNat i) (0 :
 Int) * List.getD (a.2.1) (Int.toNat i) (0 : Int))) (req (inR IntKind.i64 (n + List.getD l (Int.toNat i) (0 : Int) * List.getD (a.2.1) (Int.toNat i) (0 : Int))) (req (inR IntKind.i64 (i + 1)) (mL l (i + 1) < mL l i ∧
 LC2.spec lc61 (l, a, n + List.getD l (Int.toNat i) (0 : Int) * List.getD (a.2.1) (Int.toNat i) (0 : Int), i + 1, ()) Q)))))) (Q (AX.exit 0) (stS 1 (S [(5, SV.v I)]) (n, ())))) := by kernel_rfl
abbrev fc61 : FC := ⟨[.v TA, .v L], [I], fun x K => (okA x.1 ∧ eachB x.1.1 x.2.1 = true) ∧ ∀ r, r = costF x.2.1 x.1.2.1 → K (r, ())⟩
theorem v61F (a : Au) (l : List Int) (K : dens [I] → Prop) : (xfn1 Try.prog { l2 := [(61, 0, lc61)] } 5 61 fc61 (a, l, ()) K) =
  ((okA a ∧ eachB (a.1) l = true ∧ ((0 : SV.den (SV.slot 6 (SV.v I))) ≤ (0 : Int) ∧ (0 : Int) ≤ (↑(l.length) : SV.den (SV.slot 6 (SV.v I)))) ∧ (0 : Int) = costF (List.take 0 l) (a.2.1)) ∧ K (costF l (a.2.1), ())) := by kernel_rfl
/-! lists -/
abbrev sh59 : SV := S [(1, .v L), (2, .box 0 (.v TA)), (5, .own 1 L), (6, .v I)]
abbrev lc59 (c : Nat) : LC2 := ⟨0, sh59, 2, fun (l, a, o, n, _) Q => (okSt a.1 ∧ l.length < a.1.length ∧ a.1.length - l.length ≤ c ∧ (0 ≤ n ∧ n ≤ a.1.getD l.length 0 + 1) ∧ (o.length : Int) ≤ n * 9 ^ (a.1.length - l.length - 1)) ∧
  ∀ r : List (List Int), r = o ++ gAs (a.1.getD l.length 0) (a.1.drop (l.length + 1)) l n → Q (.exit 0) (stS 2 (S [(5, .own 1 L)]) (r, ()))⟩
abbrev fc59 (c : Nat) : FC := ⟨[.v TA, .v L], [LL], fun x K => (okSt x.1.1 ∧ x.2.1.length ≤ x.1.1.length ∧ x.1.1.length - x.2.1.length < c) ∧ ∀ r, r = gA (x.1.1.drop x.2.1.length) x.2.1 → K (r, ())⟩
theorem v59L (c : Nat) (l : List Int) (a : Au) (o : List (List Int)) (n : Int) (Q : AX → St → Prop) : (xloop2 Try.prog { nm := true, f := [(59, fc59 c)], f2 := [(26, fc26)] } 5 59 0 (lc59 c) (fun _ => some (S [(5, .own 1 L)], 2)) (fun (l, a, _, n, _) => (a.1.getD l.length 0 + 1 - n).toNat) (l, a, o, n, ()) Q) =
  (req (decide ((0 : Int) ≤ (↑(l.length) : Int) ∧ (↑(l.length) : Int) < (↑(List.length (a.1)) : Int))) (fork (decide (n ≤ List.getD (a.1) (l.length) (0 : Int))) (l.length ≤ 1000 ∧ ∀ (r : List Int), r = l → AV.agg [AV.rl I
 (a.1), AV.rl I (a.2.1), AV.int IntKind.i64 (a.2.2.1), AV.int IntKind.i64 (a.2.2.2)] = AV.agg [AV.rl I (a.1), AV.rl I (a.2.1), AV.int IntKind.i64 (a.2.2.1), AV.int IntKind.i64 (a.2.2.2)] ∧ req (decide (0 + r.length ≤
 r.length)) (req (fitsN (r.length + 1) 8) (∀ (ys : List (Ty.den (Ty.i IntKind.i64))), ys = seg 0 (r.length) r ++ [n] → AV.agg [AV.rl I (a.1), AV.rl I (a.2.1), AV.int IntKind.i64 (a.2.2.1), AV.int IntKind.i64 (a.2.2.2)] =
 AV.agg [AV.rl I (a.1), AV.rl I (a.2.1), AV.int IntKind.i64 (a.2.2.1), AV.int IntKind.i64 (a.2.2.2)] ∧ req (decide (0 + (r.length + 1) ≤ ys.length)) ((okSt (a.1) ∧ List.length (seg 0 (r.length + 1) ys) ≤ List.length (a.1)
 ∧ List.length (a.1) - List.length (seg 0 (r.length + 1) ys) < c) ∧ ∀ (r_1 : List (List Int)), r_1 = gA (List.drop (List.length (seg 0 (r.length + 1) ys)) (a.1)) (seg 0 (r.length + 1) ys) → req (decide (0 + o.length ≤
 o.length)) (req (fitsN (o.length + r_1.length) 24) (∀ (ys : List (Ty.den (Ty.sl (Ty.i IntKind.i64)))), ys = seg 0 (o.length) o ++ r_1 → req (inR IntKind.i64 (n + 1)) (req (decide (0 + (o.length + r_1.length) ≤ ys.length))
 (Int.toNat (List.getD (a.1) (l.length) (0 : Ty.den I) + (1 : Ty.den I) - (n + 1)) < Int.toNat (List.getD (a.1) (l.length) (0 : Ty.den I) + (1 : Ty.den I) - n) ∧ LC2.spec (lc59 c) (l, a, seg 0 (o.length + r_1.length) ys, n
 + 1, ()) Q)))))))) (req (decide (0 + o.length ≤ o.length)) (Q (AX.exit 0) (stS 2 (S [(5, SV.own 1 L)]) (seg 0 (o.length) o, ())))))) := by kernel_rfl
theorem v59F (c : Nat) (a : Au) (l : List Int) (K : dens [LL] → Prop) : (xfn1 Try.prog { nm := true, l2 := [(59, 0, lc59 c)] } 5 59 (fc59 (c + 1)) (a, l, ()) K) =
  (fork ((↑(l.length) : Int) == (↑(List.length (a.1)) : Int)) (K ([l], ())) ((okSt (a.1) ∧ l.length < List.length (a.1) ∧ List.length (a.1) - l.length ≤ c ∧ ((0 : SV.den (SV.slot 6 (SV.v I))) ≤ (0 : Int) ∧ (0 : Int) ≤
 List.getD (a.1) (l.length) (0 : Ty.den I) + (1 : SV.den (SV.slot 6 (SV.v I)))) ∧ (0 : Int) ≤ (0 : Int) * (9 : Int) ^ (List.length (a.1) - l.length - 1)) ∧ ∀ (r : List (List Int)), r = [] ++ gAs (List.getD (a.1) (l.length)
 (0 : Ty.den I)) (List.drop (l.length + 1) (a.1)) l (0 : Int) → req (decide (0 + r.length ≤ r.length)) (K (seg 0 (r.length) r, ())))) := by kernel_rfl
/-! losses -/
def lossL (a : Au) : List (List Int) := (gA a.1 []).filter fun l => l.sum == a.2.2.1
abbrev sh60 : SV := S [(1, .box 0 (.v TA)), (3, .v LL), (4, .own 1 L), (5, .v I)]
abbrev lc60 : LC2 := ⟨0, sh60, 2, fun (a, ls, o, i, _) Q => (okA a ∧ (∀ l ∈ ls, eachB a.1 l = true) ∧ ls.length ≤ 10000 ∧ (0 ≤ i ∧ i ≤ ls.length) ∧ (o.length : Int) ≤ i) ∧ ∀ r : List (List Int), r = o ++ (ls.drop i.toNat).filter (fun l => l.sum == a.2.2.1) → Q (.exit 0) (stS 2 (S [(4, .own 1 L)]) (r, ()))⟩
theorem v60L (a : Au) (ls o : List (List Int)) (i : Int) (Q : AX → St → Prop) : (xloop2 Try.prog { nm := true, f := [(24, fc24w)] } 5 60 0 lc60 (fun _ => some (S [(4, .own 1 L)], 2)) (fun (_, ls, _, i, _) => mL ls i) (a, ls, o, i, ()) Q) =
  (fork (decide (i < (↑(ls.length) : Int))) (req (decide ((0 : Int) ≤ i ∧ i < (↑(ls.length) : Int))) (List.length (List.getD ls (Int.toNat i) []) ≤ 9223372036854775807 ∧ ∀ (n : Ty.den I), (List.length (List.getD ls
 (Int.toNat i) []) ≤ 6 → List.all (List.getD ls (Int.toNat i) []) inW = true → n = List.sum (List.getD ls (Int.toNat i) [])) → AV.int IntKind.i64 (a.2.2.1) = AV.int IntKind.i64 (a.2.2.1) ∧ fork (n == a.2.2.1) (req (decide
 ((0 : Int) ≤ i ∧ i < (↑(ls.length) : Int))) (req (decide (0 + o.length ≤ o.length)) (req (fitsN (o.length + 1) 24) (∀ (ys : List (Ty.den (Ty.sl (Ty.i IntKind.i64)))), ys = seg 0 (o.length) o ++ [List.getD ls (Int.toNat i)
 []] → req (inR IntKind.i64 (i + 1)) (req (decide (0 + (o.length + 1) ≤ ys.length)) (mL ls (i + 1) < mL ls i ∧ LC2.spec lc60 (a, ls, seg 0 (o.length + 1) ys, i + 1, ()) Q)))))) (req (inR IntKind.i64 (i + 1)) (req (decide
 (0 + o.length ≤ o.length)) (mL ls (i + 1) < mL ls i ∧ LC2.spec lc60 (a, ls, seg 0 (o.length) o, i + 1, ()) Q))))) (req (decide (0 + o.length ≤ o.length)) (Q (AX.exit 0) (stS 2 (S [(4, SV.own 1 L)]) (seg 0 (o.length) o,
 ()))))) := by kernel_rfl
abbrev fc60 : FC := ⟨[.v TA], [LL], fun x K => okA x.1 ∧ ∀ r, r = lossL x.1 → K (r, ())⟩
theorem v60F (a : Au) (K : dens [LL] → Prop) : (xfn1 Try.prog { nm := true, f := [(59, fc59 10)], l2 := [(60, 0, lc60)] } 5 60 fc60 (a, ()) K) =
  ((okSt (a.1) ∧ 0 ≤ List.length (a.1) ∧ List.length (a.1) < 10) ∧ ∀ (r : List (List Int)), r = gA (List.drop 0 (a.1)) [] → (okA a ∧ (∀ (l : Ty.den L), l ∈ r → eachB (a.1) l = true) ∧ r.length ≤ 10000 ∧ ((0 : SV.den
 (SV.slot 5 (SV.v I))) ≤ (0 : Int) ∧ (0 : Int) ≤ (↑(r.length) : SV.den (SV.slot 5 (SV.v I)))) ∧ (0 : Int) ≤ (0 : Int)) ∧ ∀ (r_1 : List (List Int)), r_1 = [] ++ List.filter (fun l => List.sum l == a.2.2.1) (List.drop 0 r) →
 req (decide (0 + r_1.length ≤ r_1.length)) (K (seg 0 (r_1.length) r_1, ()))) := by kernel_rfl
/-! the worst one -/
def upB (st sa : List Int) (b l : List Int) : List Int := if prodM st sa l > prodM st sa b then l else b
def worstB (st sa : List Int) (ls : List (List Int)) : List Int := ls.foldl (upB st sa) (ls.headD [])
abbrev sh74 : SV := S [(1, .v L), (2, .v LL), (3, .box 0 (.v TA)), (7, .v L), (8, .v I)]
abbrev lc74 : LC2 := ⟨0, sh74, 1, fun (sa, ls, a, b, i, _) Q => (okSt a.1 ∧ eachB a.1 sa = true ∧ (∀ l ∈ ls, eachB a.1 l = true) ∧ ls.length ≤ 10000 ∧ eachB a.1 b = true ∧ (0 ≤ i ∧ i ≤ ls.length)) ∧ ∀ r, r = (ls.drop i.toNat).foldl (upB a.1 sa) b → Q (.exit 0) (stS 1 (S [(7, .v L)]) (r, ()))⟩
theorem v74L (sa : List Int) (ls : List (List Int)) (a : Au) (b : List Int) (i : Int) (Q : AX → St → Prop) : (xloop2 Try.prog { nm := true, f := [(70, fc70)] } 5 74 0 lc74 (fun _ => some (S [(7, .v L)], 1)) (fun (_, ls, _, _, i, _) => mL ls i) (sa, ls, a, b, i, ()) Q) =
  (fork (decide (i < (↑(ls.length) : Int))) (req (decide ((0 : Int) ≤ i ∧ i < (↑(ls.length) : Int))) ((okSt (a.1) ∧ eachB (a.1) sa = true ∧ eachB (a.1) (List.getD ls (Int.toNat i) []) = true) ∧ ∀ (r : Int), r = prodM (a.1)
 sa (List.getD ls (Int.toNat i) []) → AV.agg [AV.rl I (a.1), AV.rl I (a.2.1), AV.int IntKind.i64 (a.2.2.1), AV.int IntKind.i64 (a.2.2.2)] = AV.agg [AV.rl I (a.1), AV.rl I (a.2.1), AV.int IntKind.i64 (a.2.2.1), AV.int
 IntKind.i64 (a.2.2.2)] ∧ (okSt (a.1) ∧ eachB (a.1) sa = true ∧ eachB (a.1) b = true) ∧ ∀ (r_1 : Int), r_1 = prodM (a.1) sa b → fork (decide (r > r_1)) (req (decide ((0 : Int) ≤ i ∧ i < (↑(ls.length) : Int))) (req (inR
 IntKind.i64 (i + 1)) (mL ls (i + 1) < mL ls i ∧ LC2.spec lc74 (sa, ls, a, List.getD ls (Int.toNat i) [], i + 1, ()) Q))) (req (inR IntKind.i64 (i + 1)) (mL ls (i + 1) < mL ls i ∧ LC2.spec lc74 (sa, ls, a, b, i + 1, ())
 Q)))) (Q (AX.exit 0) (stS 1 (S [(7, SV.v L)]) (b, ())))) := by kernel_rfl
abbrev okLs (a : Au) (ls : List (List Int)) : Prop := (∀ l ∈ ls, eachB a.1 l = true) ∧ 1 ≤ ls.length ∧ ls.length ≤ 10000
abbrev fc74 : FC := ⟨[.v TA, .v L, .v LL], [L], fun x K => (okSt x.1.1 ∧ eachB x.1.1 x.2.1 = true ∧ okLs x.1 x.2.2.1) ∧ ∀ r, r = worstB x.1.1 x.2.1 x.2.2.1 → K (r, ())⟩
theorem v74F (a : Au) (sa : List Int) (ls : List (List Int)) (K : dens [L] → Prop) : (xfn1 Try.prog { nm := true, l2 := [(74, 0, lc74)] } 5 74 fc74 (a, sa, ls, ()) K) =
  (req (decide ((0 : Int) ≤ (0 : Int) ∧ (0 : Int) < (↑(ls.length) : Int))) ((okSt (a.1) ∧ eachB (a.1) sa = true ∧ (∀ (l : Ty.den L), l ∈ ls → eachB (a.1) l = true) ∧ ls.length ≤ 10000 ∧ eachB (a.1) (List.getD ls 0 []) =
 true ∧ (0 : SV.den (SV.slot 8 (SV.v I))) ≤ (0 : Int) ∧ (0 : Int) ≤ (↑(ls.length) : SV.den (SV.slot 8 (SV.v I)))) ∧ ∀ (r : List Int), r = List.foldl (upB (a.1) sa) (List.getD ls 0 []) (List.drop 0 ls) → K (r, ()))) := by kernel_rfl
def findsB (a : Au) (sa : List Int) (ls : List (List Int)) : Bool := decide (1000 * prodM a.1 sa (worstB a.1 sa ls) ≤ allM a.1 sa * (1000 - a.2.2.2))
abbrev fc62 : FC := ⟨[.v TA, .v L, .v LL], [.b], fun x K => (okA x.1 ∧ eachB x.1.1 x.2.1 = true ∧ okLs x.1 x.2.2.1) ∧ ∀ r, r = findsB x.1 x.2.1 x.2.2.1 → K (r, ())⟩
theorem v62F (a : Au) (sa : List Int) (ls : List (List Int)) (K : dens [.b] → Prop) : (xfn1 Try.prog { nm := true, f := [(70, fc70), (74, fc74)] } 5 62 fc62 (a, sa, ls, ()) K) =
  (req (decide ((0 : Int) ≤ (↑(sa.length) : Int) ∧ (↑(sa.length) : Int) ≤ (↑(sa.length) : Int) ∧ (8 : Int) * (↑(sa.length) : Int) ≤ (281474976710656 : Int) ∧ (↑(sa.length) : Int) ≤ (281474976710656 : Int))) (req (inR
 IntKind.i64 ((1000 : Int) - a.2.2.2)) ((okSt (a.1) ∧ eachB (a.1) sa = true ∧ okLs a ls) ∧ ∀ (r : List Int), r = worstB (a.1) sa ls → AV.int IntKind.i64 (a.2.2.2) = AV.int IntKind.i64 (a.2.2.2) ∧ AV.int IntKind.i64
 (↑(sa.length) : Int) = AV.int IntKind.i64 (↑(sa.length) : Int) ∧ AV.agg [AV.rl I (a.1), AV.rl I (a.2.1), AV.int IntKind.i64 (a.2.2.1), AV.int IntKind.i64 (a.2.2.2)] = AV.agg [AV.rl I (a.1), AV.rl I (a.2.1), AV.int
 IntKind.i64 (a.2.2.1), AV.int IntKind.i64 (a.2.2.2)] ∧ AV.agg [AV.rl I (a.1), AV.rl I (a.2.1), AV.int IntKind.i64 (a.2.2.1), AV.int IntKind.i64 (a.2.2.2)] = AV.agg [AV.rl I (a.1), AV.rl I (a.2.1), AV.int IntKind.i64
 (a.2.2.1), AV.int IntKind.i64 (a.2.2.2)] ∧ (okSt (a.1) ∧ eachB (a.1) sa = true ∧ eachB (a.1) r = true) ∧ ∀ (r_1 : Int), r_1 = prodM (a.1) sa r → AV.int IntKind.i64 (a.2.2.2) = AV.int IntKind.i64 (a.2.2.2) ∧ AV.int
 IntKind.i64 (↑(sa.length) : Int) = AV.int IntKind.i64 (↑(sa.length) : Int) ∧ AV.agg [AV.rl I (a.1), AV.rl I (a.2.1), AV.int IntKind.i64 (a.2.2.1), AV.int IntKind.i64 (a.2.2.2)] = AV.agg [AV.rl I (a.1), AV.rl I (a.2.1),
 AV.int IntKind.i64 (a.2.2.1), AV.int IntKind.i64 (a.2.2.2)] ∧ req (inR IntKind.i64 ((1000 : Int) * r_1)) ((okSt (a.1) ∧ eachB (a.1) sa = true ∧ eachB (a.1) (List.replicate (sa.length) (0 : Int)) = true) ∧ ∀ (r : Int), r =
 prodM (a.1) sa (List.replicate (sa.length) (0 : Int)) → AV.int IntKind.i64 (a.2.2.2) = AV.int IntKind.i64 (a.2.2.2) ∧ req (inR IntKind.i64 (r * ((1000 : Int) - a.2.2.2))) (K (decide ((1000 : Int) * r_1 ≤ r * ((1000 : Int)
 - a.2.2.2)), ())))))) := by kernel_rfl
theorem v30F (a : Au) (sa : List Int) (K : dens [L, I, I, E] → Prop) : (xfn1 Try.prog { nm := true, f := [(68, fc68), (60, fc60), (70, fc70), (74, fc74)] } 5 30 fc23 (a, sa, ()) K) =
  ((bigs a ∧ sa.length ≤ 9223372036854775807) ∧ ∀ (e : Int), e = askedV a sa → fork (e != (0 : Int)) (K ([], (0 : Int), (0 : Int), e, ())) (okA a ∧ ∀ (r : List (List Int)), r = lossL a → AV.agg [AV.rl I (a.1), AV.rl I
 (a.2.1), AV.int IntKind.i64 (a.2.2.1), AV.int IntKind.i64 (a.2.2.2)] = AV.agg [AV.rl I (a.1), AV.rl I (a.2.1), AV.int IntKind.i64 (a.2.2.1), AV.int IntKind.i64 (a.2.2.2)] ∧ (okSt (a.1) ∧ eachB (a.1) sa = true ∧ okLs a r)
 ∧ ∀ (r_1 : List Int), r_1 = worstB (a.1) sa r → req (decide ((0 : Int) ≤ (↑(sa.length) : Int) ∧ (↑(sa.length) : Int) ≤ (↑(sa.length) : Int) ∧ (8 : Int) * (↑(sa.length) : Int) ≤ (281474976710656 : Int) ∧ (↑(sa.length) :
 Int) ≤ (281474976710656 : Int))) ((okSt (a.1) ∧ eachB (a.1) sa = true ∧ eachB (a.1) r_1 = true) ∧ ∀ (r : Int), r = prodM (a.1) sa r_1 → AV.int IntKind.i64 (↑(sa.length) : Int) = AV.int IntKind.i64 (↑(sa.length) : Int) ∧
 AV.agg [AV.rl I (a.1), AV.rl I (a.2.1), AV.int IntKind.i64 (a.2.2.1), AV.int IntKind.i64 (a.2.2.2)] = AV.agg [AV.rl I (a.1), AV.rl I (a.2.1), AV.int IntKind.i64 (a.2.2.1), AV.int IntKind.i64 (a.2.2.2)] ∧ (okSt (a.1) ∧
 eachB (a.1) sa = true ∧ eachB (a.1) (List.replicate (sa.length) (0 : Int)) = true) ∧ ∀ (r_2 : Int), r_2 = prodM (a.1) sa (List.replicate (sa.length) (0 : Int)) → K (r_1, r, r_2, (0 : Int), ())))) := by kernel_rfl
theorem v32F (a : Au) (sa : List Int) (K : dens [.b, E] → Prop) : (xfn1 Try.prog { nm := true, f := [(68, fc68), (60, fc60), (62, fc62)] } 5 32 fc31 (a, sa, ()) K) =
  ((bigs a ∧ sa.length ≤ 9223372036854775807) ∧ ∀ (e : Int), e = askedV a sa → fork (e != (0 : Int)) (K (false, e, ())) (okA a ∧ ∀ (r : List (List Int)), r = lossL a → AV.agg [AV.rl I (a.1), AV.rl I (a.2.1), AV.int
 IntKind.i64 (a.2.2.1), AV.int IntKind.i64 (a.2.2.2)] = AV.agg [AV.rl I (a.1), AV.rl I (a.2.1), AV.int IntKind.i64 (a.2.2.1), AV.int IntKind.i64 (a.2.2.2)] ∧ (okA a ∧ eachB (a.1) sa = true ∧ okLs a r) ∧ ∀ (r_1 : Bool), r_1
 = findsB a sa r → K (r_1, (0 : Int), ()))) := by kernel_rfl
/-! the cheapest one -/
abbrev sh17 : SV := S [(1, .box 0 (.v TA)), (6, .v LL), (7, .v LL), (8, .v L), (9, .v I)]
structure LeI (a : Au) (ls : List (List Int)) (s : List Int) : Prop where
  each : eachB a.1 s = true
  finds : findsF a s = true
  best : ∀ l ∈ ls, findsF a l = true → costF s a.2.1 < costF l a.2.1 ∨ costF s a.2.1 = costF l a.2.1 ∧ (s = l ∨ aheadI s l = true)
abbrev lc17 : LC2 := ⟨0, sh17, 1, fun (a, ls, lo, b, i, _) Q => (okA a ∧ ls = gA a.1 [] ∧ lo = lossL a ∧ (-1 ≤ i ∧ i < ls.length) ∧ LeI a (ls.drop (i + 1).toNat) b) ∧ ∀ s, LeI a (gA a.1 []) s → Q (.exit 0) (stS 1 (S [(1, .box 0 (.v TA)), (8, .v L)]) (a, s, ()))⟩
theorem v17L (a : Au) (ls lo : List (List Int)) (b : List Int) (i : Int) (Q : AX → St → Prop) : (xloop2 Try.prog { nm := true, f := [(61, fc61), (62, fc62)] } 5 17 0 lc17 (fun _ => some (S [(1, .box 0 (.v TA)), (8, .v L)], 1)) (fun (_, _, _, _, i, _) => (i + 1).toNat) (a, ls, lo, b, i, ()) Q) =
  (fork (decide (i ≥ (0 : Int))) (req (decide ((0 : Int) ≤ i ∧ i < (↑(ls.length) : Int))) ((okA a ∧ eachB (a.1) (List.getD ls (Int.toNat i) []) = true) ∧ ∀ (r : Int), r = costF (List.getD ls (Int.toNat i) []) (a.2.1) →
 AV.agg [AV.rl I (a.1), AV.rl I (a.2.1), AV.int IntKind.i64 (a.2.2.1), AV.int IntKind.i64 (a.2.2.2)] = AV.agg [AV.rl I (a.1), AV.rl I (a.2.1), AV.int IntKind.i64 (a.2.2.1), AV.int IntKind.i64 (a.2.2.2)] ∧ (okA a ∧ eachB
 (a.1) b = true) ∧ ∀ (r_1 : Int), r_1 = costF b (a.2.1) → fork (decide (r ≤ r_1)) (req (decide ((0 : Int) ≤ i ∧ i < (↑(ls.length) : Int))) ((okA a ∧ eachB (a.1) (List.getD ls (Int.toNat i) []) = true ∧ okLs a lo) ∧ ∀ (r :
 Bool), r = findsB a (List.getD ls (Int.toNat i) []) lo → fork r (req (decide ((0 : Int) ≤ i ∧ i < (↑(ls.length) : Int))) (req (inR IntKind.i64 (i - 1)) (Int.toNat (i - 1 + (1 : SV.den (SV.slot 9 (SV.v I)))) < Int.toNat (i
 + (1 : SV.den (SV.slot 9 (SV.v I)))) ∧ LC2.spec lc17 (a, ls, lo, List.getD ls (Int.toNat i) [], i - 1, ()) Q))) (req (inR IntKind.i64 (i - 1)) (Int.toNat (i - 1 + (1 : SV.den (SV.slot 9 (SV.v I)))) < Int.toNat (i + (1 :
 SV.den (SV.slot 9 (SV.v I)))) ∧ LC2.spec lc17 (a, ls, lo, b, i - 1, ()) Q)))) (req (inR IntKind.i64 (i - 1)) (Int.toNat (i - 1 + (1 : SV.den (SV.slot 9 (SV.v I)))) < Int.toNat (i + (1 : SV.den (SV.slot 9 (SV.v I)))) ∧
 LC2.spec lc17 (a, ls, lo, b, i - 1, ()) Q)))) (Q (AX.exit 0) (stS 1 (S [(1, SV.box 0 (SV.v TA)), (8, SV.v L)]) (a, b, ())))) := by kernel_rfl
theorem v17F (a : Au) (K : dens [L, I, E] → Prop) : (xfn1 Try.prog { nm := true, f := [(29, fc28), (59, fc59 10), (60, fc60), (61, fc61)], f2 := [(26, fc26)], l2 := [(17, 0, lc17)] } 5 17 fcLeast (a, ()) K) =
  ((List.length (a.1) ≤ 9223372036854775807 ∧ List.length (a.2.1) ≤ 9223372036854775807) ∧ ∀ (e : Ty.den E), (okA a → e = (0 : Ty.den E)) → (¬okA a → e = (100 : Ty.den E)) → fork (e != (0 : Int)) (K ([], (0 : Int), e, ()))
 ((okSt (a.1) ∧ 0 ≤ List.length (a.1) ∧ List.length (a.1) < 10) ∧ ∀ (r : List (List Int)), r = gA (List.drop 0 (a.1)) [] → AV.agg [AV.rl I (a.1), AV.rl I (a.2.1), AV.int IntKind.i64 (a.2.2.1), AV.int IntKind.i64 (a.2.2.2)]
 = AV.agg [AV.rl I (a.1), AV.rl I (a.2.1), AV.int IntKind.i64 (a.2.2.1), AV.int IntKind.i64 (a.2.2.2)] ∧ okA a ∧ ∀ (r_1 : List (List Int)), r_1 = lossL a → req (inR IntKind.i64 ((↑(r.length) : Int) - 1)) ((okA a ∧ r = gA
 (a.1) [] ∧ r_1 = lossL a ∧ ((-1 : SV.den (SV.slot 9 (SV.v I))) ≤ (↑(r.length) : Int) - 1 ∧ (↑(r.length) : Int) - 1 < (↑(r.length) : SV.den (SV.slot 9 (SV.v I)))) ∧ LeI a (List.drop (Int.toNat ((↑(r.length) : Int) - 1 + (1
 : SV.den (SV.slot 9 (SV.v I))))) r) (a.1)) ∧ ∀ (s : List Int), LeI a (gA (a.1) []) s → s.length ≤ 1000 ∧ ∀ (r : List Int), r = s → AV.agg [AV.rl I (a.1), AV.rl I (a.2.1), AV.int IntKind.i64 (a.2.2.1), AV.int IntKind.i64
 (a.2.2.2)] = AV.agg [AV.rl I (a.1), AV.rl I (a.2.1), AV.int IntKind.i64 (a.2.2.1), AV.int IntKind.i64 (a.2.2.2)] ∧ (okA a ∧ eachB (a.1) s = true) ∧ ∀ (r_2 : Int), r_2 = costF s (a.2.1) → req (decide (0 + r.length ≤
 r.length)) (K (seg 0 (r.length) r, r_2, (0 : Int), ()))))) := by kernel_rfl
/-! the statements -/
abbrev fc5 : FC := ⟨[.v TA, .v L, .v L], [.b], fun x K => (bigs x.1 ∧ x.2.1.length ≤ big ∧ x.2.2.1.length ≤ big) ∧ K (true, ())⟩
theorem v5F (a : Au) (sa lo : List Int) (K : dens [.b] → Prop) : (xfn1 Try.prog { nm := true, f := [(20, fc20), (27, fc20), (28, fc28), (29, fc28), (23, fc23), (30, fc23), (31, fc31), (32, fc31), (18, fcSame), (19, fcWorks)] } 5 5 fc5 (a, sa, lo, ()) K) =
  ((bigs a ∧ sa.length ≤ 9223372036854775807 ∧ lo.length ≤ 9223372036854775807) ∧ ∀ (n m e : Int), (n, m, e) = missF a sa lo → (bigs a ∧ sa.length ≤ 9223372036854775807 ∧ lo.length ≤ 9223372036854775807) ∧ ∀ (n_1 m_1 e_1 :
 Int), (n_1, m_1, e_1) = missF a sa lo → fork (n != n_1) (K (false, ())) (fork (m != m_1) (K (false, ())) (fork (e != e_1) (K (false, ())) ((List.length (a.1) ≤ 9223372036854775807 ∧ List.length (a.2.1) ≤
 9223372036854775807) ∧ ∀ (e : Ty.den E), (okA a → e = (0 : Ty.den E)) → (¬okA a → e = (100 : Ty.den E)) → AV.agg [AV.rl I (a.1), AV.rl I (a.2.1), AV.int IntKind.i64 (a.2.2.1), AV.int IntKind.i64 (a.2.2.2)] = AV.agg [AV.rl
 I (a.1), AV.rl I (a.2.1), AV.int IntKind.i64 (a.2.2.1), AV.int IntKind.i64 (a.2.2.2)] ∧ (List.length (a.1) ≤ 9223372036854775807 ∧ List.length (a.2.1) ≤ 9223372036854775807) ∧ ∀ (e_2 : Ty.den E), (okA a → e_2 = (0 :
 Ty.den E)) → (¬okA a → e_2 = (100 : Ty.den E)) → fork (e != e_2) (K (false, ())) ((bigs a ∧ sa.length ≤ 9223372036854775807) ∧ ∀ (l : List Int) (n m e : Int), (l, n, m, e) = worstV a sa → (bigs a ∧ sa.length ≤
 9223372036854775807) ∧ ∀ (l_1 : List Int) (n_2 m_2 e_3 : Int), (l_1, n_2, m_2, e_3) = worstV a sa → l.length ≤ 9223372036854775807 ∧ ∀ (r : Bool), r = decide (l = l_1) → fork (!r) (K (false, ())) (fork (n != n_2) (K
 (false, ())) (fork (m != m_2) (K (false, ())) (fork (e != e_3) (K (false, ())) ((bigs a ∧ sa.length ≤ 9223372036854775807) ∧ ∀ (b : Bool) (e : Int), (b, e) = findsV a sa → (bigs a ∧ sa.length ≤ 9223372036854775807) ∧ ∀
 (b_1 : Bool) (e_4 : Int), (b_1, e_4) = findsV a sa → fork (b == b_1) (fork (e == e_4) (K (true, ())) (K (false, ()))) (K (false, ()))))))))))) := by kernel_rfl
abbrev fc3 : FC := ⟨[.v TA], [.b], fun x K => bigs x.1 ∧ K (true, ())⟩
theorem v3F (a : Au) (K : dens [.b] → Prop) : (xfn1 Try.prog { nm := true, f := [(16, fcLeast), (17, fcLeast), (18, fcSame), (19, fcWorks)] } 5 3 fc3 (a, ()) K) =
  (bigs a ∧ ∀ (s : List Int) (c e : Int), (s, c, e) = leastV a → bigs a ∧ ∀ (s_1 : List Int) (c_1 e_1 : Int), (s_1, c_1, e_1) = leastV a → s.length ≤ 9223372036854775807 ∧ ∀ (r : Bool), r = decide (s = s_1) → fork r (fork
 (c == c_1) (fork (e == e_1) (K (true, ())) (K (false, ()))) (K (false, ()))) (K (false, ()))) := by kernel_rfl
end Go.P10
