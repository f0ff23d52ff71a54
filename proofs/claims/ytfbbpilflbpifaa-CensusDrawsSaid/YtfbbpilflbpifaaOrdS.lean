/- Orders: the reference: states and what is to be shown, reduced. No conditions. -/
import Derived.Test.YtfbbpilflbpifaaFairP
set_option linter.unusedSimpArgs false
set_option linter.unusedVariables false
set_option linter.constructorNameAsVariable false
set_option maxRecDepth 100000
set_option maxHeartbeats 2000000
namespace Go.P10
open Go.Lom Go.Proofs Go

/-! factorial -/
abbrev sh78 : SV := S [(0, .v I), (3, .v I), (4, .v I)]
abbrev sh78e : SV := S [(3, .v I)]
abbrev lc78 : LC2 := ⟨0, sh78, 0, fun (n, x, i, _) Q => (n ≤ 8 ∧ (2 ≤ i ∧ i ≤ max n 1 + 1) ∧ x = facI (i - 1).toNat) ∧ ∀ r, r = facI n.toNat → Q (.exit 0) (stS 0 sh78e (r, ()))⟩
theorem v78L (n x i : Int) (Q : AX → St → Prop) : (xloop2 Try.prog {} 5 78 0 lc78 (fun _ => some (sh78e, 0)) (fun (n, _, i, _) => (n + 1 - i).toNat) (n, x, i, ()) Q) =
  (fork (decide (i ≤ n)) (req (inR IntKind.i64 (x * i)) (req (inR IntKind.i64 (i + 1)) (Int.toNat (n + (1 : SV.den (SV.slot 0 (SV.v I))) - (i + 1)) < Int.toNat (n + (1 : SV.den (SV.slot 0 (SV.v I))) - i) ∧ LC2.spec lc78 (n,
 x * i, i + 1, ()) Q))) (Q (AX.exit 0) (stS 0 sh78e (x, ())))) := by kernel_rfl
abbrev fc78 : FC := ⟨[.v I], [I], fun x K => x.1 ≤ 8 ∧ ∀ r, r = facI x.1.toNat → K (r, ())⟩
theorem v78F (n : Int) (K : dens [I] → Prop) : (xfn1 Try.prog { l2 := [(78, 0, lc78)] } 5 78 fc78 (n, ()) K) =
  ((n ≤ (8 : SV.den (SV.slot 0 (SV.v I))) ∧ ((2 : SV.den (SV.slot 4 (SV.v I))) ≤ (2 : Int) ∧ (2 : Int) ≤ Max.max n (1 : SV.den (SV.slot 0 (SV.v I))) + (1 : SV.den (SV.slot 4 (SV.v I)))) ∧ (1 : Int) = (1 : Int)) ∧ ∀ (r :
 Int), r = facI (Int.toNat n) → K (r, ())) := by kernel_rfl
/-! sums -/
abbrev shSm : SV := S [(0, .v L), (3, .v I), (4, .v I)]
abbrev shSmE : SV := S [(3, .v I)]
def smallL (l : List Int) : Prop := l.length ≤ 1000 ∧ ∀ x ∈ l, 0 ≤ x ∧ x ≤ 1000000
abbrev lcSm : LC2 := ⟨0, shSm, 0, fun (l, n, i, _) Q => (smallL l ∧ (0 ≤ i ∧ i ≤ l.length) ∧ (0 ≤ n ∧ n ≤ 1000000 * i)) ∧ ∀ r, r = n + (l.drop i.toNat).sum → Q (.exit 0) (stS 0 shSmE (r, ()))⟩
theorem vSmL (l : List Int) (n i : Int) (Q : AX → St → Prop) : (xloop2 Try.prog {} 5 24 0 lcSm (fun _ => some (shSmE, 0)) (fun (l, _, i, _) => mL l i) (l, n, i, ()) Q) =
  (fork (decide (i < (↑(l.length) : Int))) (req (decide ((0 : Int) ≤ i ∧ i < (↑(l.length) : Int))) (req (inR IntKind.i64 (n + List.getD l (Int.toNat i) (0 : Int))) (req (inR IntKind.i64 (i + 1)) (mL l (i + 1) < mL l i ∧
 LC2.spec lcSm (l, n + List.getD l (Int.toNat i) (0 : Int), i + 1, ()) Q)))) (Q (AX.exit 0) (stS 0 shSmE (n, ())))) := by kernel_rfl
abbrev fcSm : FC := ⟨[.v L], [I], fun x K => smallL x.1 ∧ ∀ r, r = x.1.sum → K (r, ())⟩
theorem vSmF (l : List Int) (K : dens [I] → Prop) : (xfn1 Try.prog { l2 := [(24, 0, lcSm)] } 5 24 fcSm (l, ()) K) =
  ((smallL l ∧ ((0 : SV.den (SV.slot 4 (SV.v I))) ≤ (0 : Int) ∧ (0 : Int) ≤ (↑(l.length) : SV.den (SV.slot 4 (SV.v I)))) ∧ (0 : SV.den (SV.slot 3 (SV.v I))) ≤ (0 : Int) ∧ (0 : Int) ≤ (1000000 : SV.den (SV.slot 3 (SV.v I)))
 * (0 : Int)) ∧ ∀ (r : SV.den (SV.slot ((3, SV.v I).1) ((3, SV.v I).2))), r = (0 : Int) + List.sum (List.drop 0 l) → K (r, ())) := by kernel_rfl
/-! the order with a rank -/
abbrev fc26p : FC2 := ⟨A [.pre 0 I], 1, A [.pre 0 I, .own 1 I], 2, fun (z, _) K => (z.2 ≤ z.1.length ∧ z.1.length ≤ 1000) ∧ ∀ r : List Int, r = z.1.take z.2 → K (z, r, ())⟩
theorem v26P (z : List Int) (n : Nat) (K : fc26p.post.den → Prop) : (xfn2 Try.prog {} 5 26 fc26p ((z, n), ()) K) =
  (req (decide (0 + n ≤ z.length)) (req (fitsN (0 + List.length (seg 0 n z)) 8) (req (Nat.ble n (z.length)) (req (decide (0 + (0 + List.length (seg 0 n z)) ≤ List.length ([] ++ seg 0 n z))) (K ((z, n), seg 0 (0 +
 List.length (seg 0 n z)) ([] ++ seg 0 n z), ())))))) := by kernel_rfl
abbrev sh79a : SV := S [(0, .v I), (1, .v I), (5, .own 0 I), (6, .own 1 I), (7, .v I)]
abbrev sh79ae : SV := S [(0, .v I), (1, .v I), (5, .own 0 I), (6, .own 1 I)]
abbrev lc79a : LC2 := ⟨0, sh79a, 2, fun (n, r, l, o, i, _) Q => (1 ≤ n ∧ n ≤ 8 ∧ (0 ≤ i ∧ i ≤ n) ∧ l = upTo i.toNat) ∧ ∀ l', l' = upTo n.toNat → Q (.exit 0) (stS 2 sh79ae (n, r, l', o, ()))⟩
theorem v79A (n r : Int) (l o : List Int) (i : Int) (Q : AX → St → Prop) : (xloop2 Try.prog { nm := true } 5 79 0 lc79a (fun _ => some (sh79ae, 2)) (fun (n, _, _, _, i, _) => (n - i).toNat) (n, r, l, o, i, ()) Q) =
  (fork (decide (i < n)) (req (decide (0 + l.length ≤ l.length)) (req (fitsN (l.length + 1) 8) (∀ (ys : List (Ty.den (Ty.i IntKind.i64))), ys = seg 0 (l.length) l ++ [i] → req (inR IntKind.i64 (i + 1)) (req (decide (0 +
 (l.length + 1) ≤ ys.length)) (req (decide (0 + o.length ≤ o.length)) (Int.toNat (n - (i + 1)) < Int.toNat (n - i) ∧ LC2.spec lc79a (n, r, seg 0 (l.length + 1) ys, seg 0 (o.length) o, i + 1, ()) Q)))))) (req (decide (0 +
 l.length ≤ l.length)) (req (decide (0 + o.length ≤ o.length)) (Q (AX.exit 0) (stS 2 sh79ae (n, r, seg 0 (l.length) l, seg 0 (o.length) o, ())))))) := by kernel_rfl
abbrev sh79b : SV := S [(0, .v I), (1, .v I), (5, .own 0 I), (6, .own 1 I), (8, .v I)]
abbrev lc79b : LC2 := ⟨0, sh79b, 2, fun (n, r, l, o, i, _) Q => (1 ≤ n ∧ n ≤ 8 ∧ (0 ≤ i ∧ i ≤ n) ∧ (l.length : Int) = n - i ∧ (o.length : Int) = i ∧ (0 ≤ r ∧ r < facI (n - i).toNat)) ∧ ∀ o' : List Int, o' = o ++ takeR (n - i).toNat l r → Q (.exit 2) (stS 2 (S [(6, .own 1 I)]) (o', ()))⟩
theorem v79B (n r : Int) (l o : List Int) (i : Int) (Q : AX → St → Prop) : (xloop2 Try.prog { nm := true, f := [(78, fc78)], f2 := [(26, fc26p)] } 5 79 1 lc79b (fun _ => some (S [(6, .own 1 I)], 2)) (fun (n, _, _, _, i, _) => (n - i).toNat) (n, r, l, o, i, ()) Q) =
  (fork (decide (i < n)) (req (inR IntKind.i64 (n - 1)) (req (inR IntKind.i64 (n - 1 - i)) (n - 1 - i ≤ (8 : AT.den (AT.v I)) ∧ ∀ (r_1 : Int), r_1 = facI (Int.toNat (n - 1 - i)) → req (decide (r_1 ≠ (0 : Int))) (req (inR
 IntKind.i64 (Int.tdiv r r_1)) (req (inR IntKind.i64 (n - 1)) (req (inR IntKind.i64 (n - 1 - i)) (n - 1 - i ≤ (8 : AT.den (AT.v I)) ∧ ∀ (r_2 : Int), r_2 = facI (Int.toNat (n - 1 - i)) → req (decide (r_2 ≠ (0 : Int))) (req
 (decide ((0 : Int) ≤ Int.tdiv r r_1 ∧ Int.tdiv r r_1 < (↑(l.length) : Int))) (req (decide (Int.toNat (Int.tdiv r r_1) + 0 < l.length)) (req (decide (0 + o.length ≤ o.length)) (req (fitsN (o.length + 1) 8) (∀ (ys : List
 (Ty.den (Ty.i IntKind.i64))), ys = seg 0 (o.length) o ++ [List.getD l (Int.toNat (Int.tdiv r r_1) + 0) (0 : Int)] → req (decide ((0 : Int) ≤ (0 : Int) ∧ (0 : Int) ≤ Int.tdiv r r_1 ∧ Int.tdiv r r_1 ≤ (↑(l.length) : Int) ∧
 l.length ≤ l.length)) (req (inR IntKind.i64 (Int.tdiv r r_1 + 1)) (req (decide ((0 : Int) ≤ Int.tdiv r r_1 + 1 ∧ Int.tdiv r r_1 + 1 ≤ (↑(l.length) : Int) ∧ (↑(l.length) : Int) ≤ (↑(l.length) : Int) ∧ l.length ≤ l.length))
 (req (Nat.ble (Int.toNat (Int.tdiv r r_1)) (l.length)) ((Int.toNat (Int.tdiv r r_1) ≤ l.length ∧ l.length ≤ 1000) ∧ ∀ (r_3 : List Int), r_3 = List.take (Int.toNat (Int.tdiv r r_1)) l → req (decide (Int.toNat (Int.tdiv r
 r_1 + 1) + (l.length - Int.toNat (Int.tdiv r r_1 + 1)) ≤ l.length)) (req (decide (0 + r_3.length ≤ r_3.length)) (req (fitsN (r_3.length + List.length (seg (Int.toNat (Int.tdiv r r_1 + 1)) (l.length - Int.toNat (Int.tdiv r
 r_1 + 1)) l)) 8) (∀ (ys_1 : List (Ty.den (Ty.i IntKind.i64))), ys_1 = seg 0 (r_3.length) r_3 ++ seg (Int.toNat (Int.tdiv r r_1 + 1)) (l.length - Int.toNat (Int.tdiv r r_1 + 1)) l → req (inR IntKind.i64 (i + 1)) (req
 (decide (0 + (r_3.length + List.length (seg (Int.toNat (Int.tdiv r r_1 + 1)) (l.length - Int.toNat (Int.tdiv r r_1 + 1)) l)) ≤ ys_1.length)) (req (decide (0 + (o.length + 1) ≤ ys.length)) (Int.toNat (n - (i + 1)) <
 Int.toNat (n - i) ∧ LC2.spec lc79b (n, Int.tmod r r_2, seg 0 (r_3.length + List.length (seg (Int.toNat (Int.tdiv r r_1 + 1)) (l.length - Int.toNat (Int.tdiv r r_1 + 1)) l)) ys_1, seg 0 (o.length + 1) ys, i + 1, ())
 Q)))))))))))))))))))))) (req (decide (0 + o.length ≤ o.length)) (Q (AX.exit 2) (stS 2 (S [(6, SV.own 1 I)]) (seg 0 (o.length) o, ()))))) := by kernel_rfl
abbrev fc79 : FC := ⟨[.v I, .v I], [L], fun x K => (1 ≤ x.1 ∧ x.1 ≤ 8 ∧ 0 ≤ x.2.1 ∧ x.2.1 < facI x.1.toNat) ∧ ∀ o, o = ordF x.1 x.2.1 → K (o, ())⟩
theorem v79F (n r : Int) (K : dens [L] → Prop) : (xfn1 Try.prog { nm := true, l2 := [(79, 0, lc79a), (79, 1, lc79b)] } 5 79 fc79 (n, r, ()) K) =
  (((1 : SV.den (SV.slot 0 (SV.v I))) ≤ n ∧ n ≤ (8 : SV.den (SV.slot 0 (SV.v I))) ∧ ((0 : SV.den (SV.slot 7 (SV.v I))) ≤ (0 : Int) ∧ (0 : Int) ≤ n) ∧ [] = upTo 0) ∧ ∀ (l' : List Int), l' = upTo (Int.toNat n) → req (decide
 (0 + l'.length ≤ l'.length)) (((1 : SV.den (SV.slot 0 (SV.v I))) ≤ n ∧ n ≤ (8 : SV.den (SV.slot 0 (SV.v I))) ∧ ((0 : SV.den (SV.slot 8 (SV.v I))) ≤ (0 : Int) ∧ (0 : Int) ≤ n) ∧ (↑(List.length (seg 0 (l'.length) l')) :
 Int) = n - 0 ∧ (0 : Int) = (0 : Int) ∧ (0 : SV.den (SV.slot 1 (SV.v I))) ≤ r ∧ r < facI (Int.toNat (n - 0))) ∧ ∀ (o' : List Int), o' = [] ++ takeR (Int.toNat (n - 0)) (seg 0 (l'.length) l') r → req (decide (0 + o'.length
 ≤ o'.length)) (K (seg 0 (o'.length) o', ())))) := by kernel_rfl
theorem v38F (n r : Int) (K : dens [L, E] → Prop) : (xfn1 Try.prog { nm := true, f := [(78, fc78), (79, fc79)] } 5 38 fc37 (n, r, ()) K) =
  (fork (decide ((1 : Int) ≤ n)) (fork (!decide (n ≤ (8 : Int))) (K ([], (104 : Int), ())) (n ≤ (8 : AT.den (AT.v I)) ∧ ∀ (r_1 : Int), r_1 = facI (Int.toNat n) → req (inR IntKind.i64 (r_1 - 1)) (fork (decide ((0 : Int) ≤
 r)) (fork (!decide (r ≤ r_1 - 1)) (K ([], (7 : Int), ())) (((1 : AT.den (AT.v I)) ≤ n ∧ n ≤ (8 : AT.den (AT.v I)) ∧ (0 : AT.den (AT.v I)) ≤ r ∧ r < facI (Int.toNat n)) ∧ ∀ (o : List Int), o = ordF n r → K (o, (0 : Int),
 ()))) (K ([], (7 : Int), ()))))) (K ([], (104 : Int), ()))) := by kernel_rfl
/-! Draw -/
abbrev sh40 : SV := S [(0, .v I), (1, .v I), (2, .v L), (8, .v .b), (9, .v I)]
abbrev sh40e : SV := S [(0, .v I), (1, .v I), (2, .v L), (8, .v .b)]
abbrev lc40 : LC2 := ⟨0, sh40, 0, fun (n, m, l, ok, i, _) Q => ((0 ≤ i) ∧ (ok = true → (1 ≤ n ∧ n ≤ 8) ∧ l.length ≤ 16 ∧ i ≤ l.length)) ∧ ∀ b, b = (ok && (l.drop i.toNat).all (inF n)) → Q (.exit 0) (stS 0 sh40e (n, m, l, b, ()))⟩
theorem v40L (n m : Int) (l : List Int) (ok : Bool) (i : Int) (Q : AX → St → Prop) : (xloop2 Try.prog { nm := true, f := [(78, fc78)] } 5 40 0 lc40 (fun _ => some (sh40e, 0)) (fun (_, _, l, _, i, _) => (l.length + 1 - i).toNat) (n, m, l, ok, i, ()) Q) =
  (fork ok (fork (decide (i < (↑(l.length) : Int))) (req (decide ((0 : Int) ≤ i ∧ i < (↑(l.length) : Int))) (n ≤ (8 : AT.den (AT.v I)) ∧ ∀ (r : Int), r = facI (Int.toNat n) → AV.int IntKind.i64 (List.getD l (Int.toNat i) (0
 : Int)) = AV.int IntKind.i64 (List.getD l (Int.toNat i) (0 : Int)) ∧ req (inR IntKind.i64 (r - 1)) (fork (decide ((0 : Int) ≤ List.getD l (Int.toNat i) (0 : Int))) (req (inR IntKind.i64 (i + 1)) (Int.toNat ((↑(l.length) :
 SV.den (SV.slot 9 (SV.v I))) + (1 : SV.den (SV.slot 9 (SV.v I))) - (i + 1)) < Int.toNat ((↑(l.length) : SV.den (SV.slot 9 (SV.v I))) + (1 : SV.den (SV.slot 9 (SV.v I))) - i) ∧ LC2.spec lc40 (n, m, l, decide (List.getD l
 (Int.toNat i) (0 : Int) ≤ r - 1), i + 1, ()) Q)) (req (inR IntKind.i64 (i + 1)) (Int.toNat ((↑(l.length) : SV.den (SV.slot 9 (SV.v I))) + (1 : SV.den (SV.slot 9 (SV.v I))) - (i + 1)) < Int.toNat ((↑(l.length) : SV.den
 (SV.slot 9 (SV.v I))) + (1 : SV.den (SV.slot 9 (SV.v I))) - i) ∧ LC2.spec lc40 (n, m, l, false, i + 1, ()) Q))))) (Q (AX.exit 0) (stS 0 sh40e (n, m, l, ok, ())))) (Q (AX.exit 0) (stS 0 sh40e (n, m, l, ok, ())))) := by kernel_rfl
theorem v40F (n m : Int) (l : List Int) (K : dens [L, E] → Prop) : (xfn1 Try.prog { nm := true, f := [(24, fcSm), (25, fc25), (78, fc78), (79, fc79)], l2 := [(40, 0, lc40)] } 5 40 fc39 (n, m, l, ()) K) =
  (fork (decide ((1 : Int) ≤ n)) (fork (decide (n ≤ (8 : Int))) (fork (decide ((1 : Int) ≤ (↑(l.length) : Int))) (((0 : SV.den (SV.slot 9 (SV.v I))) ≤ (0 : Int) ∧ (decide ((↑(l.length) : Int) ≤ (16 : Int)) = true → ((1 :
 SV.den (SV.slot 0 (SV.v I))) ≤ n ∧ n ≤ (8 : SV.den (SV.slot 0 (SV.v I)))) ∧ l.length ≤ 16 ∧ (0 : Int) ≤ (↑(l.length) : SV.den (SV.slot 9 (SV.v I))))) ∧ ∀ (b : Bool), b = (decide ((↑(l.length) : Int) ≤ (16 : Int)) &&
 List.all (List.drop 0 l) (inF n)) → fork (!b) (K ([], (104 : Int), ())) (fork (decide ((0 : Int) ≤ m)) (fork (!decide (m ≤ n)) (K ([], (7 : Int), ())) (smallL l ∧ ∀ (r : Ty.den I), r = List.sum l → n ≤ (8 : AT.den (AT.v
 I)) ∧ ∀ (r_1 : Int), r_1 = facI (Int.toNat n) → (inR IntKind.i64 r = true ∧ (1 : AT.den (AT.v I)) ≤ r_1 ∧ r_1 ≤ (1000000 : AT.den (AT.v I))) ∧ ∀ (r_2 : AT.den (AT.v I)), r_2 = r % r_1 → ((1 : AT.den (AT.v I)) ≤ n ∧ n ≤ (8
 : AT.den (AT.v I)) ∧ (0 : AT.den (AT.v I)) ≤ r_2 ∧ r_2 < facI (Int.toNat n)) ∧ ∀ (o : List Int), o = ordF n r_2 → req (decide ((0 : Int) ≤ (0 : Int) ∧ (0 : Int) ≤ m ∧ m ≤ (↑(o.length) : Int))) (K (List.drop 0 (List.take
 (Int.toNat m) o), (0 : Int), ())))) (K ([], (7 : Int), ())))) (((0 : SV.den (SV.slot 9 (SV.v I))) ≤ (0 : Int) ∧ (false = true → ((1 : SV.den (SV.slot 0 (SV.v I))) ≤ n ∧ n ≤ (8 : SV.den (SV.slot 0 (SV.v I)))) ∧ l.length ≤
 16 ∧ (0 : Int) ≤ (↑(l.length) : SV.den (SV.slot 9 (SV.v I))))) ∧ ∀ (b : Bool), b = (false && List.all (List.drop 0 l) (inF n)) → fork (!b) (K ([], (104 : Int), ())) (fork (decide ((0 : Int) ≤ m)) (fork (!decide (m ≤ n))
 (K ([], (7 : Int), ())) (smallL l ∧ ∀ (r : Ty.den I), r = List.sum l → n ≤ (8 : AT.den (AT.v I)) ∧ ∀ (r_1 : Int), r_1 = facI (Int.toNat n) → (inR IntKind.i64 r = true ∧ (1 : AT.den (AT.v I)) ≤ r_1 ∧ r_1 ≤ (1000000 :
 AT.den (AT.v I))) ∧ ∀ (r_2 : AT.den (AT.v I)), r_2 = r % r_1 → ((1 : AT.den (AT.v I)) ≤ n ∧ n ≤ (8 : AT.den (AT.v I)) ∧ (0 : AT.den (AT.v I)) ≤ r_2 ∧ r_2 < facI (Int.toNat n)) ∧ ∀ (o : List Int), o = ordF n r_2 → req
 (decide ((0 : Int) ≤ (0 : Int) ∧ (0 : Int) ≤ m ∧ m ≤ (↑(o.length) : Int))) (K (List.drop 0 (List.take (Int.toNat m) o), (0 : Int), ())))) (K ([], (7 : Int), ()))))) (((0 : SV.den (SV.slot 9 (SV.v I))) ≤ (0 : Int) ∧ (false
 = true → ((1 : SV.den (SV.slot 0 (SV.v I))) ≤ n ∧ n ≤ (8 : SV.den (SV.slot 0 (SV.v I)))) ∧ l.length ≤ 16 ∧ (0 : Int) ≤ (↑(l.length) : SV.den (SV.slot 9 (SV.v I))))) ∧ ∀ (b : Bool), b = (false && List.all (List.drop 0 l)
 (inF n)) → fork (!b) (K ([], (104 : Int), ())) (fork (decide ((0 : Int) ≤ m)) (fork (!decide (m ≤ n)) (K ([], (7 : Int), ())) (smallL l ∧ ∀ (r : Ty.den I), r = List.sum l → n ≤ (8 : AT.den (AT.v I)) ∧ ∀ (r_1 : Int), r_1 =
 facI (Int.toNat n) → (inR IntKind.i64 r = true ∧ (1 : AT.den (AT.v I)) ≤ r_1 ∧ r_1 ≤ (1000000 : AT.den (AT.v I))) ∧ ∀ (r_2 : AT.den (AT.v I)), r_2 = r % r_1 → ((1 : AT.den (AT.v I)) ≤ n ∧ n ≤ (8 : AT.den (AT.v I)) ∧ (0 :
 AT.den (AT.v I)) ≤ r_2 ∧ r_2 < facI (Int.toNat n)) ∧ ∀ (o : List Int), o = ordF n r_2 → req (decide ((0 : Int) ≤ (0 : Int) ∧ (0 : Int) ≤ m ∧ m ≤ (↑(o.length) : Int))) (K (List.drop 0 (List.take (Int.toNat m) o), (0 :
 Int), ())))) (K ([], (7 : Int), ()))))) (((0 : SV.den (SV.slot 9 (SV.v I))) ≤ (0 : Int) ∧ (false = true → ((1 : SV.den (SV.slot 0 (SV.v I))) ≤ n ∧ n ≤ (8 : SV.den (SV.slot 0 (SV.v I)))) ∧ l.length ≤ 16 ∧ (0 : Int) ≤
 (↑(l.length) : SV.den (SV.slot 9 (SV.v I))))) ∧ ∀ (b : Bool), b = (false && List.all (List.drop 0 l) (inF n)) → fork (!b) (K ([], (104 : Int), ())) (fork (decide ((0 : Int) ≤ m)) (fork (!decide (m ≤ n)) (K ([], (7 : Int),
 ())) (smallL l ∧ ∀ (r : Ty.den I), r = List.sum l → n ≤ (8 : AT.den (AT.v I)) ∧ ∀ (r_1 : Int), r_1 = facI (Int.toNat n) → (inR IntKind.i64 r = true ∧ (1 : AT.den (AT.v I)) ≤ r_1 ∧ r_1 ≤ (1000000 : AT.den (AT.v I))) ∧ ∀
 (r_2 : AT.den (AT.v I)), r_2 = r % r_1 → ((1 : AT.den (AT.v I)) ≤ n ∧ n ≤ (8 : AT.den (AT.v I)) ∧ (0 : AT.den (AT.v I)) ≤ r_2 ∧ r_2 < facI (Int.toNat n)) ∧ ∀ (o : List Int), o = ordF n r_2 → req (decide ((0 : Int) ≤ (0 :
 Int) ∧ (0 : Int) ≤ m ∧ m ≤ (↑(o.length) : Int))) (K (List.drop 0 (List.take (Int.toNat m) o), (0 : Int), ())))) (K ([], (7 : Int), ()))))) := by kernel_rfl
/-! Rank -/
abbrev sh36a : SV := S [(0, .v L), (4, .v I), (5, .v .b), (6, .v I)]
abbrev sh36ae : SV := S [(0, .v L), (4, .v I), (5, .v .b)]
abbrev lc36a : LC2 := ⟨0, sh36a, 0, fun (l, n, ok, i, _) Q => (n = l.length ∧ 0 ≤ i ∧ (ok = true → (1 ≤ l.length ∧ l.length ≤ 8) ∧ i ≤ l.length)) ∧ ∀ b, b = (ok && goR l.length (l.take i.toNat) (l.drop i.toNat)) → Q (.exit 0) (stS 0 sh36ae (l, n, b, ()))⟩
theorem v36A (l : List Int) (n : Int) (ok : Bool) (i : Int) (Q : AX → St → Prop) : (xloop2 Try.prog { nm := true, f := [(41, fc41)] } 5 36 0 lc36a (fun _ => some (sh36ae, 0)) (fun (l, _, _, i, _) => (l.length + 1 - i).toNat) (l, n, ok, i, ()) Q) =
  (fork ok (fork (decide (i < n)) (req (decide ((0 : Int) ≤ i ∧ i < (↑(l.length) : Int))) (req (inR IntKind.i64 (n - 1)) (fork (decide ((0 : Int) ≤ List.getD l (Int.toNat i) (0 : Int))) (fork (decide (List.getD l (Int.toNat
 i) (0 : Int) ≤ n - 1)) (req (decide ((0 : Int) ≤ i ∧ i < (↑(l.length) : Int))) (l.length ≤ 9223372036854775807 ∧ req (inR IntKind.i64 (i + 1)) (Int.toNat ((↑(l.length) : SV.den (SV.slot 6 (SV.v I))) + (1 : SV.den (SV.slot
 6 (SV.v I))) - (i + 1)) < Int.toNat ((↑(l.length) : SV.den (SV.slot 6 (SV.v I))) + (1 : SV.den (SV.slot 6 (SV.v I))) - i) ∧ LC2.spec lc36a (l, n, idxF (fun x => x == List.getD l (Int.toNat i) (0 : Int)) l (0 : Int) == i,
 i + 1, ()) Q))) (req (inR IntKind.i64 (i + 1)) (Int.toNat ((↑(l.length) : SV.den (SV.slot 6 (SV.v I))) + (1 : SV.den (SV.slot 6 (SV.v I))) - (i + 1)) < Int.toNat ((↑(l.length) : SV.den (SV.slot 6 (SV.v I))) + (1 : SV.den
 (SV.slot 6 (SV.v I))) - i) ∧ LC2.spec lc36a (l, n, false, i + 1, ()) Q))) (req (inR IntKind.i64 (i + 1)) (Int.toNat ((↑(l.length) : SV.den (SV.slot 6 (SV.v I))) + (1 : SV.den (SV.slot 6 (SV.v I))) - (i + 1)) < Int.toNat
 ((↑(l.length) : SV.den (SV.slot 6 (SV.v I))) + (1 : SV.den (SV.slot 6 (SV.v I))) - i) ∧ LC2.spec lc36a (l, n, false, i + 1, ()) Q))))) (Q (AX.exit 0) (stS 0 sh36ae (l, n, ok, ())))) (Q (AX.exit 0) (stS 0 sh36ae (l, n, ok,
 ())))) := by kernel_rfl
abbrev sh36b : SV := S [(0, .v L), (4, .v I), (7, .v I), (8, .v I)]
abbrev sh36c : SV := S [(0, .v L), (4, .v I), (7, .v I), (8, .v I), (9, .v I), (10, .v I)]
abbrev sh36ce : SV := S [(0, .v L), (4, .v I), (7, .v I), (8, .v I), (9, .v I)]
abbrev lc36c : LC2 := ⟨0, sh36c, 0, fun (l, n, r, i, s, k, _) Q => (n = l.length ∧ l.length ≤ 8 ∧ (0 ≤ i ∧ i < l.length) ∧ (0 ≤ k ∧ k ≤ l.length) ∧ (0 ≤ s ∧ s ≤ k)) ∧ ∀ s', s' = s + lessN (l.getD i.toNat 0) (l.drop k.toNat) → Q (.exit 4) (stS 0 sh36ce (l, n, r, i, s', ()))⟩
theorem v36C (l : List Int) (n r i s k : Int) (Q : AX → St → Prop) : (xloop2 Try.prog { nm := true } 5 36 2 lc36c (fun _ => some (sh36ce, 0)) (fun (l, _, _, _, _, k, _) => mL l k) (l, n, r, i, s, k, ()) Q) =
  (fork (decide (k < n)) (req (decide ((0 : Int) ≤ k ∧ k < (↑(l.length) : Int))) (req (decide ((0 : Int) ≤ i ∧ i < (↑(l.length) : Int))) (fork (decide (List.getD l (Int.toNat k) (0 : Int) < List.getD l (Int.toNat i) (0 :
 Int))) (req (inR IntKind.i64 (s + 1)) (req (inR IntKind.i64 (k + 1)) (mL l (k + 1) < mL l k ∧ LC2.spec lc36c (l, n, r, i, s + 1, k + 1, ()) Q))) (req (inR IntKind.i64 (k + 1)) (mL l (k + 1) < mL l k ∧ LC2.spec lc36c (l,
 n, r, i, s, k + 1, ()) Q))))) (Q (AX.exit 4) (stS 0 sh36ce (l, n, r, i, s, ())))) := by kernel_rfl
abbrev lc36b : LC2 := ⟨0, sh36b, 0, fun (l, n, r, i, _) Q => (n = l.length ∧ l.length ≤ 8 ∧ (0 ≤ i ∧ i ≤ l.length) ∧ (0 ≤ r ∧ r ≤ 40320 * (8 * i))) ∧ ∀ r', r' = r + rankL (l.drop i.toNat) → Q (.exit 2) (stS 0 (S [(7, .v I)]) (r', ()))⟩
theorem v36B (l : List Int) (n r i : Int) (Q : AX → St → Prop) : (xloop2 Try.prog { nm := true, f := [(78, fc78)], l2 := [(36, 2, lc36c)] } 5 36 1 lc36b (fun _ => some (S [(7, .v I)], 0)) (fun (l, _, _, i, _) => mL l i) (l, n, r, i, ()) Q) =
  (fork (decide (i < n)) (req (inR IntKind.i64 (i + 1)) ((n = (↑(l.length) : SV.den (SV.slot 4 (SV.v I))) ∧ l.length ≤ 8 ∧ ((0 : SV.den (SV.slot 8 (SV.v I))) ≤ i ∧ i < (↑(l.length) : SV.den (SV.slot 8 (SV.v I)))) ∧ ((0 :
 SV.den (SV.slot 10 (SV.v I))) ≤ i + 1 ∧ i + 1 ≤ (↑(l.length) : SV.den (SV.slot 10 (SV.v I)))) ∧ (0 : SV.den (SV.slot 9 (SV.v I))) ≤ (0 : Int) ∧ (0 : Int) ≤ i + 1) ∧ ∀ (s' : SV.den (SV.slot ((9, SV.v I).1) ((9, SV.v
 I).2))), s' = (0 : Int) + (↑(lessN (List.getD l (Int.toNat i) (0 : Ty.den I)) (List.drop (Int.toNat (i + 1)) l)) : SV.den (SV.slot 9 (SV.v I))) → req (inR IntKind.i64 (n - 1)) (req (inR IntKind.i64 (n - 1 - i)) (n - 1 - i
 ≤ (8 : AT.den (AT.v I)) ∧ ∀ (r_1 : Int), r_1 = facI (Int.toNat (n - 1 - i)) → req (inR IntKind.i64 (s' * r_1)) (req (inR IntKind.i64 (r + s' * r_1)) (req (inR IntKind.i64 (i + 1)) (mL l (i + 1) < mL l i ∧ LC2.spec lc36b
 (l, n, r + s' * r_1, i + 1, ()) Q))))))) (Q (AX.exit 2) (stS 0 (S [(7, SV.v I)]) (r, ())))) := by kernel_rfl
theorem v36F (l : List Int) (K : dens [I, E] → Prop) : (xfn1 Try.prog { nm := true, l2 := [(36, 0, lc36a), (36, 1, lc36b)] } 5 36 fc35 (l, ()) K) =
  (fork (decide ((1 : Int) ≤ (↑(l.length) : Int))) (((↑(l.length) : Int) = (↑(l.length) : SV.den (SV.slot 4 (SV.v I))) ∧ (0 : SV.den (SV.slot 6 (SV.v I))) ≤ (0 : Int) ∧ (decide ((↑(l.length) : Int) ≤ (8 : Int)) = true → (1
 ≤ l.length ∧ l.length ≤ 8) ∧ (0 : Int) ≤ (↑(l.length) : SV.den (SV.slot 6 (SV.v I))))) ∧ ∀ (b : Bool), b = (decide ((↑(l.length) : Int) ≤ (8 : Int)) && goR (↑(l.length) : Int) (List.take 0 l) (List.drop 0 l)) → fork (!b)
 (K ((0 : Int), (104 : Int), ())) (((↑(l.length) : Int) = (↑(l.length) : SV.den (SV.slot 4 (SV.v I))) ∧ l.length ≤ 8 ∧ ((0 : SV.den (SV.slot 8 (SV.v I))) ≤ (0 : Int) ∧ (0 : Int) ≤ (↑(l.length) : SV.den (SV.slot 8 (SV.v
 I)))) ∧ (0 : SV.den (SV.slot 7 (SV.v I))) ≤ (0 : Int) ∧ (0 : Int) ≤ (40320 : SV.den (SV.slot 7 (SV.v I))) * ((8 : SV.den (SV.slot 7 (SV.v I))) * (0 : Int))) ∧ ∀ (r' : SV.den (SV.slot ((7, SV.v I).1) ((7, SV.v I).2))), r'
 = (0 : Int) + rankL (List.drop 0 l) → K (r', (0 : Int), ()))) (((↑(l.length) : Int) = (↑(l.length) : SV.den (SV.slot 4 (SV.v I))) ∧ (0 : SV.den (SV.slot 6 (SV.v I))) ≤ (0 : Int) ∧ (false = true → (1 ≤ l.length ∧ l.length
 ≤ 8) ∧ (0 : Int) ≤ (↑(l.length) : SV.den (SV.slot 6 (SV.v I))))) ∧ ∀ (b : Bool), b = (false && goR (↑(l.length) : Int) (List.take 0 l) (List.drop 0 l)) → fork (!b) (K ((0 : Int), (104 : Int), ())) (((↑(l.length) : Int) =
 (↑(l.length) : SV.den (SV.slot 4 (SV.v I))) ∧ l.length ≤ 8 ∧ ((0 : SV.den (SV.slot 8 (SV.v I))) ≤ (0 : Int) ∧ (0 : Int) ≤ (↑(l.length) : SV.den (SV.slot 8 (SV.v I)))) ∧ (0 : SV.den (SV.slot 7 (SV.v I))) ≤ (0 : Int) ∧ (0 :
 Int) ≤ (40320 : SV.den (SV.slot 7 (SV.v I))) * ((8 : SV.den (SV.slot 7 (SV.v I))) * (0 : Int))) ∧ ∀ (r' : SV.den (SV.slot ((7, SV.v I).1) ((7, SV.v I).2))), r' = (0 : Int) + rankL (List.drop 0 l) → K (r', (0 : Int),
 ())))) := by kernel_rfl
/-! the statement -/
abbrev A3 : Ty := .pr I (.pr I I)
abbrev fc7 : FC := ⟨[.v L, .v A3, .v L], [.b], fun x K => (x.1.length ≤ big ∧ inR .i64 x.2.1.1 = true ∧ x.2.2.1.length ≤ big) ∧ K (true, ())⟩
theorem v7F (o : List Int) (n : Int × Int × Int) (l : List Int) (K : dens [.b] → Prop) : (xfn1 Try.prog { nm := true, f := [(35, fc35), (36, fc35), (37, fc37), (38, fc37), (39, fc39), (40, fc39), (18, fcSame), (19, fcWorks)] } 5 7 fc7 (o, n, l, ()) K) =
  (o.length ≤ 9223372036854775807 ∧ ∀ (r e : Int), (r, e) = rankV o → o.length ≤ 9223372036854775807 ∧ ∀ (r_1 e_1 : Int), (r_1, e_1) = rankV o → fork (r != r_1) (K (false, ())) (fork (e != e_1) (K (false, ())) (inR
 IntKind.i64 (n.1) = true ∧ ∀ (l_1 : List Int) (e : Int), (l_1, e) = unrankV (n.1) (n.2.1) → inR IntKind.i64 (n.1) = true ∧ ∀ (l_2 : List Int) (e_2 : Int), (l_2, e_2) = unrankV (n.1) (n.2.1) → l_1.length ≤
 9223372036854775807 ∧ ∀ (r : Bool), r = decide (l_1 = l_2) → fork (!r) (K (false, ())) (fork (e != e_2) (K (false, ())) (l.length ≤ 9223372036854775807 ∧ ∀ (l_3 : List Int) (e : Int), (l_3, e) = drawV (n.1) (n.2.2) l →
 l.length ≤ 9223372036854775807 ∧ ∀ (l_4 : List Int) (e_3 : Int), (l_4, e_3) = drawV (n.1) (n.2.2) l → l_3.length ≤ 9223372036854775807 ∧ ∀ (r : Bool), r = decide (l_3 = l_4) → fork r (fork (e == e_3) (K (true, ())) (K
 (false, ()))) (K (false, ()))))))) := by kernel_rfl
end Go.P10
