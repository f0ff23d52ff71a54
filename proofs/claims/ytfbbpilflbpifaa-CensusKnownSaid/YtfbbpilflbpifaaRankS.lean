/- Orders: states and what is to be shown, reduced. No conditions. -/
import Derived.Test.YtfbbpilflbpifaaWorkS
set_option linter.unusedSimpArgs false
set_option linter.unusedVariables false
set_option linter.constructorNameAsVariable false
set_option maxRecDepth 100000
set_option maxHeartbeats 2000000
namespace Go.P10
open Go.Lom Go.Proofs Go
abbrev post98 : SV := A [.any, .any, .any, .pre 0 I]
abbrev fc98 : FC2 := ⟨A [.pre 0 I, .v I, .v I], 1, post98, 1, fun (z, i, j, _) K => (z.2 ≤ z.1.length ∧ z.2 ≤ 1000 ∧ (0 ≤ i ∧ i < z.2) ∧ j = i + 1) ∧ ∀ z' : List Int, z.2 - 1 ≤ z'.length → z'.take (z.2 - 1) = (z.1.take z.2).eraseIdx i.toNat → K ((), (), (), (z', z.2 - 1), ())⟩
theorem v98F (z : List Int) (n : Nat) (i j : Int) (K : post98.den → Prop) : (xfn2 Try.prog { nm := true, ip := true, cp := true } 5 98 fc98 ((z, n), i, j, ()) K) =
  (∀ (c : Nat), n ≤ c → req (decide ((0 : Int) ≤ i ∧ i ≤ j ∧ j ≤ (↑n : Int) ∧ (↑n : Int) ≤ (↑(Option.getD (Option.some c) n) : Int))) (fork (i == j) (req (Nat.ble n (z.length)) (K ((), (), (), (z, n), ()))) (req (decide ((0
 : Int) ≤ (0 : Int) ∧ (0 : Int) ≤ i ∧ i ≤ (↑n : Int) ∧ n ≤ Option.getD (Option.some c) n)) (req (decide ((0 : Int) ≤ j ∧ j ≤ (↑n : Int) ∧ (↑n : Int) ≤ (↑n : Int) ∧ n ≤ Option.getD (Option.some c) n)) (req (decide
 (Int.toNat j + (n - Int.toNat j) ≤ z.length)) (req (decide (0 + Int.toNat i ≤ z.length)) (req (decide (Int.toNat i + List.length (seg (Int.toNat j) (n - Int.toNat j) z) ≤ c)) (∀ (ys : List (Ty.den (Ty.i IntKind.i64))), ys
 = List.take (0 + Int.toNat i) z ++ seg (Int.toNat j) (n - Int.toNat j) z ++ List.drop (0 + Int.toNat i + List.length (seg (Int.toNat j) (n - Int.toNat j) z)) z → req (decide ((0 : Int) ≤ (↑(Int.toNat i + List.length (seg
 (Int.toNat j) (n - Int.toNat j) z)) : Int) ∧ (↑(Int.toNat i + List.length (seg (Int.toNat j) (n - Int.toNat j) z)) : Int) ≤ (↑n : Int) ∧ (↑n : Int) ≤ (↑c : Int))) (req (decide (Int.toNat i + List.length (seg (Int.toNat j)
 (n - Int.toNat j) z) + (n - (Int.toNat i + List.length (seg (Int.toNat j) (n - Int.toNat j) z))) ≤ ys.length)) (req (Nat.ble (Int.toNat i + List.length (seg (Int.toNat j) (n - Int.toNat j) z)) (List.length (List.take
 (Int.toNat i + List.length (seg (Int.toNat j) (n - Int.toNat j) z)) ys ++ List.replicate (n - (Int.toNat i + List.length (seg (Int.toNat j) (n - Int.toNat j) z))) (0 : Int) ++ List.drop (Int.toNat i + List.length (seg
 (Int.toNat j) (n - Int.toNat j) z) + (n - (Int.toNat i + List.length (seg (Int.toNat j) (n - Int.toNat j) z)))) ys))) (K ((), (), (), (List.take (Int.toNat i + List.length (seg (Int.toNat j) (n - Int.toNat j) z)) ys ++
 List.replicate (n - (Int.toNat i + List.length (seg (Int.toNat j) (n - Int.toNat j) z))) (0 : Int) ++ List.drop (Int.toNat i + List.length (seg (Int.toNat j) (n - Int.toNat j) z) + (n - (Int.toNat i + List.length (seg
 (Int.toNat j) (n - Int.toNat j) z)))) ys, Int.toNat i + List.length (seg (Int.toNat j) (n - Int.toNat j) z)), ())))))))))))) := by kernel_rfl
def facI : Nat → Int
  | 0 => 1
  | n + 1 => (n + 1) * facI n
abbrev sh76 : SV := S [(0, .v I), (3, .v I)]
abbrev sh76e : SV := S [(3, .v I)]
abbrev lc76 : LC2 := ⟨0, sh76, 0, fun (n, o, _) Q => (n ≤ 8 ∧ 0 ≤ o ∧ o * facI n.toNat ≤ 40320) ∧ ∀ r, r = o * facI n.toNat → Q (.exit 0) (stS 0 sh76e (r, ()))⟩
theorem v76L (n o : Int) (Q : AX → St → Prop) : (xloop2 Try.prog {} 5 76 0 lc76 (fun _ => some (sh76e, 0)) (fun (n, _, _) => n.toNat) (n, o, ()) Q) =
  (fork (decide (n > (1 : Int))) (req (inR IntKind.i64 (o * n)) (req (inR IntKind.i64 (n - 1)) (Int.toNat (n - 1) < Int.toNat n ∧ LC2.spec lc76 (n - 1, o * n, ()) Q))) (Q (AX.exit 0) (stS 0 sh76e (o, ())))) := by kernel_rfl
abbrev fc76 : FC := ⟨[.v I], [I], fun x K => x.1 ≤ 8 ∧ ∀ r, r = facI x.1.toNat → K (r, ())⟩
theorem v76F (n : Int) (K : dens [I] → Prop) : (xfn1 Try.prog { l2 := [(76, 0, lc76)] } 5 76 fc76 (n, ()) K) =
  ((n ≤ (8 : SV.den (SV.slot 0 (SV.v I))) ∧ (0 : SV.den (SV.slot 3 (SV.v I))) ≤ (1 : Int) ∧ (1 : Int) * facI (Int.toNat n) ≤ (40320 : SV.den (SV.slot 3 (SV.v I)))) ∧ ∀ (r : SV.den (SV.slot ((3, SV.v I).1) ((3, SV.v I).2))),
 r = (1 : Int) * facI (Int.toNat n) → K (r, ())) := by kernel_rfl
def takeR : Nat → List Int → Int → List Int
  | 0, _, _ => []
  | m + 1, l, r => l.getD (r / facI m).toNat 0 :: takeR m (l.eraseIdx (r / facI m).toNat) (r % facI m)
def upTo (n : Nat) : List Int := (List.range n).map fun k : Nat => (k : Int)
def ordF (n r : Int) : List Int := takeR n.toNat (upTo n.toNat) r
def pad8 (l : List Int) : List Int := l ++ List.replicate (8 - l.length) 0
abbrev sh77a : SV := S [(0, .v I), (1, .v I), (4, .arr 0 I), (5, .own 1 I), (10, .v I), (11, .v I)]
abbrev sh77ae : SV := S [(0, .v I), (1, .v I), (4, .arr 0 I), (5, .own 1 I)]
abbrev lc77a : LC2 := ⟨0, sh77a, 2, fun (n, r, o, l, m, i, _) Q => (1 ≤ n ∧ n ≤ 8 ∧ m = n ∧ (0 ≤ i ∧ i ≤ n) ∧ l = upTo i.toNat) ∧ ∀ l', l' = upTo n.toNat → Q (.exit 0) (stS 2 sh77ae (n, r, o, l', ()))⟩
theorem v77A (n r : Int) (o l : List Int) (m i : Int) (Q : AX → St → Prop) : (xloop2 Try.prog { nm := true } 5 77 0 lc77a (fun _ => some (sh77ae, 2)) (fun (n, _, _, _, _, i, _) => (n - i).toNat) (n, r, o, l, m, i, ()) Q) =
  (fork (decide (i < m)) (req (decide (0 + l.length ≤ l.length)) (req (fitsN (l.length + 1) 8) (∀ (ys : List (Ty.den (Ty.i IntKind.i64))), ys = seg 0 (l.length) l ++ [i] → req (inR IntKind.i64 (i + 1)) (req (decide (0 +
 (l.length + 1) ≤ ys.length)) (Int.toNat (n - (i + 1)) < Int.toNat (n - i) ∧ LC2.spec lc77a (n, r, o, seg 0 (l.length + 1) ys, m, i + 1, ()) Q))))) (req (decide (0 + l.length ≤ l.length)) (Q (AX.exit 0) (stS 2 sh77ae (n,
 r, o, seg 0 (l.length) l, ()))))) := by kernel_rfl
abbrev sh77b : SV := S [(0, .v I), (1, .v I), (4, .arr 0 I), (5, .pre 1 I), (19, .v I), (20, .v I)]
abbrev sh77be : SV := S [(4, .arr 0 I)]
abbrev lc77b : LC2 := ⟨0, sh77b, 2, fun (n, r, o, z, m, i, _) Q => (1 ≤ n ∧ n ≤ 8 ∧ m = n ∧ (0 ≤ i ∧ i ≤ n) ∧ z.2 ≤ z.1.length ∧ (z.2 : Int) = n - i ∧ o.length = 8 ∧ (0 ≤ r ∧ r < facI (n - i).toNat)) ∧ ∀ o' : List Int, o' = o.take i.toNat ++ takeR (n - i).toNat (z.1.take z.2) r ++ o.drop n.toNat → Q (.exit 2) (stS 1 sh77be (o', ()))⟩
theorem v77B (n r : Int) (o z : List Int) (k : Nat) (m i : Int) (Q : AX → St → Prop) : (xloop2 Try.prog { nm := true, f := [(76, fc76)], f2 := [(98, fc98)] } 5 77 1 lc77b (fun _ => some (sh77be, 1)) (fun (n, _, _, _, _, i, _) => (n - i).toNat) (n, r, o, (z, k), m, i, ()) Q) =
  (fork (decide (i < m)) (req (inR IntKind.i64 (n - 1)) (req (inR IntKind.i64 (n - 1 - i)) (n - 1 - i ≤ (8 : AT.den (AT.v I)) ∧ ∀ (r_1 : Int), r_1 = facI (Int.toNat (n - 1 - i)) → req (decide (r_1 ≠ (0 : Int))) (req (inR
 IntKind.i64 (Int.tdiv r r_1)) (req (decide (r_1 ≠ (0 : Int))) (req (decide ((0 : Int) ≤ Int.tdiv r r_1 ∧ Int.tdiv r r_1 < (↑k : Int))) (req (decide (Int.toNat (Int.tdiv r r_1) + 0 < z.length)) (req (decide ((0 : Int) ≤ i
 ∧ i < (8 : Int))) (req (decide (0 + Int.toNat i < o.length)) (∀ (ys : List (Ty.den I)), ys = List.set o (0 + Int.toNat i) (List.getD z (Int.toNat (Int.tdiv r r_1) + 0) (0 : Int)) → req (inR IntKind.i64 (Int.tdiv r r_1 +
 1)) (req (Nat.ble k (z.length)) ((k ≤ z.length ∧ k ≤ 1000 ∧ ((0 : SV.den (SV.v I)) ≤ Int.tdiv r r_1 ∧ Int.tdiv r r_1 < (↑k : SV.den (SV.v I))) ∧ Int.tdiv r r_1 + 1 = Int.tdiv r r_1 + (1 : SV.den (SV.v I))) ∧ ∀ (z' : List
 Int), k - 1 ≤ z'.length → List.take (k - 1) z' = List.eraseIdx (List.take k z) (Int.toNat (Int.tdiv r r_1)) → req (inR IntKind.i64 (i + 1)) (req (Nat.ble (k - 1) (z'.length)) (Int.toNat (n - (i + 1)) < Int.toNat (n - i) ∧
 LC2.spec lc77b (n, Int.tmod r r_1, ys, (z', k - 1), m, i + 1, ()) Q)))))))))))))) (Q (AX.exit 2) (stS 1 sh77be (o, ())))) := by kernel_rfl
abbrev fc77 : FC := ⟨[.v I, .v I], [.ar 8 I], fun x K => (1 ≤ x.1 ∧ x.1 ≤ 8 ∧ 0 ≤ x.2.1 ∧ x.2.1 < facI x.1.toNat) ∧ ∀ o, o = pad8 (ordF x.1 x.2.1) → K (o, ())⟩
theorem v77F (n r : Int) (K : dens [.ar 8 I] → Prop) : (xfn1 Try.prog { nm := true, l2 := [(77, 0, lc77a), (77, 1, lc77b)] } 5 77 fc77 (n, r, ()) K) =
  (((1 : SV.den (SV.slot 0 (SV.v I))) ≤ n ∧ n ≤ (8 : SV.den (SV.slot 0 (SV.v I))) ∧ n = n ∧ ((0 : SV.den (SV.slot 11 (SV.v I))) ≤ (0 : Int) ∧ (0 : Int) ≤ n) ∧ [] = upTo 0) ∧ ∀ (l' : List Int), l' = upTo (Int.toNat n) → req
 (Nat.ble (l'.length) (l'.length)) (((1 : SV.den (SV.slot 0 (SV.v I))) ≤ n ∧ n ≤ (8 : SV.den (SV.slot 0 (SV.v I))) ∧ n = n ∧ ((0 : SV.den (SV.slot 20 (SV.v I))) ≤ (0 : Int) ∧ (0 : Int) ≤ n) ∧ l'.length ≤ l'.length ∧
 (↑(l'.length) : Int) = n - 0 ∧ 8 = 8 ∧ (0 : SV.den (SV.slot 1 (SV.v I))) ≤ r ∧ r < facI (Int.toNat (n - 0))) ∧ ∀ (o' : List Int), o' = List.take 0 [(0 : Int), (0 : Int), (0 : Int), (0 : Int), (0 : Int), (0 : Int), (0 :
 Int), (0 : Int)] ++ takeR (Int.toNat (n - 0)) (List.take (l'.length) l') r ++ List.drop (Int.toNat n) [(0 : Int), (0 : Int), (0 : Int), (0 : Int), (0 : Int), (0 : Int), (0 : Int), (0 : Int)] → req (decide (o'.length = 8))
 (req (decide (o'.length = 8)) (req (decide (o'.length = o'.length)) (∀ (ys : List (Ty.den I)), ys = o' → req (decide (ys.length = 8)) (req (decide (ys.length = 8)) (K (ys, ())))))))) := by kernel_rfl
def inF (n r : Int) : Bool := decide (0 ≤ r ∧ r ≤ facI n.toNat - 1)
def unrankV (n r : Int) : List Int × Int := if 1 ≤ n ∧ n ≤ 8 then if 0 ≤ r ∧ r < facI n.toNat then (ordF n r, 0) else ([], 7) else ([], 104)
abbrev fc37 : FC := ⟨[.v I, .v I], [L, E], fun x K => inR .i64 x.1 = true ∧ ∀ l e, (l, e) = unrankV x.1 x.2.1 → K (l, e, ())⟩
theorem v37F (n r : Int) (K : dens [L, E] → Prop) : (xfn1 Try.prog { nm := true, f := [(76, fc76), (77, fc77)], f2 := [(58, fc58)] } 5 37 fc37 (n, r, ()) K) =
  (fork (decide (n ≥ (1 : Int))) (fork (!decide (n ≤ (8 : Int))) (K ([], (104 : Int), ())) (n ≤ (8 : AT.den (AT.v I)) ∧ ∀ (r_1 : Int), r_1 = facI (Int.toNat n) → req (inR IntKind.i64 (r_1 - 1)) (fork (decide (r ≥ (0 :
 Int))) (fork (!decide (r ≤ r_1 - 1)) (K ([], (7 : Int), ())) (((1 : AT.den (AT.v I)) ≤ n ∧ n ≤ (8 : AT.den (AT.v I)) ∧ (0 : AT.den (AT.v I)) ≤ r ∧ r < facI (Int.toNat n)) ∧ ∀ (o : List Int), o = pad8 (ordF n r) → req
 (decide (o.length = 8)) (req (decide (o.length = 8)) (∀ (ys : List (Ty.den I)), ys = o → req (decide ((0 : Int) ≤ (0 : Int) ∧ (0 : Int) ≤ n ∧ n ≤ (8 : Int))) (req (decide (ys.length = 8)) (req (decide (0 + Int.toNat n ≤
 ys.length)) (List.length (seg 0 (Int.toNat n) ys) ≤ 1000 ∧ ∀ (r : List Int), r = seg 0 (Int.toNat n) ys → req (decide (0 + r.length ≤ r.length)) (K (seg 0 (r.length) r, (0 : Int), ()))))))))) (K ([], (7 : Int), ()))))) (K
 ([], (104 : Int), ()))) := by kernel_rfl
abbrev sh39 : SV := S [(0, .v I), (1, .v I), (8, .v I), (21, .v L), (22, .v I), (23, .v I)]
abbrev sh39e : SV := S [(0, .v I), (1, .v I), (8, .v I)]
abbrev sh39r : SV := S [(6, .v L), (7, .v E)]
def ex39 : Ex2
  | .ret => some (sh39r, 0)
  | _ => some (sh39e, 0)
abbrev lc39 : LC2 := ⟨0, sh39, 0, fun (n, m, s, l, c, i, _) Q => (1 ≤ n ∧ n ≤ 8 ∧ c = l.length ∧ l.length ≤ 16 ∧ (0 ≤ i ∧ i ≤ l.length) ∧ (0 ≤ s ∧ s ≤ 40320 * i)) ∧
  ((l.drop i.toNat).all (inF n) = true → ∀ s', s' = s + (l.drop i.toNat).sum → Q (.exit 0) (stS 0 sh39e (n, m, s', ()))) ∧ ((l.drop i.toNat).all (inF n) = false → Q .ret (stS 0 sh39r ([], 104, ())))⟩
theorem v39L (n m s : Int) (l : List Int) (c i : Int) (Q : AX → St → Prop) : (xloop2 Try.prog { nm := true, f := [(76, fc76)] } 5 39 0 lc39 ex39 (fun (_, _, _, l, _, i, _) => mL l i) (n, m, s, l, c, i, ()) Q) =
  (fork (decide (i < c)) (req (decide ((0 : Int) ≤ i ∧ i < (↑(l.length) : Int))) (n ≤ (8 : AT.den (AT.v I)) ∧ ∀ (r : Int), r = facI (Int.toNat n) → req (inR IntKind.i64 (r - 1)) (fork (decide (List.getD l (Int.toNat i) (0 :
 Int) ≥ (0 : Int))) (fork (!decide (List.getD l (Int.toNat i) (0 : Int) ≤ r - 1)) (Q AX.ret (stS 0 sh39r ([], (104 : Int), ()))) (req (inR IntKind.i64 (s + List.getD l (Int.toNat i) (0 : Int))) (req (inR IntKind.i64 (i +
 1)) (mL l (i + 1) < mL l i ∧ LC2.spec lc39 (n, m, s + List.getD l (Int.toNat i) (0 : Int), l, c, i + 1, ()) Q)))) (Q AX.ret (stS 0 sh39r ([], (104 : Int), ())))))) (Q (AX.exit 0) (stS 0 sh39e (n, m, s, ())))) := by kernel_rfl
def drawV (n m : Int) (l : List Int) : List Int × Int := if (1 ≤ n ∧ n ≤ 8) ∧ (1 ≤ l.length ∧ l.length ≤ 16) ∧ l.all (inF n) = true then if 0 ≤ m ∧ m ≤ n then ((ordF n (l.sum % facI n.toNat)).take m.toNat, 0) else ([], 7) else ([], 104)
abbrev fc39 : FC := ⟨[.v I, .v I, .v L], [L, E], fun x K => x.2.2.1.length ≤ big ∧ ∀ l e, (l, e) = drawV x.1 x.2.1 x.2.2.1 → K (l, e, ())⟩
theorem v39F (n m : Int) (l : List Int) (K : dens [L, E] → Prop) : (xfn1 Try.prog { nm := true, f := [(76, fc76), (77, fc77)], f2 := [(58, fc58)], l2 := [(39, 0, lc39)] } 5 39 fc39 (n, m, l, ()) K) =
  (fork (decide (n ≥ (1 : Int))) (fork (!decide (n ≤ (8 : Int))) (K ([], (104 : Int), ())) (fork (decide ((↑(l.length) : Int) ≥ (1 : Int))) (fork (!decide ((↑(l.length) : Int) ≤ (16 : Int))) (K ([], (104 : Int), ())) (((1 :
 SV.den (SV.slot 0 (SV.v I))) ≤ n ∧ n ≤ (8 : SV.den (SV.slot 0 (SV.v I))) ∧ (↑(l.length) : Int) = (↑(l.length) : SV.den (SV.slot 22 (SV.v I))) ∧ l.length ≤ 16 ∧ ((0 : SV.den (SV.slot 23 (SV.v I))) ≤ (0 : Int) ∧ (0 : Int) ≤
 (↑(l.length) : SV.den (SV.slot 23 (SV.v I)))) ∧ (0 : SV.den (SV.slot 8 (SV.v I))) ≤ (0 : Int) ∧ (0 : Int) ≤ (40320 : SV.den (SV.slot 8 (SV.v I))) * (0 : Int)) ∧ (List.all (List.drop 0 l) (inF n) = true → ∀ (s' : SV.den
 (SV.slot ((8, SV.v I).1) ((8, SV.v I).2))), s' = (0 : Int) + List.sum (List.drop 0 l) → fork (decide (m ≥ (0 : Int))) (fork (!decide (m ≤ n)) (K ([], (7 : Int), ())) (n ≤ (8 : AT.den (AT.v I)) ∧ ∀ (r : Int), r = facI
 (Int.toNat n) → req (decide (r ≠ (0 : Int))) (((1 : AT.den (AT.v I)) ≤ n ∧ n ≤ (8 : AT.den (AT.v I)) ∧ (0 : AT.den (AT.v I)) ≤ Int.tmod s' r ∧ Int.tmod s' r < facI (Int.toNat n)) ∧ ∀ (o : List Int), o = pad8 (ordF n
 (Int.tmod s' r)) → req (decide (o.length = 8)) (req (decide (o.length = 8)) (∀ (ys : List (Ty.den I)), ys = o → req (decide ((0 : Int) ≤ (0 : Int) ∧ (0 : Int) ≤ m ∧ m ≤ (8 : Int))) (req (decide (ys.length = 8)) (req
 (decide (0 + Int.toNat m ≤ ys.length)) (List.length (seg 0 (Int.toNat m) ys) ≤ 1000 ∧ ∀ (r : List Int), r = seg 0 (Int.toNat m) ys → req (decide (0 + r.length ≤ r.length)) (K (seg 0 (r.length) r, (0 : Int), ()))))))))))
 (K ([], (7 : Int), ()))) ∧ (List.all (List.drop 0 l) (inF n) = false → K ([], (104 : SV.den (SV.slot 7 (SV.v E))), ())))) (K ([], (104 : Int), ())))) (K ([], (104 : Int), ()))) := by kernel_rfl
abbrev sh97 : SV := S [(0, .v L), (1, .v I), (7, .v I), (8, .v I)]
abbrev lc97 : LC2 := ⟨0, sh97, 0, fun (l, v, m, i, _) Q => (0 ≤ i ∧ i ≤ l.length ∧ m = l.length ∧ l.length ≤ big) ∧ (idxF (· == v) (l.drop i.toNat) i < 0 → Q (.exit 0) (stS 0 .nil ())) ∧ (0 ≤ idxF (· == v) (l.drop i.toNat) i → Q .ret (stS 0 shR4i (idxF (· == v) (l.drop i.toNat) i, ())))⟩
abbrev fc97 : FC := ⟨[.v L, .v I], [I], fun x K => x.1.length ≤ big ∧ K (idxF (· == x.2.1) x.1 0, ())⟩
abbrev fc75 : FC := ⟨[.v L, .v I], [.b], fun x K => x.1.length ≤ big ∧ ∀ b : Bool, b = x.1.any (· == x.2.1) → K (b, ())⟩
theorem v97L (l : List Int) (v m i : Int) (Q : AX → St → Prop) : (xloop2 Try.prog {} 5 97 0 lc97 ex96 (fun (l, _, m, i, _) => mL l i) (l, v, m, i, ()) Q) =
  (fork (decide (i < m)) (req (decide ((0 : Int) ≤ i ∧ i < (↑(l.length) : Int))) (fork (v == List.getD l (Int.toNat i) (0 : Int)) (Q AX.ret (stS 0 shR4i (i, ()))) (req (inR IntKind.i64 (i + 1)) (mL l (i + 1) < mL l i ∧
 LC2.spec lc97 (l, v, m, i + 1, ()) Q)))) (Q (AX.exit 0) (stS 0 SV.nil ()))) := by kernel_rfl
theorem v97F (l : List Int) (v : Int) (K : dens [I] → Prop) : (xfn1 Try.prog { l2 := [(97, 0, lc97)] } 5 97 fc97 (l, v, ()) K) =
  (((0 : SV.den (SV.slot 8 (SV.v I))) ≤ (0 : Int) ∧ (0 : Int) ≤ (↑(l.length) : SV.den (SV.slot 8 (SV.v I))) ∧ (↑(l.length) : Int) = (↑(l.length) : SV.den (SV.slot 7 (SV.v I))) ∧ l.length ≤ 9223372036854775807) ∧ (idxF (fun
 x => x == v) (List.drop 0 l) (0 : Int) < (0 : Int) → K ((-1 : Int), ())) ∧ ((0 : Int) ≤ idxF (fun x => x == v) (List.drop 0 l) (0 : Int) → K (idxF (fun x => x == v) (List.drop 0 l) (0 : Int), ()))) := by kernel_rfl
theorem v75F (l : List Int) (v : Int) (K : dens [.b] → Prop) : (xfn1 Try.prog { f := [(97, fc97)] } 5 75 fc75 (l, v, ()) K) =
  (l.length ≤ 9223372036854775807 ∧ K (decide (idxF (fun x => x == v) l (0 : Int) ≥ (0 : Int)), ())) := by kernel_rfl
def lessN (x : Int) (l : List Int) : Nat := l.countP fun y => decide (y < x)
def rankL : List Int → Int
  | [] => 0
  | x :: l => lessN x l * facI l.length + rankL l
def goR (n : Int) : List Int → List Int → Bool
  | _, [] => true
  | pre, x :: l => decide (0 ≤ x ∧ x ≤ n - 1) && !(pre.any (· == x)) && goR n (pre ++ [x]) l
abbrev sh35b : SV := S [(0, .v L), (4, .v I), (5, .v I), (6, .v I), (14, .v L), (15, .v I), (16, .v I), (37, .v L), (38, .v I), (39, .v I)]
abbrev sh35a : SV := S [(0, .v L), (4, .v I), (14, .v L), (15, .v I), (16, .v I)]
abbrev lc35b : LC2 := ⟨0, sh35b, 0, fun (l, r, i, x, l2, m, i2, t, m2, k, _) Q => (l.length ≤ 8 ∧ (0 ≤ i ∧ i < l.length) ∧ i + 1 + t.length = l.length ∧ m2 = t.length ∧ (0 ≤ k ∧ k ≤ t.length) ∧ (0 ≤ r ∧ r ≤ 40320 * (8 * i + k))) ∧
  ∀ r', r' = r + lessN x (t.drop k.toNat) * facI t.length → Q (.exit 2) (stS 0 sh35a (l, r', l2, m, i2, ()))⟩
theorem v35B (l : List Int) (r i x : Int) (l2 : List Int) (m i2 : Int) (t : List Int) (m2 k : Int) (Q : AX → St → Prop) : (xloop2 Try.prog { nm := true, f := [(76, fc76)] } 5 35 1 lc35b (fun _ => some (sh35a, 0)) (fun (_, _, _, _, _, _, _, t, _, k, _) => mL t k) (l, r, i, x, l2, m, i2, t, m2, k, ()) Q) =
  (fork (decide (k < m2)) (req (decide ((0 : Int) ≤ k ∧ k < (↑(t.length) : Int))) (fork (decide (List.getD t (Int.toNat k) (0 : Int) < x)) (req (inR IntKind.i64 ((↑(l.length) : Int) - 1)) (req (inR IntKind.i64 ((↑(l.length)
 : Int) - 1 - i)) ((↑(l.length) : Int) - 1 - i ≤ (8 : AT.den (AT.v I)) ∧ ∀ (r_1 : Int), r_1 = facI (Int.toNat ((↑(l.length) : Int) - 1 - i)) → req (inR IntKind.i64 (r + r_1)) (req (inR IntKind.i64 (k + 1)) (mL t (k + 1) <
 mL t k ∧ LC2.spec lc35b (l, r + r_1, i, x, l2, m, i2, t, m2, k + 1, ()) Q))))) (req (inR IntKind.i64 (k + 1)) (mL t (k + 1) < mL t k ∧ LC2.spec lc35b (l, r, i, x, l2, m, i2, t, m2, k + 1, ()) Q)))) (Q (AX.exit 2) (stS 0
 sh35a (l, r, l2, m, i2, ())))) := by kernel_rfl
abbrev sh35e : SV := S [(0, .v L), (4, .v I)]
abbrev sh35r : SV := S [(2, .v I), (3, .v E)]
def ex35 : Ex2
  | .ret => some (sh35r, 0)
  | _ => some (sh35e, 0)
abbrev lc35a : LC2 := ⟨0, sh35a, 0, fun (l, r, l2, m, i, _) Q => (l2 = l ∧ m = l.length ∧ (1 ≤ l.length ∧ l.length ≤ 8) ∧ (0 ≤ i ∧ i ≤ l.length) ∧ (0 ≤ r ∧ r ≤ 40320 * (8 * i))) ∧
  (goR l.length (l.take i.toNat) (l.drop i.toNat) = true → ∀ r', r' = r + rankL (l.drop i.toNat) → Q (.exit 0) (stS 0 sh35e (l, r', ()))) ∧ (goR l.length (l.take i.toNat) (l.drop i.toNat) = false → Q .ret (stS 0 sh35r (0, 104, ())))⟩
theorem v35A (l : List Int) (r : Int) (l2 : List Int) (m i : Int) (Q : AX → St → Prop) : (xloop2 Try.prog { nm := true, f := [(75, fc75), (76, fc76)], l2 := [(35, 1, lc35b)] } 5 35 0 lc35a ex35 (fun (l, _, _, _, i, _) => mL l i) (l, r, l2, m, i, ()) Q) =
  (fork (decide (i < m)) (req (decide ((0 : Int) ≤ i ∧ i < (↑(l2.length) : Int))) (req (inR IntKind.i64 ((↑(l.length) : Int) - 1)) (fork (decide (List.getD l2 (Int.toNat i) (0 : Int) ≥ (0 : Int))) (fork (!decide (List.getD
 l2 (Int.toNat i) (0 : Int) ≤ (↑(l.length) : Int) - 1)) (Q AX.ret (stS 0 sh35r ((0 : Int), (104 : Int), ()))) (req (decide ((0 : Int) ≤ (0 : Int) ∧ (0 : Int) ≤ i ∧ i ≤ (↑(l.length) : Int))) (List.length (List.drop 0
 (List.take (Int.toNat i) l)) ≤ 9223372036854775807 ∧ ∀ (b : Bool), (b = List.any (List.drop 0 (List.take (Int.toNat i) l)) fun x => x == List.getD l2 (Int.toNat i) (0 : Int)) → fork b (Q AX.ret (stS 0 sh35r ((0 : Int),
 (104 : Int), ()))) (req (inR IntKind.i64 (i + 1)) (req (decide ((0 : Int) ≤ i + 1 ∧ i + 1 ≤ (↑(l.length) : Int) ∧ (↑(l.length) : Int) ≤ (↑(l.length) : Int))) ((l.length ≤ 8 ∧ ((0 : SV.den (SV.slot 5 (SV.v I))) ≤ i ∧ i <
 (↑(l.length) : SV.den (SV.slot 5 (SV.v I)))) ∧ i + (1 : SV.den (SV.slot 5 (SV.v I))) + (↑(List.length (List.drop (Int.toNat (i + 1)) (List.take (l.length) l))) : SV.den (SV.slot 5 (SV.v I))) = (↑(l.length) : SV.den
 (SV.slot 5 (SV.v I))) ∧ (↑(List.length (List.drop (Int.toNat (i + 1)) (List.take (l.length) l))) : Int) = (↑(List.length (List.drop (Int.toNat (i + 1)) (List.take (l.length) l))) : SV.den (SV.slot 38 (SV.v I))) ∧ ((0 :
 SV.den (SV.slot 39 (SV.v I))) ≤ (0 : Int) ∧ (0 : Int) ≤ (↑(List.length (List.drop (Int.toNat (i + 1)) (List.take (l.length) l))) : SV.den (SV.slot 39 (SV.v I)))) ∧ (0 : SV.den (SV.slot 4 (SV.v I))) ≤ r ∧ r ≤ (40320 :
 SV.den (SV.slot 4 (SV.v I))) * ((8 : SV.den (SV.slot 4 (SV.v I))) * i + 0)) ∧ ∀ (r' : SV.den (SV.slot ((4, SV.v I).1) ((4, SV.v I).2))), r' = r + (↑(lessN (List.getD l2 (Int.toNat i) (0 : Int)) (List.drop 0 (List.drop
 (Int.toNat (i + 1)) (List.take (l.length) l)))) : SV.den (SV.slot 4 (SV.v I))) * facI (List.length (List.drop (Int.toNat (i + 1)) (List.take (l.length) l))) → req (inR IntKind.i64 (i + 1)) (mL l (i + 1) < mL l i ∧
 LC2.spec lc35a (l, r', l2, m, i + 1, ()) Q))))))) (Q AX.ret (stS 0 sh35r ((0 : Int), (104 : Int), ())))))) (Q (AX.exit 0) (stS 0 sh35e (l, r, ())))) := by kernel_rfl
def rankV (l : List Int) : Int × Int := if (1 ≤ l.length ∧ l.length ≤ 8) ∧ goR l.length [] l = true then (rankL l, 0) else (0, 104)
abbrev fc35 : FC := ⟨[.v L], [I, E], fun x K => x.1.length ≤ big ∧ ∀ r e, (r, e) = rankV x.1 → K (r, e, ())⟩
theorem v35F (l : List Int) (K : dens [I, E] → Prop) : (xfn1 Try.prog { nm := true, ip := true, f := [(77, fc77)], l2 := [(35, 0, lc35a)] } 5 35 fc35 (l, ()) K) =
  (fork (decide ((↑(l.length) : Int) ≥ (1 : Int))) (fork (!decide ((↑(l.length) : Int) ≤ (8 : Int))) (K ((0 : Int), (104 : Int), ())) ((l = l ∧ (↑(l.length) : Int) = (↑(l.length) : SV.den (SV.slot 15 (SV.v I))) ∧ (1 ≤
 l.length ∧ l.length ≤ 8) ∧ ((0 : SV.den (SV.slot 16 (SV.v I))) ≤ (0 : Int) ∧ (0 : Int) ≤ (↑(l.length) : SV.den (SV.slot 16 (SV.v I)))) ∧ (0 : SV.den (SV.slot 4 (SV.v I))) ≤ (0 : Int) ∧ (0 : Int) ≤ (40320 : SV.den (SV.slot
 4 (SV.v I))) * ((8 : SV.den (SV.slot 4 (SV.v I))) * (0 : Int))) ∧ (goR (↑(l.length) : Int) (List.take 0 l) (List.drop 0 l) = true → ∀ (r' : SV.den (SV.slot ((4, SV.v I).1) ((4, SV.v I).2))), r' = (0 : Int) + rankL
 (List.drop 0 l) → req (decide (l.length ≤ 8)) (req (Nat.blt 0 (l.length)) (req (decide (List.length (List.take 0 [(0 : Int), (0 : Int), (0 : Int), (0 : Int), (0 : Int), (0 : Int), (0 : Int), (0 : Int)] ++ l ++ List.drop
 (0 + l.length) [(0 : Int), (0 : Int), (0 : Int), (0 : Int), (0 : Int), (0 : Int), (0 : Int), (0 : Int)]) = 8)) (((1 : AT.den (AT.v I)) ≤ (↑(l.length) : Int) ∧ (↑(l.length) : Int) ≤ (8 : AT.den (AT.v I)) ∧ (0 : AT.den
 (AT.v I)) ≤ r' ∧ r' < facI (Int.toNat (↑(l.length) : Int))) ∧ ∀ (o : List Int), o = pad8 (ordF (↑(l.length) : Int) r') → req (decide (List.length (List.take 0 [(0 : Int), (0 : Int), (0 : Int), (0 : Int), (0 : Int), (0 :
 Int), (0 : Int), (0 : Int)] ++ l ++ List.drop (0 + l.length) [(0 : Int), (0 : Int), (0 : Int), (0 : Int), (0 : Int), (0 : Int), (0 : Int), (0 : Int)]) = 8)) (AV.ar (Ty.i IntKind.i64) (List.take 0 [(0 : Int), (0 : Int), (0
 : Int), (0 : Int), (0 : Int), (0 : Int), (0 : Int), (0 : Int)] ++ l ++ List.drop (0 + l.length) [(0 : Int), (0 : Int), (0 : Int), (0 : Int), (0 : Int), (0 : Int), (0 : Int), (0 : Int)]) = AV.ar (Ty.i IntKind.i64)
 (List.take 0 [(0 : Int), (0 : Int), (0 : Int), (0 : Int), (0 : Int), (0 : Int), (0 : Int), (0 : Int)] ++ l ++ List.drop (0 + l.length) [(0 : Int), (0 : Int), (0 : Int), (0 : Int), (0 : Int), (0 : Int), (0 : Int), (0 :
 Int)])) ∧ req (decide (List.length (List.take 0 [(0 : Int), (0 : Int), (0 : Int), (0 : Int), (0 : Int), (0 : Int), (0 : Int), (0 : Int)] ++ l ++ List.drop (0 + l.length) [(0 : Int), (0 : Int), (0 : Int), (0 : Int), (0 :
 Int), (0 : Int), (0 : Int), (0 : Int)]) = 8)) (req (decide (o.length = 8)) (fork (!decide (List.take 0 [(0 : Int), (0 : Int), (0 : Int), (0 : Int), (0 : Int), (0 : Int), (0 : Int), (0 : Int)] ++ l ++ List.drop (0 +
 l.length) [(0 : Int), (0 : Int), (0 : Int), (0 : Int), (0 : Int), (0 : Int), (0 : Int), (0 : Int)] = o)) (K ((0 : Int), (104 : Int), ())) (K (r', (0 : Int), ())))))))) ∧ (goR (↑(l.length) : Int) (List.take 0 l) (List.drop
 0 l) = false → K ((0 : SV.den (SV.slot 2 (SV.v I))), (104 : SV.den (SV.slot 3 (SV.v E))), ())))) (K ((0 : Int), (104 : Int), ()))) := by kernel_rfl
end Go.P10
