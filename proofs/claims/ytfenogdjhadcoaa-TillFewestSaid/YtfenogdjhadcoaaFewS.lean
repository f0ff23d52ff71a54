/- TillFewest: states and what is to be shown, reduced. No conditions. -/
import Derived.Test.YtfenogdjhadcoaaRefS8
set_option linter.unusedSimpArgs false
set_option linter.unusedVariables false
set_option linter.constructorNameAsVariable false
set_option maxRecDepth 100000
set_option maxHeartbeats 2000000
namespace Go.P8
open Go.Lom Go.Proofs Go

/-- May so many pieces of a kind be taken? -/
def goodAt (cs l hv : List Int) (i : Nat) : Bool := decide (i < cs.length) && decide (i < hv.length) && decide (0 ≤ l.getD i 0 ∧ l.getD i 0 ≤ hv.getD i 0) && decide (1 ≤ cs.getD i 0 ∧ cs.getD i 0 ≤ 50000) && decide (l.getD i 0 ≤ 100)
def goodF (cs l hv : List Int) (i : Nat) : Bool := (List.range' i (l.length - i)).all (goodAt cs l hv)
abbrev sh25 : SV := S [(0, .v L), (1, .v L), (2, .v L), (8, .v I), (9, .v I)]
abbrev sh25e : SV := S [(0, .v L), (1, .v L), (8, .v I)]
abbrev sh25r : SV := S [(6, .v I), (7, .v .b)]
def ex25 : Ex2
  | .ret => some (sh25r, 0)
  | _ => some (sh25e, 0)
abbrev lc25 : LC2 := ⟨0, sh25, 0, fun (cs, l, hv, n, i, _) Q => (0 ≤ i ∧ i ≤ l.length ∧ l.length ≤ big ∧ inR .i64 n = true ∧ (cs.length ≤ 8 → 0 ≤ n ∧ n ≤ i * 5000000)) ∧
  (goodF cs l hv i.toNat = false → Q .ret (stS 0 sh25r (0, false, ()))) ∧
  (goodF cs l hv i.toNat = true → ∀ r : Int, inR .i64 r = true → (cs.length ≤ 8 → r = n + valueN (cs.drop i.toNat) (l.drop i.toNat)) → Q (.exit 0) (stS 0 sh25e (cs, l, r, ())))⟩
theorem v25L (cs l hv : List Int) (n i : Int) (Q : AX → St → Prop) : (xloop2 Try.prog { wr := true, f := [(26, fcFrom)] } 5 25 0 lc25 ex25 (fun (_, l, _, _, i, _) => mL l i) (cs, l, hv, n, i, ()) Q) =
  (fork (decide (i < (↑(l.length) : Int))) (fork (decide (i ≥ (↑(cs.length) : Int))) (Q AX.ret (stS 0 Go.P8.sh25r ((0 : Int), false, ()))) (fork (decide (i ≥ (↑(hv.length) : Int))) (Q AX.ret (stS 0 Go.P8.sh25r ((0 : Int),
 false, ()))) (req (decide ((0 : Int) ≤ i ∧ i < (↑(l.length) : Int))) (req (decide ((0 : Int) ≤ i ∧ i < (↑(hv.length) : Int))) (fork (!decide ((0 : Int) ≤ List.getD l (Int.toNat i) (0 : Int) ∧ List.getD l (Int.toNat i) (0
 : Int) ≤ List.getD hv (Int.toNat i) (0 : Int))) (Q AX.ret (stS 0 Go.P8.sh25r ((0 : Int), false, ()))) (req (decide ((0 : Int) ≤ i ∧ i < (↑(cs.length) : Int))) (fork (!decide ((1 : Int) ≤ List.getD cs (Int.toNat i) (0 :
 Int) ∧ List.getD cs (Int.toNat i) (0 : Int) ≤ (50000 : Int))) (Q AX.ret (stS 0 Go.P8.sh25r ((0 : Int), false, ()))) (req (decide ((0 : Int) ≤ i ∧ i < (↑(l.length) : Int))) (fork (decide (List.getD l (Int.toNat i) (0 :
 Int) > (100 : Int))) (Q AX.ret (stS 0 Go.P8.sh25r ((0 : Int), false, ()))) (req (decide ((0 : Int) ≤ i ∧ i < (↑(l.length) : Int))) (req (decide ((0 : Int) ≤ i ∧ i < (↑(cs.length) : Int))) (req (inR IntKind.i64 (List.getD
 l (Int.toNat i) (0 : Int) * List.getD cs (Int.toNat i) (0 : Int))) (Go.P8.mL l (wrapA IntKind.i64 (i + 1)) < Go.P8.mL l i ∧ LC2.spec Go.P8.lc25 (cs, l, hv, wrapA IntKind.i64 (n + List.getD l (Int.toNat i) (0 : Int) *
 List.getD cs (Int.toNat i) (0 : Int)), wrapA IntKind.i64 (i + 1), ()) Q))))))))))))) (Q (AX.exit 0) (stS 0 Go.P8.sh25e (cs, l, n, ())))) := by kernel_rfl
abbrev fcValue : FC := ⟨[.v L, .v L, .v L], [I, .b], fun x K => x.2.1.length ≤ big ∧ ∀ (n : Int) (b : Bool), b = (goodF x.1 x.2.1 x.2.2.1 0 && decide (x.2.1.length = x.1.length)) → inR .i64 n = true → (x.1.length ≤ 8 → goodF x.1 x.2.1 x.2.2.1 0 = true → n = valueN x.1 x.2.1) → K (n, b, ())⟩
theorem v25F (cs l hv : List Int) (K : dens [I, .b] → Prop) : (xfn1 Try.prog { l2 := [(25, 0, lc25)] } 5 25 fcValue (cs, l, hv, ()) K) =
  (((0 : SV.den (SV.slot 9 (SV.v Go.P8.I))) ≤ (0 : Int) ∧ (0 : Int) ≤ (↑(l.length) : SV.den (SV.slot 9 (SV.v Go.P8.I))) ∧ l.length ≤ 9223372036854775807 ∧ inR IntKind.i64 (0 : Int) = true ∧ (cs.length ≤ 8 → (0 : SV.den
 (SV.slot 8 (SV.v Go.P8.I))) ≤ (0 : Int) ∧ (0 : Int) ≤ (0 : Int) * (5000000 : SV.den (SV.slot 8 (SV.v Go.P8.I))))) ∧ (Go.P8.goodF cs l hv 0 = false → K ((0 : SV.den (SV.slot 6 (SV.v Go.P8.I))), false, ())) ∧ (Go.P8.goodF
 cs l hv 0 = true → ∀ (r : Int), inR IntKind.i64 r = true → (cs.length ≤ 8 → r = (0 : Int) + Go.P8.valueN (List.drop 0 cs) (List.drop 0 l)) → K (r, (↑(l.length) : Int) == (↑(cs.length) : Int), ()))) := by kernel_rfl
abbrev sh27 : SV := S [(0, .v L), (3, .v I), (4, .v I)]
abbrev sh27e : SV := S [(3, .v I)]
abbrev lc27 : LC2 := ⟨0, sh27, 0, fun (l, n, i, _) Q => (0 ≤ i ∧ i ≤ l.length ∧ l.length ≤ 100 ∧ (∀ x ∈ l, 0 ≤ x ∧ x ≤ 1000000) ∧ 0 ≤ n ∧ n ≤ i * 1000000) ∧ ∀ r : Int, r = n + (l.drop i.toNat).sum → Q (.exit 0) (stS 0 sh27e (r, ()))⟩
theorem v27L (l : List Int) (n i : Int) (Q : AX → St → Prop) : (xloop2 Try.prog {} 5 27 0 lc27 (fun _ => some (sh27e, 0)) (fun (l, _, i, _) => mL l i) (l, n, i, ()) Q) =
  (fork (decide (i < (↑(l.length) : Int))) (req (decide ((0 : Int) ≤ i ∧ i < (↑(l.length) : Int))) (req (inR IntKind.i64 (n + List.getD l (Int.toNat i) (0 : Int))) (req (inR IntKind.i64 (i + 1)) (Go.P8.mL l (i + 1) <
 Go.P8.mL l i ∧ LC2.spec Go.P8.lc27 (l, n + List.getD l (Int.toNat i) (0 : Int), i + 1, ()) Q)))) (Q (AX.exit 0) (stS 0 Go.P8.sh27e (n, ())))) := by kernel_rfl
abbrev fcSum : FC := ⟨[.v L], [I], fun x K => (x.1.length ≤ 100 ∧ ∀ y ∈ x.1, 0 ≤ y ∧ y ≤ 1000000) ∧ ∀ r : Int, r = x.1.sum → K (r, ())⟩
theorem v27F (l : List Int) (K : dens [I] → Prop) : (xfn1 Try.prog { l2 := [(27, 0, lc27)] } 5 27 fcSum (l, ()) K) =
  (((0 : SV.den (SV.slot 4 (SV.v Go.P8.I))) ≤ (0 : Int) ∧ (0 : Int) ≤ (↑(l.length) : SV.den (SV.slot 4 (SV.v Go.P8.I))) ∧ l.length ≤ 100 ∧ (∀ (x : Ty.den Go.P8.I), x ∈ l → (0 : Ty.den Go.P8.I) ≤ x ∧ x ≤ (1000000 : Ty.den
 Go.P8.I)) ∧ (0 : SV.den (SV.slot 3 (SV.v Go.P8.I))) ≤ (0 : Int) ∧ (0 : Int) ≤ (0 : Int) * (1000000 : SV.den (SV.slot 3 (SV.v Go.P8.I)))) ∧ ∀ (r : Int), r = (0 : Int) + List.sum (List.drop 0 l) → K (r, ())) := by kernel_rfl
def aheadB : List Int → List Int → Bool
  | [], b => decide (0 < b.length)
  | _ :: _, [] => false
  | x :: a, y :: b => if x = y then aheadB a b else decide (x < y)
abbrev sh28 : SV := S [(0, .v L), (1, .v L), (5, .v I)]
abbrev sh28e : SV := S [(0, .v L), (1, .v L)]
def ex28 : Ex2
  | .ret => some (S [(4, .v .b)], 0)
  | _ => some (sh28e, 0)
abbrev lc28 : LC2 := ⟨0, sh28, 0, fun (a, b, i, _) Q => (0 ≤ i ∧ i ≤ a.length ∧ i ≤ b.length ∧ a.length ≤ big) ∧
  (∀ r : Bool, r = aheadB (a.drop i.toNat) (b.drop i.toNat) → Q .ret (stS 0 (S [(4, .v .b)]) (r, ()))) ∧ (aheadB (a.drop i.toNat) (b.drop i.toNat) = decide (a.length < b.length) → Q (.exit 0) (stS 0 sh28e (a, b, ())))⟩
theorem v28L (a b : List Int) (i : Int) (Q : AX → St → Prop) : (xloop2 Try.prog {} 5 28 0 lc28 ex28 (fun (a, _, i, _) => mL a i) (a, b, i, ()) Q) =
  (fork (decide (i < (↑(a.length) : Int))) (fork (decide (i < (↑(b.length) : Int))) (req (decide ((0 : Int) ≤ i ∧ i < (↑(a.length) : Int))) (req (decide ((0 : Int) ≤ i ∧ i < (↑(b.length) : Int))) (fork (List.getD a
 (Int.toNat i) (0 : Int) != List.getD b (Int.toNat i) (0 : Int)) (req (decide ((0 : Int) ≤ i ∧ i < (↑(a.length) : Int))) (req (decide ((0 : Int) ≤ i ∧ i < (↑(b.length) : Int))) (Q AX.ret (stS 0 (Go.P8.S [(4, SV.v Ty.b)])
 (decide (List.getD a (Int.toNat i) (0 : Int) < List.getD b (Int.toNat i) (0 : Int)), ()))))) (req (inR IntKind.i64 (i + 1)) (Go.P8.mL a (i + 1) < Go.P8.mL a i ∧ LC2.spec Go.P8.lc28 (a, b, i + 1, ()) Q))))) (Q (AX.exit 0)
 (stS 0 Go.P8.sh28e (a, b, ())))) (Q (AX.exit 0) (stS 0 Go.P8.sh28e (a, b, ())))) := by kernel_rfl
abbrev fcAhead : FC := ⟨[.v L, .v L], [.b], fun x K => x.1.length ≤ big ∧ ∀ r : Bool, r = aheadB x.1 x.2.1 → K (r, ())⟩
theorem v28F (a b : List Int) (K : dens [.b] → Prop) : (xfn1 Try.prog { l2 := [(28, 0, lc28)] } 5 28 fcAhead (a, b, ()) K) =
  (((0 : SV.den (SV.slot 5 (SV.v Go.P8.I))) ≤ (0 : Int) ∧ (0 : Int) ≤ (↑(a.length) : SV.den (SV.slot 5 (SV.v Go.P8.I))) ∧ (0 : Int) ≤ (↑(b.length) : SV.den (SV.slot 5 (SV.v Go.P8.I))) ∧ a.length ≤ 9223372036854775807) ∧ (∀
 (r : Bool), r = Go.P8.aheadB (List.drop 0 a) (List.drop 0 b) → K (r, ())) ∧ (Go.P8.aheadB (List.drop 0 a) (List.drop 0 b) = decide (a.length < b.length) → K (decide ((↑(a.length) : Int) < (↑(b.length) : Int)), ()))) := by kernel_rfl
/-! the statement -/
abbrev sh5 : SV := S [(1, .v L), (3, .v I), (4, .box 0 (.v TDr)), (15, .v L), (16, .own 1 I), (17, .v I)]
abbrev sh5e : SV := S [(3, .v I), (4, .box 0 (.v TDr)), (15, .v L), (16, .own 1 I)]
abbrev lc5 : LC2 := ⟨0, sh5, 2, fun (g, p, d, c, o, i, _) Q => (0 ≤ i ∧ i ≤ g.length ∧ g.length ≤ 8 ∧ d.2.length = g.length ∧ (o.length : Int) ≤ i ∧ (∀ x ∈ g, 0 ≤ x ∧ x ≤ 50) ∧ (∀ x ∈ d.2, 0 ≤ x ∧ x ≤ 50)) ∧ ∀ r, r = o ++ addL (d.2.drop i.toNat) (g.drop i.toNat) → Q (.exit 0) (stS 2 sh5e (p, d, c, r, ()))⟩
theorem v5L (g : List Int) (p : Int) (d : Dr) (c o : List Int) (i : Int) (Q : AX → St → Prop) : (xloop2 Try.prog { nm := true } 5 5 0 lc5 (fun _ => some (sh5e, 2)) (fun (g, _, _, _, _, i, _) => mL g i) (g, p, d, c, o, i, ()) Q) =
  (fork (decide (i < (↑(g.length) : Int))) (req (decide ((0 : Int) ≤ i ∧ i < (↑(List.length (d.2)) : Int))) (req (decide ((0 : Int) ≤ i ∧ i < (↑(g.length) : Int))) (req (inR IntKind.i64 (List.getD (d.2) (Int.toNat i) (0 :
 Int) + List.getD g (Int.toNat i) (0 : Int))) (req (decide (0 + o.length ≤ o.length)) (req (fitsN (o.length + 1) 8) (∀ (ys : List (Ty.den (Ty.i IntKind.i64))), ys = seg 0 (o.length) o ++ [List.getD (d.2) (Int.toNat i) (0 :
 Int) + List.getD g (Int.toNat i) (0 : Int)] → req (inR IntKind.i64 (i + 1)) (req (decide (0 + (o.length + 1) ≤ ys.length)) (Go.P8.mL g (i + 1) < Go.P8.mL g i ∧ LC2.spec Go.P8.lc5 (g, p, d, c, seg 0 (o.length + 1) ys, i +
 1, ()) Q)))))))) (req (decide (0 + o.length ≤ o.length)) (Q (AX.exit 0) (stS 2 Go.P8.sh5e (p, d, c, seg 0 (o.length) o, ()))))) := by kernel_rfl
abbrev fcFew : FC := ⟨[.v TDr, .v L, .v L, .v I], [.b], fun x K => (okD x.1 ∧ x.2.1.length ≤ big ∧ x.2.2.1.length ≤ big) ∧ K (true, ())⟩
theorem v5F (d : Dr) (g o : List Int) (p : Int) (K : dens [.b] → Prop) : (xfn1 Try.prog { nm := true, f := [(12, fcPayE), (15, fcCheck'), (17, fcChange), (19, fcWorks), (25, fcValue), (26, fcFrom'), (27, fcSum), (28, fcAhead)], l2 := [(5, 0, lc5)] } 5 5 fcFew (d, g, o, p, ()) K) =
  (o.length ≤ 9223372036854775807 ∧ ∀ (n : Int) (b : Bool), b = (Go.P8.goodF (d.1) o (d.2) 0 && decide (o.length = List.length (d.1))) → inR IntKind.i64 n = true → (List.length (d.1) ≤ 8 → Go.P8.goodF (d.1) o (d.2) 0 = true
 → n = Go.P8.valueN (d.1) o) → (List.length (d.1) ≤ 9223372036854775807 ∧ List.length (d.2) ≤ 9223372036854775807) ∧ ∀ (r : List Int) (e : Int), (r, e) = Go.P8.payE d n → fork b (∀ (b : Bool), b = decide ((0 : Int) ≤ n ∧ n
 ≤ (2000 : Int)) → fork b ((List.length (d.1) ≤ 9223372036854775807 ∧ List.length (d.2) ≤ 9223372036854775807) ∧ ∀ (e_1 : Int), e_1 = Go.P8.checkE d → fork (e_1 == (0 : Int)) (r.length ≤ 9223372036854775807 ∧ ∀ (n_1 : Int)
 (b : Bool), b = (Go.P8.goodF (d.1) r (d.2) 0 && decide (r.length = List.length (d.1))) → inR IntKind.i64 n_1 = true → (List.length (d.1) ≤ 8 → Go.P8.goodF (d.1) r (d.2) 0 = true → n_1 = Go.P8.valueN (d.1) r) → fork (e !=
 (0 : Int)) (K (false, ())) (fork (!b) (K (false, ())) (fork (n_1 != n) (K (false, ())) ((r.length ≤ 100 ∧ ∀ (y : Ty.den Go.P8.I), y ∈ r → (0 : Ty.den Go.P8.I) ≤ y ∧ y ≤ (1000000 : Ty.den Go.P8.I)) ∧ ∀ (r_1 : Int), r_1 =
 List.sum r → (o.length ≤ 100 ∧ ∀ (y : Ty.den Go.P8.I), y ∈ o → (0 : Ty.den Go.P8.I) ≤ y ∧ y ≤ (1000000 : Ty.den Go.P8.I)) ∧ ∀ (r_2 : Int), r_2 = List.sum o → fork (decide (r_1 > r_2)) (K (false, ())) ((r.length ≤ 100 ∧ ∀
 (y : Ty.den Go.P8.I), y ∈ r → (0 : Ty.den Go.P8.I) ≤ y ∧ y ≤ (1000000 : Ty.den Go.P8.I)) ∧ ∀ (r_3 : Int), r_3 = List.sum r → (o.length ≤ 100 ∧ ∀ (y : Ty.den Go.P8.I), y ∈ o → (0 : Ty.den Go.P8.I) ≤ y ∧ y ≤ (1000000 :
 Ty.den Go.P8.I)) ∧ ∀ (r_4 : Int), r_4 = List.sum o → fork (r_3 == r_4) (r.length ≤ 9223372036854775807 ∧ ∀ (r_5 : Bool), r_5 = Go.P8.aheadB r o → fork r_5 (K (false, ())) ((List.length (d.1) ≤ 9223372036854775807 ∧
 List.length (d.2) ≤ 9223372036854775807 ∧ g.length ≤ 9223372036854775807) ∧ ∀ (r : List Int) (e : Int), (r, e) = Go.P8.changeE d g p → fork (e != (0 : Int)) (fork ((↑(r.length) : Int) == (0 : Int)) (K (true, ())) (K
 (false, ()))) (fork ((↑(g.length) : Int) != (↑(List.length (d.2)) : Int)) (K (false, ())) (fork ((↑(g.length) : Int) != (↑(List.length (d.1)) : Int)) (K (false, ())) (((0 : SV.den (SV.slot 17 (SV.v Go.P8.I))) ≤ (0 : Int)
 ∧ (0 : Int) ≤ (↑(g.length) : SV.den (SV.slot 17 (SV.v Go.P8.I))) ∧ g.length ≤ 8 ∧ List.length (d.2) = g.length ∧ (0 : Int) ≤ (0 : Int) ∧ (∀ (x : Ty.den Go.P8.I), x ∈ g → (0 : Ty.den Go.P8.I) ≤ x ∧ x ≤ (50 : Ty.den
 Go.P8.I)) ∧ ∀ (x : Ty.den Go.P8.I), x ∈ d.2 → (0 : Ty.den Go.P8.I) ≤ x ∧ x ≤ (50 : Ty.den Go.P8.I)) ∧ ∀ (r_6 : SV.den (SV.slot ((16, SV.own 1 Go.P8.I).1) ((16, SV.own 1 Go.P8.I).2))), r_6 = [] ++ Go.P8.addL (List.drop 0
 (d.2)) (List.drop 0 g) → List.length (d.2) ≤ 9223372036854775807 ∧ ∀ (n : Int) (b : Bool), b = (Go.P8.goodF (d.1) (d.2) (d.2) 0 && decide (List.length (d.2) = List.length (d.1))) → inR IntKind.i64 n = true → (List.length
 (d.1) ≤ 8 → Go.P8.goodF (d.1) (d.2) (d.2) 0 = true → n = Go.P8.valueN (d.1) (d.2)) → req (decide (0 + r_6.length ≤ r_6.length)) (req (decide (0 + r_6.length ≤ r_6.length)) (List.length (seg 0 (r_6.length) r_6) ≤
 9223372036854775807 ∧ ∀ (n_2 : Int) (b : Bool), b = (Go.P8.goodF (d.1) (seg 0 (r_6.length) r_6) (seg 0 (r_6.length) r_6) 0 && decide (List.length (seg 0 (r_6.length) r_6) = List.length (d.1))) → inR IntKind.i64 n_2 = true
 → (List.length (d.1) ≤ 8 → Go.P8.goodF (d.1) (seg 0 (r_6.length) r_6) (seg 0 (r_6.length) r_6) 0 = true → n_2 = Go.P8.valueN (d.1) (seg 0 (r_6.length) r_6)) → req (decide (0 + r_6.length ≤ r_6.length)) (r.length ≤
 9223372036854775807 ∧ ∀ (n_3 : Int) (b : Bool), b = (Go.P8.goodF (d.1) r (seg 0 (r_6.length) r_6) 0 && decide (r.length = List.length (d.1))) → inR IntKind.i64 n_3 = true → (List.length (d.1) ≤ 8 → Go.P8.goodF (d.1) r
 (seg 0 (r_6.length) r_6) 0 = true → n_3 = Go.P8.valueN (d.1) r) → fork b (req (inR IntKind.i64 (n_2 - n_3)) (req (inR IntKind.i64 (n + p)) (fork (n_2 - n_3 == n + p) (K (true, ())) (K (false, ()))))) (K (false,
 ())))))))))) ((List.length (d.1) ≤ 9223372036854775807 ∧ List.length (d.2) ≤ 9223372036854775807 ∧ g.length ≤ 9223372036854775807) ∧ ∀ (r : List Int) (e : Int), (r, e) = Go.P8.changeE d g p → fork (e != (0 : Int)) (fork
 ((↑(r.length) : Int) == (0 : Int)) (K (true, ())) (K (false, ()))) (fork ((↑(g.length) : Int) != (↑(List.length (d.2)) : Int)) (K (false, ())) (fork ((↑(g.length) : Int) != (↑(List.length (d.1)) : Int)) (K (false, ()))
 (((0 : SV.den (SV.slot 17 (SV.v Go.P8.I))) ≤ (0 : Int) ∧ (0 : Int) ≤ (↑(g.length) : SV.den (SV.slot 17 (SV.v Go.P8.I))) ∧ g.length ≤ 8 ∧ List.length (d.2) = g.length ∧ (0 : Int) ≤ (0 : Int) ∧ (∀ (x : Ty.den Go.P8.I), x ∈
 g → (0 : Ty.den Go.P8.I) ≤ x ∧ x ≤ (50 : Ty.den Go.P8.I)) ∧ ∀ (x : Ty.den Go.P8.I), x ∈ d.2 → (0 : Ty.den Go.P8.I) ≤ x ∧ x ≤ (50 : Ty.den Go.P8.I)) ∧ ∀ (r_5 : SV.den (SV.slot ((16, SV.own 1 Go.P8.I).1) ((16, SV.own 1
 Go.P8.I).2))), r_5 = [] ++ Go.P8.addL (List.drop 0 (d.2)) (List.drop 0 g) → List.length (d.2) ≤ 9223372036854775807 ∧ ∀ (n : Int) (b : Bool), b = (Go.P8.goodF (d.1) (d.2) (d.2) 0 && decide (List.length (d.2) = List.length
 (d.1))) → inR IntKind.i64 n = true → (List.length (d.1) ≤ 8 → Go.P8.goodF (d.1) (d.2) (d.2) 0 = true → n = Go.P8.valueN (d.1) (d.2)) → req (decide (0 + r_5.length ≤ r_5.length)) (req (decide (0 + r_5.length ≤ r_5.length))
 (List.length (seg 0 (r_5.length) r_5) ≤ 9223372036854775807 ∧ ∀ (n_2 : Int) (b : Bool), b = (Go.P8.goodF (d.1) (seg 0 (r_5.length) r_5) (seg 0 (r_5.length) r_5) 0 && decide (List.length (seg 0 (r_5.length) r_5) =
 List.length (d.1))) → inR IntKind.i64 n_2 = true → (List.length (d.1) ≤ 8 → Go.P8.goodF (d.1) (seg 0 (r_5.length) r_5) (seg 0 (r_5.length) r_5) 0 = true → n_2 = Go.P8.valueN (d.1) (seg 0 (r_5.length) r_5)) → req (decide
 (0 + r_5.length ≤ r_5.length)) (r.length ≤ 9223372036854775807 ∧ ∀ (n_3 : Int) (b : Bool), b = (Go.P8.goodF (d.1) r (seg 0 (r_5.length) r_5) 0 && decide (r.length = List.length (d.1))) → inR IntKind.i64 n_3 = true →
 (List.length (d.1) ≤ 8 → Go.P8.goodF (d.1) r (seg 0 (r_5.length) r_5) 0 = true → n_3 = Go.P8.valueN (d.1) r) → fork b (req (inR IntKind.i64 (n_2 - n_3)) (req (inR IntKind.i64 (n + p)) (fork (n_2 - n_3 == n + p) (K (true,
 ())) (K (false, ()))))) (K (false, ())))))))))))))) ((List.length (d.1) ≤ 9223372036854775807 ∧ List.length (d.2) ≤ 9223372036854775807 ∧ g.length ≤ 9223372036854775807) ∧ ∀ (r : List Int) (e : Int), (r, e) =
 Go.P8.changeE d g p → fork (e != (0 : Int)) (fork ((↑(r.length) : Int) == (0 : Int)) (K (true, ())) (K (false, ()))) (fork ((↑(g.length) : Int) != (↑(List.length (d.2)) : Int)) (K (false, ())) (fork ((↑(g.length) : Int)
 != (↑(List.length (d.1)) : Int)) (K (false, ())) (((0 : SV.den (SV.slot 17 (SV.v Go.P8.I))) ≤ (0 : Int) ∧ (0 : Int) ≤ (↑(g.length) : SV.den (SV.slot 17 (SV.v Go.P8.I))) ∧ g.length ≤ 8 ∧ List.length (d.2) = g.length ∧ (0 :
 Int) ≤ (0 : Int) ∧ (∀ (x : Ty.den Go.P8.I), x ∈ g → (0 : Ty.den Go.P8.I) ≤ x ∧ x ≤ (50 : Ty.den Go.P8.I)) ∧ ∀ (x : Ty.den Go.P8.I), x ∈ d.2 → (0 : Ty.den Go.P8.I) ≤ x ∧ x ≤ (50 : Ty.den Go.P8.I)) ∧ ∀ (r_1 : SV.den
 (SV.slot ((16, SV.own 1 Go.P8.I).1) ((16, SV.own 1 Go.P8.I).2))), r_1 = [] ++ Go.P8.addL (List.drop 0 (d.2)) (List.drop 0 g) → List.length (d.2) ≤ 9223372036854775807 ∧ ∀ (n : Int) (b : Bool), b = (Go.P8.goodF (d.1) (d.2)
 (d.2) 0 && decide (List.length (d.2) = List.length (d.1))) → inR IntKind.i64 n = true → (List.length (d.1) ≤ 8 → Go.P8.goodF (d.1) (d.2) (d.2) 0 = true → n = Go.P8.valueN (d.1) (d.2)) → req (decide (0 + r_1.length ≤
 r_1.length)) (req (decide (0 + r_1.length ≤ r_1.length)) (List.length (seg 0 (r_1.length) r_1) ≤ 9223372036854775807 ∧ ∀ (n_1 : Int) (b : Bool), b = (Go.P8.goodF (d.1) (seg 0 (r_1.length) r_1) (seg 0 (r_1.length) r_1) 0
 && decide (List.length (seg 0 (r_1.length) r_1) = List.length (d.1))) → inR IntKind.i64 n_1 = true → (List.length (d.1) ≤ 8 → Go.P8.goodF (d.1) (seg 0 (r_1.length) r_1) (seg 0 (r_1.length) r_1) 0 = true → n_1 =
 Go.P8.valueN (d.1) (seg 0 (r_1.length) r_1)) → req (decide (0 + r_1.length ≤ r_1.length)) (r.length ≤ 9223372036854775807 ∧ ∀ (n_2 : Int) (b : Bool), b = (Go.P8.goodF (d.1) r (seg 0 (r_1.length) r_1) 0 && decide (r.length
 = List.length (d.1))) → inR IntKind.i64 n_2 = true → (List.length (d.1) ≤ 8 → Go.P8.goodF (d.1) r (seg 0 (r_1.length) r_1) 0 = true → n_2 = Go.P8.valueN (d.1) r) → fork b (req (inR IntKind.i64 (n_1 - n_2)) (req (inR
 IntKind.i64 (n + p)) (fork (n_1 - n_2 == n + p) (K (true, ())) (K (false, ()))))) (K (false, ())))))))))) ((List.length (d.1) ≤ 9223372036854775807 ∧ List.length (d.2) ≤ 9223372036854775807 ∧ g.length ≤
 9223372036854775807) ∧ ∀ (r : List Int) (e : Int), (r, e) = Go.P8.changeE d g p → fork (e != (0 : Int)) (fork ((↑(r.length) : Int) == (0 : Int)) (K (true, ())) (K (false, ()))) (fork ((↑(g.length) : Int) != (↑(List.length
 (d.2)) : Int)) (K (false, ())) (fork ((↑(g.length) : Int) != (↑(List.length (d.1)) : Int)) (K (false, ())) (((0 : SV.den (SV.slot 17 (SV.v Go.P8.I))) ≤ (0 : Int) ∧ (0 : Int) ≤ (↑(g.length) : SV.den (SV.slot 17 (SV.v
 Go.P8.I))) ∧ g.length ≤ 8 ∧ List.length (d.2) = g.length ∧ (0 : Int) ≤ (0 : Int) ∧ (∀ (x : Ty.den Go.P8.I), x ∈ g → (0 : Ty.den Go.P8.I) ≤ x ∧ x ≤ (50 : Ty.den Go.P8.I)) ∧ ∀ (x : Ty.den Go.P8.I), x ∈ d.2 → (0 : Ty.den
 Go.P8.I) ≤ x ∧ x ≤ (50 : Ty.den Go.P8.I)) ∧ ∀ (r_1 : SV.den (SV.slot ((16, SV.own 1 Go.P8.I).1) ((16, SV.own 1 Go.P8.I).2))), r_1 = [] ++ Go.P8.addL (List.drop 0 (d.2)) (List.drop 0 g) → List.length (d.2) ≤
 9223372036854775807 ∧ ∀ (n : Int) (b : Bool), b = (Go.P8.goodF (d.1) (d.2) (d.2) 0 && decide (List.length (d.2) = List.length (d.1))) → inR IntKind.i64 n = true → (List.length (d.1) ≤ 8 → Go.P8.goodF (d.1) (d.2) (d.2) 0 =
 true → n = Go.P8.valueN (d.1) (d.2)) → req (decide (0 + r_1.length ≤ r_1.length)) (req (decide (0 + r_1.length ≤ r_1.length)) (List.length (seg 0 (r_1.length) r_1) ≤ 9223372036854775807 ∧ ∀ (n_1 : Int) (b : Bool), b =
 (Go.P8.goodF (d.1) (seg 0 (r_1.length) r_1) (seg 0 (r_1.length) r_1) 0 && decide (List.length (seg 0 (r_1.length) r_1) = List.length (d.1))) → inR IntKind.i64 n_1 = true → (List.length (d.1) ≤ 8 → Go.P8.goodF (d.1) (seg 0
 (r_1.length) r_1) (seg 0 (r_1.length) r_1) 0 = true → n_1 = Go.P8.valueN (d.1) (seg 0 (r_1.length) r_1)) → req (decide (0 + r_1.length ≤ r_1.length)) (r.length ≤ 9223372036854775807 ∧ ∀ (n_2 : Int) (b : Bool), b =
 (Go.P8.goodF (d.1) r (seg 0 (r_1.length) r_1) 0 && decide (r.length = List.length (d.1))) → inR IntKind.i64 n_2 = true → (List.length (d.1) ≤ 8 → Go.P8.goodF (d.1) r (seg 0 (r_1.length) r_1) 0 = true → n_2 = Go.P8.valueN
 (d.1) r) → fork b (req (inR IntKind.i64 (n_1 - n_2)) (req (inR IntKind.i64 (n + p)) (fork (n_1 - n_2 == n + p) (K (true, ())) (K (false, ()))))) (K (false, ())))))))))) ((List.length (d.1) ≤ 9223372036854775807 ∧
 List.length (d.2) ≤ 9223372036854775807 ∧ g.length ≤ 9223372036854775807) ∧ ∀ (r : List Int) (e : Int), (r, e) = Go.P8.changeE d g p → fork (e != (0 : Int)) (fork ((↑(r.length) : Int) == (0 : Int)) (K (true, ())) (K
 (false, ()))) (fork ((↑(g.length) : Int) != (↑(List.length (d.2)) : Int)) (K (false, ())) (fork ((↑(g.length) : Int) != (↑(List.length (d.1)) : Int)) (K (false, ())) (((0 : SV.den (SV.slot 17 (SV.v Go.P8.I))) ≤ (0 : Int)
 ∧ (0 : Int) ≤ (↑(g.length) : SV.den (SV.slot 17 (SV.v Go.P8.I))) ∧ g.length ≤ 8 ∧ List.length (d.2) = g.length ∧ (0 : Int) ≤ (0 : Int) ∧ (∀ (x : Ty.den Go.P8.I), x ∈ g → (0 : Ty.den Go.P8.I) ≤ x ∧ x ≤ (50 : Ty.den
 Go.P8.I)) ∧ ∀ (x : Ty.den Go.P8.I), x ∈ d.2 → (0 : Ty.den Go.P8.I) ≤ x ∧ x ≤ (50 : Ty.den Go.P8.I)) ∧ ∀ (r_1 : SV.den (SV.slot ((16, SV.own 1 Go.P8.I).1) ((16, SV.own 1 Go.P8.I).2))), r_1 = [] ++ Go.P8.addL (List.drop 0
 (d.2)) (List.drop 0 g) → List.length (d.2) ≤ 9223372036854775807 ∧ ∀ (n : Int) (b : Bool), b = (Go.P8.goodF (d.1) (d.2) (d.2) 0 && decide (List.length (d.2) = List.length (d.1))) → inR IntKind.i64 n = true → (List.length
 (d.1) ≤ 8 → Go.P8.goodF (d.1) (d.2) (d.2) 0 = true → n = Go.P8.valueN (d.1) (d.2)) → req (decide (0 + r_1.length ≤ r_1.length)) (req (decide (0 + r_1.length ≤ r_1.length)) (List.length (seg 0 (r_1.length) r_1) ≤
 9223372036854775807 ∧ ∀ (n_1 : Int) (b : Bool), b = (Go.P8.goodF (d.1) (seg 0 (r_1.length) r_1) (seg 0 (r_1.length) r_1) 0 && decide (List.length (seg 0 (r_1.length) r_1) = List.length (d.1))) → inR IntKind.i64 n_1 = true
 → (List.length (d.1) ≤ 8 → Go.P8.goodF (d.1) (seg 0 (r_1.length) r_1) (seg 0 (r_1.length) r_1) 0 = true → n_1 = Go.P8.valueN (d.1) (seg 0 (r_1.length) r_1)) → req (decide (0 + r_1.length ≤ r_1.length)) (r.length ≤
 9223372036854775807 ∧ ∀ (n_2 : Int) (b : Bool), b = (Go.P8.goodF (d.1) r (seg 0 (r_1.length) r_1) 0 && decide (r.length = List.length (d.1))) → inR IntKind.i64 n_2 = true → (List.length (d.1) ≤ 8 → Go.P8.goodF (d.1) r
 (seg 0 (r_1.length) r_1) 0 = true → n_2 = Go.P8.valueN (d.1) r) → fork b (req (inR IntKind.i64 (n_1 - n_2)) (req (inR IntKind.i64 (n + p)) (fork (n_1 - n_2 == n + p) (K (true, ())) (K (false, ()))))) (K (false,
 ())))))))))) := by kernel_rfl
end Go.P8
