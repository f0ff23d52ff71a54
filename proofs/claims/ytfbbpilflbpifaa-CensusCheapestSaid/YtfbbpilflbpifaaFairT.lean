/- Draw, with the list of numbers kept: what is to be shown, reduced. No conditions. (try) -/
import Derived.Test.YtfbbpilflbpifaaPatTP
set_option linter.unusedSimpArgs false
set_option linter.unusedVariables false
set_option linter.constructorNameAsVariable false
set_option maxRecDepth 100000
set_option maxHeartbeats 2000000
namespace Go.P10
open Go.Lom Go.Proofs Go

abbrev sh39k : SV := S [(0, .v I), (1, .v I), (2, .lst 0 I), (8, .v I), (21, .sls 0 1), (22, .v I), (23, .v I)]
abbrev sh39ke : SV := S [(0, .v I), (1, .v I), (2, .lst 0 I), (8, .v I)]
abbrev sh39kr : SV := S [(2, .lst 0 I), (6, .v L), (7, .v E)]
def ex39k : Ex2
  | .ret => some (sh39kr, 1)
  | _ => some (sh39ke, 1)
abbrev lc39k : LC2 := ⟨1, sh39k, 1, fun (n, m, l, s, k, c, i, _) Q => (1 ≤ n ∧ n ≤ 8 ∧ k = l.length ∧ c = l.length ∧ l.length ≤ 16 ∧ (0 ≤ i ∧ i ≤ l.length) ∧ (0 ≤ s ∧ s ≤ 40320 * i)) ∧
  ((l.drop i.toNat).all (inF n) = true → ∀ s', s' = s + (l.drop i.toNat).sum → Q (.exit 0) (stS 1 sh39ke (n, m, l, s', ()))) ∧ ((l.drop i.toNat).all (inF n) = false → Q .ret (stS 1 sh39kr (l, [], 104, ())))⟩
theorem v39kL (n m : Int) (l : List Int) (s : Int) (k : Nat) (c i : Int) (Q : AX → St → Prop) : (xloop2 Try.prog { nm := true, f := [(76, fc76)] } 5 39 0 lc39k ex39k (fun (_, _, l, _, _, _, i, _) => mL l i) (n, m, l, s, k, c, i, ()) Q) =
  (fork (decide (i < c)) (req (decide ((0 : Int) ≤ i ∧ i < (↑k : Int))) (req (decide (Int.toNat i + 0 < l.length)) (n ≤ (8 : AT.den (AT.v Go.P10.I)) ∧ ∀ (r : Int), r = Go.P10.facI (Int.toNat n) → req (inR IntKind.i64 (r -
 1)) (fork (decide (List.getD l (Int.toNat i + 0) (0 : Int) ≥ (0 : Int))) (fork (!decide (List.getD l (Int.toNat i + 0) (0 : Int) ≤ r - 1)) (req (decide (l.length = l.length)) (Q AX.ret (stS 1 Go.P10.sh39kr (l, [], (104 :
 Int), ())))) (req (inR IntKind.i64 (s + List.getD l (Int.toNat i + 0) (0 : Int))) (req (inR IntKind.i64 (i + 1)) (req (decide (l.length = l.length)) (Go.P10.mL l (i + 1) < Go.P10.mL l i ∧ LC2.spec Go.P10.lc39k (n, m, l, s
 + List.getD l (Int.toNat i + 0) (0 : Int), k, c, i + 1, ()) Q))))) (req (decide (l.length = l.length)) (Q AX.ret (stS 1 Go.P10.sh39kr (l, [], (104 : Int), ())))))))) (req (decide (l.length = l.length)) (Q (AX.exit 0) (stS
 1 Go.P10.sh39ke (n, m, l, s, ()))))) := by kernel_rfl
abbrev fc39k : FC2 := ⟨A [.v I, .v I, .lst 0 I], 1, A [.any, .any, .lst 0 I, .v L, .v E], 1, fun (n, m, l, _) K => l.length ≤ big ∧ ∀ r e, (r, e) = drawV n m l → K ((), (), l, r, e, ())⟩
theorem v39kF (n m : Int) (l : List Int) (K : fc39k.post.den → Prop) : (xfn2 Try.prog { nm := true, f := [(76, fc76), (77, fc77)], f2 := [(58, fc58)], l2 := [(39, 0, lc39k)] } 5 39 fc39k (n, m, l, ()) K) =
  (fork (decide (n ≥ (1 : Int))) (fork (!decide (n ≤ (8 : Int))) (req (decide (l.length = l.length)) (K ((), (), l, [], (104 : Int), ()))) (fork (decide ((↑(l.length) : Int) ≥ (1 : Int))) (fork (!decide ((↑(l.length) : Int)
 ≤ (16 : Int))) (req (decide (l.length = l.length)) (K ((), (), l, [], (104 : Int), ()))) (req (decide (l.length = l.length)) (((1 : SV.den (SV.slot 0 (SV.v Go.P10.I))) ≤ n ∧ n ≤ (8 : SV.den (SV.slot 0 (SV.v Go.P10.I))) ∧
 l.length = l.length ∧ (↑(l.length) : Int) = (↑(l.length) : SV.den (SV.slot 22 (SV.v Go.P10.I))) ∧ l.length ≤ 16 ∧ ((0 : SV.den (SV.slot 23 (SV.v Go.P10.I))) ≤ (0 : Int) ∧ (0 : Int) ≤ (↑(l.length) : SV.den (SV.slot 23
 (SV.v Go.P10.I)))) ∧ (0 : SV.den (SV.slot 8 (SV.v Go.P10.I))) ≤ (0 : Int) ∧ (0 : Int) ≤ (40320 : SV.den (SV.slot 8 (SV.v Go.P10.I))) * (0 : Int)) ∧ (List.all (List.drop 0 l) (Go.P10.inF n) = true → ∀ (s' : SV.den (SV.slot
 ((8, SV.v Go.P10.I).1) ((8, SV.v Go.P10.I).2))), s' = (0 : Int) + List.sum (List.drop 0 l) → fork (decide (m ≥ (0 : Int))) (fork (!decide (m ≤ n)) (req (decide (l.length = l.length)) (K ((), (), l, [], (7 : Int), ()))) (n
 ≤ (8 : AT.den (AT.v Go.P10.I)) ∧ ∀ (r : Int), r = Go.P10.facI (Int.toNat n) → req (decide (r ≠ (0 : Int))) (((1 : AT.den (AT.v Go.P10.I)) ≤ n ∧ n ≤ (8 : AT.den (AT.v Go.P10.I)) ∧ (0 : AT.den (AT.v Go.P10.I)) ≤ Int.tmod s'
 r ∧ Int.tmod s' r < Go.P10.facI (Int.toNat n)) ∧ ∀ (o : List Int), o = Go.P10.pad8 (Go.P10.ordF n (Int.tmod s' r)) → req (decide (o.length = 8)) (req (decide (o.length = 8)) (∀ (ys : List (Ty.den Go.P10.I)), ys = o → req
 (decide ((0 : Int) ≤ (0 : Int) ∧ (0 : Int) ≤ m ∧ m ≤ (8 : Int))) (req (decide (ys.length = 8)) (req (decide (0 + Int.toNat m ≤ ys.length)) (List.length (seg 0 (Int.toNat m) ys) ≤ 1000 ∧ ∀ (r : List Int), r = seg 0
 (Int.toNat m) ys → req (decide (l.length = l.length)) (req (decide (0 + r.length ≤ r.length)) (K ((), (), l, seg 0 (r.length) r, (0 : Int), ()))))))))))) (req (decide (l.length = l.length)) (K ((), (), l, [], (7 : Int),
 ())))) ∧ (List.all (List.drop 0 l) (Go.P10.inF n) = false → req (decide (l.length = l.length)) (K ((), (), l, [], (104 : SV.den (SV.slot 7 (SV.v Go.P10.E))), ())))))) (req (decide (l.length = l.length)) (K ((), (), l, [],
 (104 : Int), ()))))) (req (decide (l.length = l.length)) (K ((), (), l, [], (104 : Int), ())))) := by kernel_rfl
end Go.P10
