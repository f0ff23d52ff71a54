/- TillLinks: states and what is to be shown, reduced. No conditions. -/
import Derived.Test.YtfenogdjhadcoaaWatS3
import Derived.Test.YtfenogdjhadcoaaRefS8
set_option linter.unusedSimpArgs false
set_option linter.unusedVariables false
set_option linter.constructorNameAsVariable false
set_option maxRecDepth 100000
set_option maxHeartbeats 2000000
namespace Go.P8
open Go.Lom Go.Proofs Go

abbrev TRep : Ty := .pr LD (.pr L2 TW)
abbrev fcRing : FC := ⟨[.v I, .v I], [I], fun x K => (0 < x.2.1 ∧ x.2.1 ≤ 4611686018427387904) ∧ ∀ r : Int, r = x.1 % x.2.1 → K (r, ())⟩
theorem v33F (n m : Int) (K : dens [I] → Prop) : (xfn1 Try.prog {} 5 33 fcRing (n, m, ()) K) =
  (fork (decide (m ≤ (0 : Int))) (K ((0 : Int), ())) (req (decide (m ≠ (0 : Int))) (req (inR IntKind.i64 (Int.tmod n m + m)) (req (decide (m ≠ (0 : Int))) (K (Int.tmod (Int.tmod n m + m) m, ())))))) := by kernel_rfl
/-- Reasons, of which the error alone is wanted: the list of links stays the caller's own. -/
abbrev fcReasE : FC2 := ⟨A [.v LD, .lst 0 T2, .v TW, .v I], 1, A [.any, .lst 0 T2, .any, .any, .any, .v E], 1, fun (l, ls, w, k, _) K => (l.length ≤ big ∧ ls.length ≤ big) ∧ ∀ e : Int, e = (reasonsF l ls w k).2 → K ((), ls, (), (), (), e, ())⟩
structure LinkInv (l m : List Int) : Prop where
  l24 : l.length = 24
  m24 : m.length = 24
  bd : ∀ k, inP k → 0 ≤ at' l k ∧ at' l k ≤ k
  le : ∀ k, inP k → at' m k ≤ at' l k
  fix : ∀ k, inP k → at' l (at' l k) = at' l k
abbrev sh8 : SV := S [(14, .v L), (16, .v L), (18, .v I)]
abbrev lc8 : LC2 := ⟨0, sh8, 0, fun (l, m, i, _) Q => (LinkInv l m ∧ 0 ≤ i ∧ i ≤ 24) ∧ Q (.exit 0) (stS 0 .nil ())⟩
theorem v8L (l m : List Int) (i : Int) (Q : AX → St → Prop) : (xloop2 Try.prog { f := [(26, fcFrom')] } 5 8 0 lc8 (fun _ => some (.nil, 0)) (fun (_, _, i, _) => (24 - i).toNat) (l, m, i, ()) Q) =
  (fork (decide (i < (24 : Int))) (req (decide ((0 : Int) ≤ i ∧ i < (↑(l.length) : Int))) (∀ (b : Bool), b = decide ((0 : Int) ≤ List.getD l (Int.toNat i) (0 : Int) ∧ List.getD l (Int.toNat i) (0 : Int) ≤ i) → fork (!b) (Q
 AX.ret (stS 0 SV.nil ())) (req (decide ((0 : Int) ≤ i ∧ i < (↑(m.length) : Int))) (req (decide ((0 : Int) ≤ i ∧ i < (↑(l.length) : Int))) (fork (decide (List.getD m (Int.toNat i) (0 : Int) > List.getD l (Int.toNat i) (0 :
 Int))) (Q AX.ret (stS 0 SV.nil ())) (req (decide ((0 : Int) ≤ i ∧ i < (↑(l.length) : Int))) (req (decide ((0 : Int) ≤ List.getD l (Int.toNat i) (0 : Int) ∧ List.getD l (Int.toNat i) (0 : Int) < (↑(l.length) : Int))) (req
 (decide ((0 : Int) ≤ i ∧ i < (↑(l.length) : Int))) (fork (List.getD l (Int.toNat (List.getD l (Int.toNat i) (0 : Int))) (0 : Int) != List.getD l (Int.toNat i) (0 : Int)) (Q AX.ret (stS 0 SV.nil ())) (req (inR IntKind.i64
 (i + 1)) (Int.toNat ((24 : SV.den (SV.slot 18 (SV.v Go.P8.I))) - (i + 1)) < Int.toNat ((24 : SV.den (SV.slot 18 (SV.v Go.P8.I))) - i) ∧ LC2.spec Go.P8.lc8 (l, m, i + 1, ()) Q))))))))))) (Q (AX.exit 0) (stS 0 SV.nil ()))) := by kernel_rfl
abbrev fc8 : FC := ⟨[.v TRep, .v I, .v T2], [.b], fun x K => (x.1.1.length ≤ big ∧ x.1.2.1.length ≤ big) ∧ K (true, ())⟩
theorem v8F (l : List Dl) (ls : List Lk) (w : Wt) (k : Int) (n : Int × Int) (K : dens [.b] → Prop) : (xfn1 Try.prog { nm := true, f := [(34, fcReas), (33, fcRing), (31, fcLinked), (26, fcFrom'), (19, fcWorks)], f2 := [(34, fcReasE)], l2 := [(8, 0, lc8)] } 5 8 fc8 ((l, ls, w), k, n, ()) K) =
  ((l.length ≤ 9223372036854775807 ∧ ls.length ≤ 9223372036854775807) ∧ ∀ (r : List Int) (e : Int), (r, e) = Go.P8.reasonsF l ls w k → fork (e != (0 : Int)) (K (true, ())) (fork (decide ((↑(ls.length) : Int) ≥ (64 : Int)))
 (K (true, ())) (((0 : AT.den (AT.v Go.P8.I)) < (24 : Int) ∧ (24 : Int) ≤ (4611686018427387904 : AT.den (AT.v Go.P8.I))) ∧ ∀ (r : Int), r = n.1 % (24 : Int) → req (inR IntKind.i64 (r + 1)) (((0 : AT.den (AT.v Go.P8.I)) <
 (23 : Int) ∧ (23 : Int) ≤ (4611686018427387904 : AT.den (AT.v Go.P8.I))) ∧ ∀ (r_1 : Int), r_1 = n.2 % (23 : Int) → req (inR IntKind.i64 (r + 1 + r_1)) (((0 : AT.den (AT.v Go.P8.I)) < (24 : Int) ∧ (24 : Int) ≤
 (4611686018427387904 : AT.den (AT.v Go.P8.I))) ∧ ∀ (r_2 : Int), r_2 = (r + 1 + r_1) % (24 : Int) → req (fitsN (0 + ls.length) 16) (∀ (ys : List (Ty.den (Ty.pr (Ty.i IntKind.i64) (Ty.i IntKind.i64)))), ys = [] ++ ls → req
 (decide (0 + (0 + ls.length) ≤ ys.length)) (req (fitsN (0 + ls.length + 1) 16) (∀ (ys_1 : List (Ty.den (Ty.pr (Ty.i IntKind.i64) (Ty.i IntKind.i64)))), ys_1 = seg 0 (0 + ls.length) ys ++ [(r, r_2)] → req (decide (0 +
 ls.length + 1 = ys_1.length)) ((l.length ≤ 9223372036854775807 ∧ ys_1.length ≤ 9223372036854775807) ∧ ∀ (e : Int), e = (Go.P8.reasonsF l ys_1 w k).2 → ls.length ≤ 9223372036854775807 ∧ ∀ (r_3 : List Int) (e_1 : Int),
 (r_3, e_1) = Go.P8.linkedR ls → (Go.P8.linkedOk ls = true → Go.P8.HeadsOk ls (Go.P8.headOf ls)) → req (decide (0 + (0 + ls.length + 1) ≤ ys_1.length)) (List.length (seg 0 (0 + ls.length + 1) ys_1) ≤ 9223372036854775807 ∧
 ∀ (r_4 : List Int) (e_2 : Int), (r_4, e_2) = Go.P8.linkedR (seg 0 (0 + ls.length + 1) ys_1) → (Go.P8.linkedOk (seg 0 (0 + ls.length + 1) ys_1) = true → Go.P8.HeadsOk (seg 0 (0 + ls.length + 1) ys_1) (Go.P8.headOf (seg 0
 (0 + ls.length + 1) ys_1))) → fork (e != (0 : Int)) (K (false, ())) (fork (e_1 != (0 : Int)) (K (false, ())) (fork (e_2 != (0 : Int)) (K (false, ())) (fork ((↑(r_3.length) : Int) != (24 : Int)) (K (false, ())) (fork
 ((↑(r_4.length) : Int) != (24 : Int)) (K (false, ())) (req (decide ((0 : Int) ≤ r ∧ r < (↑(r_4.length) : Int))) (req (decide ((0 : Int) ≤ r_2 ∧ r_2 < (↑(r_4.length) : Int))) (fork (List.getD r_4 (Int.toNat r) (0 : Int) !=
 List.getD r_4 (Int.toNat r_2) (0 : Int)) (K (false, ())) ((Go.P8.LinkInv r_3 r_4 ∧ (0 : SV.den (SV.slot 18 (SV.v Go.P8.I))) ≤ (0 : Int) ∧ (0 : Int) ≤ (24 : SV.den (SV.slot 18 (SV.v Go.P8.I)))) ∧ K (true,
 ()))))))))))))))))))) := by kernel_rfl
end Go.P8
