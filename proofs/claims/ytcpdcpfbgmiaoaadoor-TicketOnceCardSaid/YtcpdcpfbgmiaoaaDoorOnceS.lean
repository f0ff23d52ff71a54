/- TicketOnce: states and what is to be shown, reduced. No conditions. -/
import Derived.Test.YtcpdcpfbgmiaoaaDoorRefB
set_option linter.unusedSimpArgs false
set_option linter.unusedVariables false
set_option linter.constructorNameAsVariable false
set_option maxRecDepth 100000
set_option maxHeartbeats 2000000
namespace Go.P3
open Go.Lom Go.Proofs Go

/-- Pledge and parent of each ticket. -/
abbrev Pc : Type := Tx × Int
def pcs (ts : List Tk) : List Pc := ts.map fun t => (t.2.1, t.2.2.2.2.2)
def nameAt' (l : List Pc) (n : Int) : Tx := (l.getD (n - 1).toNat ([], 0)).1
/-- Was a pledge divided? -/
def divB (l : List Pc) (p : Tx) : Bool := l.any fun t => decide (0 < t.2) && decide (t.2 ≤ l.length) && decide (nameAt' l t.2 = p) && !decide (t.1 = p)
def manyI (ts : List Tk) (p : Tx) : Nat := ts.countP fun t => named p t && liveB t
def wantI (ts : List Tk) (over : List Tx) (p : Tx) : Nat := if (divB (pcs ts) p || over.any (eqT p)) = true then 0 else 1
def sortedE (es : List Ev) : Prop := ∀ i : Nat, i + 1 < es.length → (es.getD i E0).2.1 ≤ (es.getD (i + 1) E0).2.1
/-! single -/
abbrev sh40a : SV := S [(0, .box 0 (rollC 3 4)), (1, .v LT), (5, .v LK), (6, .v LE), (7, .v I)]
abbrev sh40x : SV := S [(0, .box 0 (rollC 3 4)), (1, .v LT), (5, .v LK)]
abbrev lc40a : LC2 := ⟨3, sh40a, 5, fun (r, o, t, x, i, _) Q => (sortedE x ∧ x.length ≤ 1000 ∧ 1 ≤ i) ∧ Q (.exit 0) (stS 5 sh40x (r, o, t, ()))⟩
theorem v40A (r : rolV) (o : List Tx) (t : List Tk) (x : List Ev) (i : Int) (Q : AX → St → Prop) : (xloop2 Tryd.prog {} 5 40 0 lc40a (fun _ => some (sh40x, 5)) (fun (_, _, _, x, i, _) => mL x i) (r, o, t, x, i, ()) Q) =
  (fork (decide (i < (↑(x.length) : Int))) (req (decide ((0 : Int) ≤ i ∧ i < (↑(x.length) : Int))) (req (inR IntKind.i64 (i - 1)) (req (decide ((0 : Int) ≤ i - 1 ∧ i - 1 < (↑(x.length) : Int))) (fork (decide ((List.getD x
 (Int.toNat i) (0, 0, 0, 0, 0)).2.1 < ((List.getD x (Int.toNat (i - 1)) (0, 0, 0, 0, 0)).2).1)) (req (decide (0 + List.length (r.2.2.1) ≤ List.length (r.2.2.1))) (req (decide (0 + List.length (r.2.2.2.1) ≤ List.length
 (r.2.2.2.1))) (Q AX.ret (stS 5 sh40x ((r.1, r.2.1, seg 0 (List.length (r.2.2.1)) (r.2.2.1), seg 0 (List.length (r.2.2.2.1)) (r.2.2.2.1), r.2.2.2.2.1, ()), o, t, ()))))) (req (inR IntKind.i64 (i + 1)) (req (decide (0 +
 List.length (r.2.2.1) ≤ List.length (r.2.2.1))) (req (decide (0 + List.length (r.2.2.2.1) ≤ List.length (r.2.2.2.1))) (mL x (i + 1) < mL x i ∧ LC2.spec lc40a ((r.1, r.2.1, seg 0 (List.length (r.2.2.1)) (r.2.2.1), seg 0
 (List.length (r.2.2.2.1)) (r.2.2.2.1), r.2.2.2.2.1, ()), o, t, x, i + 1, ()) Q)))))))) (req (decide (0 + List.length (r.2.2.1) ≤ List.length (r.2.2.1))) (req (decide (0 + List.length (r.2.2.2.1) ≤ List.length
 (r.2.2.2.1))) (Q (AX.exit 0) (stS 5 sh40x ((r.1, r.2.1, seg 0 (List.length (r.2.2.1)) (r.2.2.1), seg 0 (List.length (r.2.2.2.1)) (r.2.2.2.1), r.2.2.2.2.1, ()), o, t, ())))))) := by kernel_rfl
abbrev sh40c : SV := S [(0, .box 0 (rollC 3 4)), (1, .v LT), (5, .v LK), (8, .v I), (9, .v I), (10, .v .b), (11, .v I)]
abbrev sh40cx : SV := S [(0, .box 0 (rollC 3 4)), (1, .v LT), (5, .v LK), (8, .v I), (9, .v I), (10, .v .b)]
def divOne (l : List Pc) (p : Tx) (t : Pc) : Bool := decide (0 < t.2) && decide (t.2 ≤ l.length) && decide (nameAt' l t.2 = p) && !decide (t.1 = p)
abbrev lc40c : LC2 := ⟨3, sh40c, 5, fun (r, o, t, i, m, dv, k, _) Q => (0 ≤ i ∧ i < t.length ∧ t.length ≤ 256 ∧ 0 ≤ k ∧ k ≤ t.length ∧ 0 ≤ m ∧ m ≤ k) ∧
  ∀ (m' : Int) (d' : Bool), m' = m + ((t.drop k.toNat).countP fun y => named (t.getD i.toNat T0).2.1 y && !(decide (3 ≤ y.2.2.1 ∧ y.2.2.1 ≤ 5)) : Nat) → d' = (dv || ((pcs t).drop k.toNat).any (divOne (pcs t) (t.getD i.toNat T0).2.1)) → Q (.exit 4) (stS 5 sh40cx (r, o, t, i, m', d', ()))⟩
theorem v40C (r : rolV) (o : List Tx) (t : List Tk) (i m k : Int) (dv : Bool) (Q : AX → St → Prop) : (xloop2 Tryd.prog { f := [(28, fcFrom)] } 5 40 2 lc40c (fun _ => some (sh40cx, 5)) (fun (_, _, t, _, _, _, k, _) => mL t k) (r, o, t, i, m, dv, k, ()) Q) =
  (fork (decide (k < (↑(t.length) : Int))) (req (decide ((0 : Int) ≤ k ∧ k < (↑(t.length) : Int))) (req (decide ((0 : Int) ≤ i ∧ i < (↑(t.length) : Int))) (fork ((List.getD t (Int.toNat k) (0, [], 0, [], 0, 0)).2.1 ==
 (List.getD t (Int.toNat i) (0, [], 0, [], 0, 0)).2.1) (req (decide ((0 : Int) ≤ k ∧ k < (↑(t.length) : Int))) (fork (!decide ((3 : Int) ≤ (List.getD t (Int.toNat k) (0, [], 0, [], 0, 0)).2.2.1 ∧ (List.getD t (Int.toNat k)
 (0, [], 0, [], 0, 0)).2.2.1 ≤ (5 : Int))) (req (inR IntKind.i64 (m + 1)) (fork dv (req (inR IntKind.i64 (k + 1)) (req (decide (0 + List.length (r.2.2.1) ≤ List.length (r.2.2.1))) (req (decide (0 + List.length (r.2.2.2.1)
 ≤ List.length (r.2.2.2.1))) (mL t (k + 1) < mL t k ∧ LC2.spec lc40c ((r.1, r.2.1, seg 0 (List.length (r.2.2.1)) (r.2.2.1), seg 0 (List.length (r.2.2.2.1)) (r.2.2.2.1), r.2.2.2.2.1, ()), o, t, i, m + 1, true, k + 1, ())
 Q)))) (req (decide ((0 : Int) ≤ k ∧ k < (↑(t.length) : Int))) (fork (decide ((List.getD t (Int.toNat k) (0, [], 0, [], 0, 0)).2.2.2.2.2 > (0 : Int))) (req (decide ((0 : Int) ≤ k ∧ k < (↑(t.length) : Int))) (fork (decide
 ((List.getD t (Int.toNat k) (0, [], 0, [], 0, 0)).2.2.2.2.2 ≤ (↑(t.length) : Int))) (req (decide ((0 : Int) ≤ k ∧ k < (↑(t.length) : Int))) (req (inR IntKind.i64 ((List.getD t (Int.toNat k) (0, [], 0, [], 0, 0)).2.2.2.2.2
 - 1)) (req (decide ((0 : Int) ≤ (List.getD t (Int.toNat k) (0, [], 0, [], 0, 0)).2.2.2.2.2 - 1 ∧ (List.getD t (Int.toNat k) (0, [], 0, [], 0, 0)).2.2.2.2.2 - 1 < (↑(t.length) : Int))) (req (decide ((0 : Int) ≤ i ∧ i <
 (↑(t.length) : Int))) (fork (((List.getD t (Int.toNat ((List.getD t (Int.toNat k) (0, [], 0, [], 0, 0)).2.2.2.2.2 - 1)) (0, [], 0, [], 0, 0)).2).1 == (List.getD t (Int.toNat i) (0, [], 0, [], 0, 0)).2.1) (req (decide ((0
 : Int) ≤ k ∧ k < (↑(t.length) : Int))) (req (decide ((0 : Int) ≤ i ∧ i < (↑(t.length) : Int))) (req (inR IntKind.i64 (k + 1)) (req (decide (0 + List.length (r.2.2.1) ≤ List.length (r.2.2.1))) (req (decide (0 + List.length
 (r.2.2.2.1) ≤ List.length (r.2.2.2.1))) (mL t (k + 1) < mL t k ∧ LC2.spec lc40c ((r.1, r.2.1, seg 0 (List.length (r.2.2.1)) (r.2.2.1), seg 0 (List.length (r.2.2.2.1)) (r.2.2.2.1), r.2.2.2.2.1, ()), o, t, i, m + 1,
 !(List.getD t (Int.toNat k) (0, [], 0, [], 0, 0)).2.1 == (List.getD t (Int.toNat i) (0, [], 0, [], 0, 0)).2.1, k + 1, ()) Q)))))) (req (inR IntKind.i64 (k + 1)) (req (decide (0 + List.length (r.2.2.1) ≤ List.length
 (r.2.2.1))) (req (decide (0 + List.length (r.2.2.2.1) ≤ List.length (r.2.2.2.1))) (mL t (k + 1) < mL t k ∧ LC2.spec lc40c ((r.1, r.2.1, seg 0 (List.length (r.2.2.1)) (r.2.2.1), seg 0 (List.length (r.2.2.2.1)) (r.2.2.2.1),
 r.2.2.2.2.1, ()), o, t, i, m + 1, false, k + 1, ()) Q))))))))) (req (inR IntKind.i64 (k + 1)) (req (decide (0 + List.length (r.2.2.1) ≤ List.length (r.2.2.1))) (req (decide (0 + List.length (r.2.2.2.1) ≤ List.length
 (r.2.2.2.1))) (mL t (k + 1) < mL t k ∧ LC2.spec lc40c ((r.1, r.2.1, seg 0 (List.length (r.2.2.1)) (r.2.2.1), seg 0 (List.length (r.2.2.2.1)) (r.2.2.2.1), r.2.2.2.2.1, ()), o, t, i, m + 1, false, k + 1, ()) Q)))))) (req
 (inR IntKind.i64 (k + 1)) (req (decide (0 + List.length (r.2.2.1) ≤ List.length (r.2.2.1))) (req (decide (0 + List.length (r.2.2.2.1) ≤ List.length (r.2.2.2.1))) (mL t (k + 1) < mL t k ∧ LC2.spec lc40c ((r.1, r.2.1, seg 0
 (List.length (r.2.2.1)) (r.2.2.1), seg 0 (List.length (r.2.2.2.1)) (r.2.2.2.1), r.2.2.2.2.1, ()), o, t, i, m + 1, false, k + 1, ()) Q)))))))) (fork dv (req (inR IntKind.i64 (k + 1)) (req (decide (0 + List.length (r.2.2.1)
 ≤ List.length (r.2.2.1))) (req (decide (0 + List.length (r.2.2.2.1) ≤ List.length (r.2.2.2.1))) (mL t (k + 1) < mL t k ∧ LC2.spec lc40c ((r.1, r.2.1, seg 0 (List.length (r.2.2.1)) (r.2.2.1), seg 0 (List.length
 (r.2.2.2.1)) (r.2.2.2.1), r.2.2.2.2.1, ()), o, t, i, m, true, k + 1, ()) Q)))) (req (decide ((0 : Int) ≤ k ∧ k < (↑(t.length) : Int))) (fork (decide ((List.getD t (Int.toNat k) (0, [], 0, [], 0, 0)).2.2.2.2.2 > (0 :
 Int))) (req (decide ((0 : Int) ≤ k ∧ k < (↑(t.length) : Int))) (fork (decide ((List.getD t (Int.toNat k) (0, [], 0, [], 0, 0)).2.2.2.2.2 ≤ (↑(t.length) : Int))) (req (decide ((0 : Int) ≤ k ∧ k < (↑(t.length) : Int))) (req
 (inR IntKind.i64 ((List.getD t (Int.toNat k) (0, [], 0, [], 0, 0)).2.2.2.2.2 - 1)) (req (decide ((0 : Int) ≤ (List.getD t (Int.toNat k) (0, [], 0, [], 0, 0)).2.2.2.2.2 - 1 ∧ (List.getD t (Int.toNat k) (0, [], 0, [], 0,
 0)).2.2.2.2.2 - 1 < (↑(t.length) : Int))) (req (decide ((0 : Int) ≤ i ∧ i < (↑(t.length) : Int))) (fork (((List.getD t (Int.toNat ((List.getD t (Int.toNat k) (0, [], 0, [], 0, 0)).2.2.2.2.2 - 1)) (0, [], 0, [], 0,
 0)).2).1 == (List.getD t (Int.toNat i) (0, [], 0, [], 0, 0)).2.1) (req (decide ((0 : Int) ≤ k ∧ k < (↑(t.length) : Int))) (req (decide ((0 : Int) ≤ i ∧ i < (↑(t.length) : Int))) (req (inR IntKind.i64 (k + 1)) (req (decide
 (0 + List.length (r.2.2.1) ≤ List.length (r.2.2.1))) (req (decide (0 + List.length (r.2.2.2.1) ≤ List.length (r.2.2.2.1))) (mL t (k + 1) < mL t k ∧ LC2.spec lc40c ((r.1, r.2.1, seg 0 (List.length (r.2.2.1)) (r.2.2.1), seg
 0 (List.length (r.2.2.2.1)) (r.2.2.2.1), r.2.2.2.2.1, ()), o, t, i, m, !(List.getD t (Int.toNat k) (0, [], 0, [], 0, 0)).2.1 == (List.getD t (Int.toNat i) (0, [], 0, [], 0, 0)).2.1, k + 1, ()) Q)))))) (req (inR
 IntKind.i64 (k + 1)) (req (decide (0 + List.length (r.2.2.1) ≤ List.length (r.2.2.1))) (req (decide (0 + List.length (r.2.2.2.1) ≤ List.length (r.2.2.2.1))) (mL t (k + 1) < mL t k ∧ LC2.spec lc40c ((r.1, r.2.1, seg 0
 (List.length (r.2.2.1)) (r.2.2.1), seg 0 (List.length (r.2.2.2.1)) (r.2.2.2.1), r.2.2.2.2.1, ()), o, t, i, m, false, k + 1, ()) Q))))))))) (req (inR IntKind.i64 (k + 1)) (req (decide (0 + List.length (r.2.2.1) ≤
 List.length (r.2.2.1))) (req (decide (0 + List.length (r.2.2.2.1) ≤ List.length (r.2.2.2.1))) (mL t (k + 1) < mL t k ∧ LC2.spec lc40c ((r.1, r.2.1, seg 0 (List.length (r.2.2.1)) (r.2.2.1), seg 0 (List.length (r.2.2.2.1))
 (r.2.2.2.1), r.2.2.2.2.1, ()), o, t, i, m, false, k + 1, ()) Q)))))) (req (inR IntKind.i64 (k + 1)) (req (decide (0 + List.length (r.2.2.1) ≤ List.length (r.2.2.1))) (req (decide (0 + List.length (r.2.2.2.1) ≤ List.length
 (r.2.2.2.1))) (mL t (k + 1) < mL t k ∧ LC2.spec lc40c ((r.1, r.2.1, seg 0 (List.length (r.2.2.1)) (r.2.2.1), seg 0 (List.length (r.2.2.2.1)) (r.2.2.2.1), r.2.2.2.2.1, ()), o, t, i, m, false, k + 1, ()) Q))))))))) (fork dv
 (req (inR IntKind.i64 (k + 1)) (req (decide (0 + List.length (r.2.2.1) ≤ List.length (r.2.2.1))) (req (decide (0 + List.length (r.2.2.2.1) ≤ List.length (r.2.2.2.1))) (mL t (k + 1) < mL t k ∧ LC2.spec lc40c ((r.1, r.2.1,
 seg 0 (List.length (r.2.2.1)) (r.2.2.1), seg 0 (List.length (r.2.2.2.1)) (r.2.2.2.1), r.2.2.2.2.1, ()), o, t, i, m, true, k + 1, ()) Q)))) (req (decide ((0 : Int) ≤ k ∧ k < (↑(t.length) : Int))) (fork (decide ((List.getD
 t (Int.toNat k) (0, [], 0, [], 0, 0)).2.2.2.2.2 > (0 : Int))) (req (decide ((0 : Int) ≤ k ∧ k < (↑(t.length) : Int))) (fork (decide ((List.getD t (Int.toNat k) (0, [], 0, [], 0, 0)).2.2.2.2.2 ≤ (↑(t.length) : Int))) (req
 (decide ((0 : Int) ≤ k ∧ k < (↑(t.length) : Int))) (req (inR IntKind.i64 ((List.getD t (Int.toNat k) (0, [], 0, [], 0, 0)).2.2.2.2.2 - 1)) (req (decide ((0 : Int) ≤ (List.getD t (Int.toNat k) (0, [], 0, [], 0,
 0)).2.2.2.2.2 - 1 ∧ (List.getD t (Int.toNat k) (0, [], 0, [], 0, 0)).2.2.2.2.2 - 1 < (↑(t.length) : Int))) (req (decide ((0 : Int) ≤ i ∧ i < (↑(t.length) : Int))) (fork (((List.getD t (Int.toNat ((List.getD t (Int.toNat
 k) (0, [], 0, [], 0, 0)).2.2.2.2.2 - 1)) (0, [], 0, [], 0, 0)).2).1 == (List.getD t (Int.toNat i) (0, [], 0, [], 0, 0)).2.1) (req (decide ((0 : Int) ≤ k ∧ k < (↑(t.length) : Int))) (req (decide ((0 : Int) ≤ i ∧ i <
 (↑(t.length) : Int))) (req (inR IntKind.i64 (k + 1)) (req (decide (0 + List.length (r.2.2.1) ≤ List.length (r.2.2.1))) (req (decide (0 + List.length (r.2.2.2.1) ≤ List.length (r.2.2.2.1))) (mL t (k + 1) < mL t k ∧
 LC2.spec lc40c ((r.1, r.2.1, seg 0 (List.length (r.2.2.1)) (r.2.2.1), seg 0 (List.length (r.2.2.2.1)) (r.2.2.2.1), r.2.2.2.2.1, ()), o, t, i, m, !(List.getD t (Int.toNat k) (0, [], 0, [], 0, 0)).2.1 == (List.getD t
 (Int.toNat i) (0, [], 0, [], 0, 0)).2.1, k + 1, ()) Q)))))) (req (inR IntKind.i64 (k + 1)) (req (decide (0 + List.length (r.2.2.1) ≤ List.length (r.2.2.1))) (req (decide (0 + List.length (r.2.2.2.1) ≤ List.length
 (r.2.2.2.1))) (mL t (k + 1) < mL t k ∧ LC2.spec lc40c ((r.1, r.2.1, seg 0 (List.length (r.2.2.1)) (r.2.2.1), seg 0 (List.length (r.2.2.2.1)) (r.2.2.2.1), r.2.2.2.2.1, ()), o, t, i, m, false, k + 1, ()) Q))))))))) (req
 (inR IntKind.i64 (k + 1)) (req (decide (0 + List.length (r.2.2.1) ≤ List.length (r.2.2.1))) (req (decide (0 + List.length (r.2.2.2.1) ≤ List.length (r.2.2.2.1))) (mL t (k + 1) < mL t k ∧ LC2.spec lc40c ((r.1, r.2.1, seg 0
 (List.length (r.2.2.1)) (r.2.2.1), seg 0 (List.length (r.2.2.2.1)) (r.2.2.2.1), r.2.2.2.2.1, ()), o, t, i, m, false, k + 1, ()) Q)))))) (req (inR IntKind.i64 (k + 1)) (req (decide (0 + List.length (r.2.2.1) ≤ List.length
 (r.2.2.1))) (req (decide (0 + List.length (r.2.2.2.1) ≤ List.length (r.2.2.2.1))) (mL t (k + 1) < mL t k ∧ LC2.spec lc40c ((r.1, r.2.1, seg 0 (List.length (r.2.2.1)) (r.2.2.1), seg 0 (List.length (r.2.2.2.1)) (r.2.2.2.1),
 r.2.2.2.2.1, ()), o, t, i, m, false, k + 1, ()) Q)))))))))) (req (decide (0 + List.length (r.2.2.1) ≤ List.length (r.2.2.1))) (req (decide (0 + List.length (r.2.2.2.1) ≤ List.length (r.2.2.2.1))) (Q (AX.exit 4) (stS 5
 sh40cx ((r.1, r.2.1, seg 0 (List.length (r.2.2.1)) (r.2.2.1), seg 0 (List.length (r.2.2.2.1)) (r.2.2.2.1), r.2.2.2.2.1, ()), o, t, i, m, dv, ())))))) := by kernel_rfl
abbrev sh40b : SV := S [(0, .box 0 (rollC 3 4)), (1, .v LT), (5, .v LK), (8, .v I)]
abbrev lc40b : LC2 := ⟨3, sh40b, 5, fun (r, o, t, i, _) Q => (okR (r.1, r.2.1, r.2.2.1, r.2.2.2.1) ∧ r.2.2.2.2.1 = true ∧ t = r.2.2.1 ∧ o.length ≤ 1000 ∧ 0 ≤ i ∧ (∀ j : Nat, j < t.length → manyI t (t.getD j T0).2.1 = wantI t o (t.getD j T0).2.1)) ∧ Q (.exit 2) (stS 5 .nil ())⟩
theorem v40B (w d0 : Int) (ts : List Tk) (es : List Ev) (o : List Tx) (i : Int) (Q : AX → St → Prop) : (xloop2 Tryd.prog { f := [(39, fcSeekT)], l2 := [(40, 2, lc40c)], f2 := [(48, fcLive)] } 5 40 1 lc40b (fun _ => some (.nil, 5)) (fun (_, _, t, i, _) => mL t i) ((w, d0, ts, es, true, ()), o, ts, i, ()) Q) =
  (fork (decide (i < (↑(ts.length) : Int))) (req (decide (0 + ts.length ≤ ts.length)) (req (decide (0 + es.length ≤ es.length)) (((0 : SV.den (SV.slot 8 (SV.v I))) ≤ i ∧ i < (↑(ts.length) : SV.den (SV.slot 8 (SV.v I))) ∧
 ts.length ≤ 256 ∧ (0 : SV.den (SV.slot 11 (SV.v I))) ≤ (0 : Int) ∧ (0 : Int) ≤ (↑(ts.length) : SV.den (SV.slot 11 (SV.v I))) ∧ (0 : SV.den (SV.slot 9 (SV.v I))) ≤ (0 : Int) ∧ (0 : Int) ≤ (0 : Int)) ∧ ∀ (m' : Int) (d' :
 Bool), m' = (0 : Int) + (↑(List.countP (fun y => named ((List.getD ts (Int.toNat i) T0).2.1) y && !decide ((3 : Int) ≤ y.2.2.1 ∧ y.2.2.1 ≤ (5 : Int))) (List.drop 0 ts)) : Int) → d' = (false || List.any (List.drop 0 (pcs
 ts)) (divOne (pcs ts) ((List.getD ts (Int.toNat i) T0).2.1))) → fork d' (req (decide ((0 : Int) ≤ i ∧ i < (↑(ts.length) : Int))) (req (decide (0 + List.length (seg 0 (ts.length) ts) ≤ List.length (seg 0 (ts.length) ts)))
 (req (decide (0 + List.length (seg 0 (es.length) es) ≤ List.length (seg 0 (es.length) es))) ((okR (w, d0, seg 0 (List.length (seg 0 (ts.length) ts)) (seg 0 (ts.length) ts), seg 0 (List.length (seg 0 (es.length) es)) (seg
 0 (es.length) es)) ∧ true = true) ∧ ∀ (s : Tx) (e : Int), (s, e) = liveI (w, d0, seg 0 (List.length (seg 0 (ts.length) ts)) (seg 0 (ts.length) ts), seg 0 (List.length (seg 0 (es.length) es)) (seg 0 (es.length) es))
 ((List.getD ts (Int.toNat i) (0, [], 0, [], 0, 0)).2.1) → fork (m' != (0 : Int)) (Q AX.ret (stS 5 SV.nil ())) (fork (!(e == (0 : Int)) == ((0 : Int) == (1 : Int))) (Q AX.ret (stS 5 SV.nil ())) (fork (e != (0 : Int)) (fork
 (!s == []) (Q AX.ret (stS 5 SV.nil ())) (req (inR IntKind.i64 (i + 1)) (req (decide (0 + List.length (seg 0 (List.length (seg 0 (ts.length) ts)) (seg 0 (ts.length) ts)) ≤ List.length (seg 0 (List.length (seg 0 (ts.length)
 ts)) (seg 0 (ts.length) ts)))) (req (decide (0 + List.length (seg 0 (List.length (seg 0 (es.length) es)) (seg 0 (es.length) es)) ≤ List.length (seg 0 (List.length (seg 0 (es.length) es)) (seg 0 (es.length) es)))) (mL ts
 (i + 1) < mL ts i ∧ LC2.spec lc40b ((w, d0, seg 0 (List.length (seg 0 (List.length (seg 0 (ts.length) ts)) (seg 0 (ts.length) ts))) (seg 0 (List.length (seg 0 (ts.length) ts)) (seg 0 (ts.length) ts)), seg 0 (List.length
 (seg 0 (List.length (seg 0 (es.length) es)) (seg 0 (es.length) es))) (seg 0 (List.length (seg 0 (es.length) es)) (seg 0 (es.length) es)), true, ()), o, ts, i + 1, ()) Q))))) (req (inR IntKind.i64 (i + 1)) (req (decide (0
 + List.length (seg 0 (List.length (seg 0 (ts.length) ts)) (seg 0 (ts.length) ts)) ≤ List.length (seg 0 (List.length (seg 0 (ts.length) ts)) (seg 0 (ts.length) ts)))) (req (decide (0 + List.length (seg 0 (List.length (seg
 0 (es.length) es)) (seg 0 (es.length) es)) ≤ List.length (seg 0 (List.length (seg 0 (es.length) es)) (seg 0 (es.length) es)))) (mL ts (i + 1) < mL ts i ∧ LC2.spec lc40b ((w, d0, seg 0 (List.length (seg 0 (List.length (seg
 0 (ts.length) ts)) (seg 0 (ts.length) ts))) (seg 0 (List.length (seg 0 (ts.length) ts)) (seg 0 (ts.length) ts)), seg 0 (List.length (seg 0 (List.length (seg 0 (es.length) es)) (seg 0 (es.length) es))) (seg 0 (List.length
 (seg 0 (es.length) es)) (seg 0 (es.length) es)), true, ()), o, ts, i + 1, ()) Q)))))))))) (req (decide ((0 : Int) ≤ i ∧ i < (↑(ts.length) : Int))) (o.length ≤ 9223372036854775807 ∧ ∀ (r : Int), r = firstIx (fun t =>
 decide (t = (List.getD ts (Int.toNat i) (0, [], 0, [], 0, 0)).2.1)) o (0 : Int) → fork (decide (r ≥ (0 : Int))) (req (decide ((0 : Int) ≤ i ∧ i < (↑(ts.length) : Int))) (req (decide (0 + List.length (seg 0 (ts.length) ts)
 ≤ List.length (seg 0 (ts.length) ts))) (req (decide (0 + List.length (seg 0 (es.length) es) ≤ List.length (seg 0 (es.length) es))) ((okR (w, d0, seg 0 (List.length (seg 0 (ts.length) ts)) (seg 0 (ts.length) ts), seg 0
 (List.length (seg 0 (es.length) es)) (seg 0 (es.length) es)) ∧ true = true) ∧ ∀ (s : Tx) (e : Int), (s, e) = liveI (w, d0, seg 0 (List.length (seg 0 (ts.length) ts)) (seg 0 (ts.length) ts), seg 0 (List.length (seg 0
 (es.length) es)) (seg 0 (es.length) es)) ((List.getD ts (Int.toNat i) (0, [], 0, [], 0, 0)).2.1) → fork (m' != (0 : Int)) (Q AX.ret (stS 5 SV.nil ())) (fork (!(e == (0 : Int)) == ((0 : Int) == (1 : Int))) (Q AX.ret (stS 5
 SV.nil ())) (fork (e != (0 : Int)) (fork (!s == []) (Q AX.ret (stS 5 SV.nil ())) (req (inR IntKind.i64 (i + 1)) (req (decide (0 + List.length (seg 0 (List.length (seg 0 (ts.length) ts)) (seg 0 (ts.length) ts)) ≤
 List.length (seg 0 (List.length (seg 0 (ts.length) ts)) (seg 0 (ts.length) ts)))) (req (decide (0 + List.length (seg 0 (List.length (seg 0 (es.length) es)) (seg 0 (es.length) es)) ≤ List.length (seg 0 (List.length (seg 0
 (es.length) es)) (seg 0 (es.length) es)))) (mL ts (i + 1) < mL ts i ∧ LC2.spec lc40b ((w, d0, seg 0 (List.length (seg 0 (List.length (seg 0 (ts.length) ts)) (seg 0 (ts.length) ts))) (seg 0 (List.length (seg 0 (ts.length)
 ts)) (seg 0 (ts.length) ts)), seg 0 (List.length (seg 0 (List.length (seg 0 (es.length) es)) (seg 0 (es.length) es))) (seg 0 (List.length (seg 0 (es.length) es)) (seg 0 (es.length) es)), true, ()), o, ts, i + 1, ())
 Q))))) (req (inR IntKind.i64 (i + 1)) (req (decide (0 + List.length (seg 0 (List.length (seg 0 (ts.length) ts)) (seg 0 (ts.length) ts)) ≤ List.length (seg 0 (List.length (seg 0 (ts.length) ts)) (seg 0 (ts.length) ts))))
 (req (decide (0 + List.length (seg 0 (List.length (seg 0 (es.length) es)) (seg 0 (es.length) es)) ≤ List.length (seg 0 (List.length (seg 0 (es.length) es)) (seg 0 (es.length) es)))) (mL ts (i + 1) < mL ts i ∧ LC2.spec
 lc40b ((w, d0, seg 0 (List.length (seg 0 (List.length (seg 0 (ts.length) ts)) (seg 0 (ts.length) ts))) (seg 0 (List.length (seg 0 (ts.length) ts)) (seg 0 (ts.length) ts)), seg 0 (List.length (seg 0 (List.length (seg 0
 (es.length) es)) (seg 0 (es.length) es))) (seg 0 (List.length (seg 0 (es.length) es)) (seg 0 (es.length) es)), true, ()), o, ts, i + 1, ()) Q)))))))))) (req (decide ((0 : Int) ≤ i ∧ i < (↑(ts.length) : Int))) (req (decide
 (0 + List.length (seg 0 (ts.length) ts) ≤ List.length (seg 0 (ts.length) ts))) (req (decide (0 + List.length (seg 0 (es.length) es) ≤ List.length (seg 0 (es.length) es))) ((okR (w, d0, seg 0 (List.length (seg 0
 (ts.length) ts)) (seg 0 (ts.length) ts), seg 0 (List.length (seg 0 (es.length) es)) (seg 0 (es.length) es)) ∧ true = true) ∧ ∀ (s : Tx) (e : Int), (s, e) = liveI (w, d0, seg 0 (List.length (seg 0 (ts.length) ts)) (seg 0
 (ts.length) ts), seg 0 (List.length (seg 0 (es.length) es)) (seg 0 (es.length) es)) ((List.getD ts (Int.toNat i) (0, [], 0, [], 0, 0)).2.1) → fork (m' != (1 : Int)) (Q AX.ret (stS 5 SV.nil ())) (fork (!(e == (0 : Int)) ==
 ((1 : Int) == (1 : Int))) (Q AX.ret (stS 5 SV.nil ())) (fork (e != (0 : Int)) (fork (!s == []) (Q AX.ret (stS 5 SV.nil ())) (req (inR IntKind.i64 (i + 1)) (req (decide (0 + List.length (seg 0 (List.length (seg 0
 (ts.length) ts)) (seg 0 (ts.length) ts)) ≤ List.length (seg 0 (List.length (seg 0 (ts.length) ts)) (seg 0 (ts.length) ts)))) (req (decide (0 + List.length (seg 0 (List.length (seg 0 (es.length) es)) (seg 0 (es.length)
 es)) ≤ List.length (seg 0 (List.length (seg 0 (es.length) es)) (seg 0 (es.length) es)))) (mL ts (i + 1) < mL ts i ∧ LC2.spec lc40b ((w, d0, seg 0 (List.length (seg 0 (List.length (seg 0 (ts.length) ts)) (seg 0 (ts.length)
 ts))) (seg 0 (List.length (seg 0 (ts.length) ts)) (seg 0 (ts.length) ts)), seg 0 (List.length (seg 0 (List.length (seg 0 (es.length) es)) (seg 0 (es.length) es))) (seg 0 (List.length (seg 0 (es.length) es)) (seg 0
 (es.length) es)), true, ()), o, ts, i + 1, ()) Q))))) (req (inR IntKind.i64 (i + 1)) (req (decide (0 + List.length (seg 0 (List.length (seg 0 (ts.length) ts)) (seg 0 (ts.length) ts)) ≤ List.length (seg 0 (List.length (seg
 0 (ts.length) ts)) (seg 0 (ts.length) ts)))) (req (decide (0 + List.length (seg 0 (List.length (seg 0 (es.length) es)) (seg 0 (es.length) es)) ≤ List.length (seg 0 (List.length (seg 0 (es.length) es)) (seg 0 (es.length)
 es)))) (mL ts (i + 1) < mL ts i ∧ LC2.spec lc40b ((w, d0, seg 0 (List.length (seg 0 (List.length (seg 0 (ts.length) ts)) (seg 0 (ts.length) ts))) (seg 0 (List.length (seg 0 (ts.length) ts)) (seg 0 (ts.length) ts)), seg 0
 (List.length (seg 0 (List.length (seg 0 (es.length) es)) (seg 0 (es.length) es))) (seg 0 (List.length (seg 0 (es.length) es)) (seg 0 (es.length) es)), true, ()), o, ts, i + 1, ()) Q))))))))))))))) (Q (AX.exit 2) (stS 5
 SV.nil ()))) := by kernel_rfl
abbrev fcSing : FC2 := ⟨A [.box 0 (rollC 1 2), .v LT], 3, A [.any, .any, .v .b], 3, fun ((w, d0, ts, es, rdy, _), o, _) K => (okR (w, d0, ts, es) ∧ rdy = true ∧ es.length ≤ 1000 ∧ o.length ≤ 1000 ∧ sortedE es ∧ (∀ j : Nat, j < ts.length → manyI ts (ts.getD j T0).2.1 = wantI ts o (ts.getD j T0).2.1)) ∧ K ((), (), true, ())⟩
theorem v40F (w d0 : Int) (ts : List Tk) (es : List Ev) (o : List Tx) (K : fcSing.post.den → Prop) : (xfn2 Tryd.prog { f2 := [(30, fcTix), (38, fcEvs)], l2 := [(40, 0, lc40a), (40, 1, lc40b)] } 5 40 fcSing ((w, d0, ts, es, true, ()), o, ()) K) =
  (req (decide (0 + ts.length ≤ ts.length)) (req (decide (0 + es.length ≤ es.length)) ((List.length (seg 0 (ts.length) ts) ≤ 256 ∧ ∀ (t : Ty.den T6), t ∈ seg 0 (ts.length) ts → List.length (t.2.2.2.1) ≤ 100) ∧ ∀ (l : List
 Tk), l = seg 0 (ts.length) ts → req (decide (0 + List.length (seg 0 (ts.length) ts) ≤ List.length (seg 0 (ts.length) ts))) (req (decide (0 + List.length (seg 0 (es.length) es) ≤ List.length (seg 0 (es.length) es)))
 (List.length (seg 0 (List.length (seg 0 (es.length) es)) (seg 0 (es.length) es)) ≤ 1000 ∧ ∀ (l_1 : List Ev), l_1 = seg 0 (List.length (seg 0 (es.length) es)) (seg 0 (es.length) es) → req (decide (0 + List.length (seg 0
 (List.length (seg 0 (ts.length) ts)) (seg 0 (ts.length) ts)) ≤ List.length (seg 0 (List.length (seg 0 (ts.length) ts)) (seg 0 (ts.length) ts)))) (req (decide (0 + List.length (seg 0 (List.length (seg 0 (es.length) es))
 (seg 0 (es.length) es)) ≤ List.length (seg 0 (List.length (seg 0 (es.length) es)) (seg 0 (es.length) es)))) ((sortedE l_1 ∧ l_1.length ≤ 1000 ∧ (1 : SV.den (SV.slot 7 (SV.v I))) ≤ (1 : Int)) ∧ req (decide (0 + List.length
 (seg 0 (List.length (seg 0 (List.length (seg 0 (ts.length) ts)) (seg 0 (ts.length) ts))) (seg 0 (List.length (seg 0 (ts.length) ts)) (seg 0 (ts.length) ts))) ≤ List.length (seg 0 (List.length (seg 0 (List.length (seg 0
 (ts.length) ts)) (seg 0 (ts.length) ts))) (seg 0 (List.length (seg 0 (ts.length) ts)) (seg 0 (ts.length) ts))))) (req (decide (0 + List.length (seg 0 (List.length (seg 0 (List.length (seg 0 (es.length) es)) (seg 0
 (es.length) es))) (seg 0 (List.length (seg 0 (es.length) es)) (seg 0 (es.length) es))) ≤ List.length (seg 0 (List.length (seg 0 (List.length (seg 0 (es.length) es)) (seg 0 (es.length) es))) (seg 0 (List.length (seg 0
 (es.length) es)) (seg 0 (es.length) es))))) ((okR (w, d0, seg 0 (List.length (seg 0 (List.length (seg 0 (List.length (seg 0 (ts.length) ts)) (seg 0 (ts.length) ts))) (seg 0 (List.length (seg 0 (ts.length) ts)) (seg 0
 (ts.length) ts)))) (seg 0 (List.length (seg 0 (List.length (seg 0 (ts.length) ts)) (seg 0 (ts.length) ts))) (seg 0 (List.length (seg 0 (ts.length) ts)) (seg 0 (ts.length) ts))), seg 0 (List.length (seg 0 (List.length (seg
 0 (List.length (seg 0 (es.length) es)) (seg 0 (es.length) es))) (seg 0 (List.length (seg 0 (es.length) es)) (seg 0 (es.length) es)))) (seg 0 (List.length (seg 0 (List.length (seg 0 (es.length) es)) (seg 0 (es.length)
 es))) (seg 0 (List.length (seg 0 (es.length) es)) (seg 0 (es.length) es)))) ∧ true = true ∧ l = seg 0 (List.length (seg 0 (List.length (seg 0 (List.length (seg 0 (ts.length) ts)) (seg 0 (ts.length) ts))) (seg 0
 (List.length (seg 0 (ts.length) ts)) (seg 0 (ts.length) ts)))) (seg 0 (List.length (seg 0 (List.length (seg 0 (ts.length) ts)) (seg 0 (ts.length) ts))) (seg 0 (List.length (seg 0 (ts.length) ts)) (seg 0 (ts.length) ts)))
 ∧ o.length ≤ 1000 ∧ (0 : SV.den (SV.slot 8 (SV.v I))) ≤ (0 : Int) ∧ ∀ (j : Nat), j < l.length → manyI l ((List.getD l j T0).2.1) = wantI l o ((List.getD l j T0).2.1)) ∧ K ((), (), true, ())))))))))) := by kernel_rfl
/-! TicketOnce -/
abbrev sh9 : SV := S [(1, .v LC'), (5, .box 0 (rollC 1 2)), (7, .own 3 .s), (8, .v LK), (9, .v I)]
abbrev sh9e : SV := S [(5, .box 0 (rollC 1 2)), (7, .own 3 .s)]
abbrev sh9b : SV := S [(1, .v LC'), (5, .box 0 (rollC 1 2)), (7, .own 3 .s), (8, .v LK), (9, .v I), (14, .v LK), (15, .v I)]
abbrev sh9bx : SV := S [(1, .v LC'), (5, .box 0 (rollC 1 2)), (7, .own 3 .s), (9, .v I), (14, .v LK)]
def keptT (a b : List Tk) : Prop := a.length ≤ b.length ∧ ∀ j : Nat, j < a.length → (b.getD j T0).2.1 = (a.getD j T0).2.1 ∧ ((3 ≤ (a.getD j T0).2.2.1 ∧ (a.getD j T0).2.2.1 ≤ 5) → (b.getD j T0).2.2.1 = (a.getD j T0).2.2.1)
abbrev lc9b : LC2 := ⟨0, sh9b, 4, fun (l, r, o, a, i, b, k, _) Q => (keptT a b ∧ b.length ≤ 256 ∧ 0 ≤ k ∧ k ≤ a.length) ∧ Q (.exit 2) (stS 4 sh9bx (l, r, o, i, b, ()))⟩
theorem v9B (l : List Cl) (r : rolV) (o : List Tx) (a b : List Tk) (i k : Int) (Q : AX → St → Prop) : (xloop2 Tryd.prog { f := [(28, fcFrom)] } 5 9 1 lc9b (fun _ => some (sh9bx, 4)) (fun (_, _, _, a, _, _, k, _) => mL a k) (l, r, o, a, i, b, k, ()) Q) =
  (fork (decide (k < (↑(a.length) : Int))) (req (decide ((0 : Int) ≤ k ∧ k < (↑(a.length) : Int))) (fork (decide ((3 : Int) ≤ (List.getD a (Int.toNat k) (0, [], 0, [], 0, 0)).2.2.1 ∧ (List.getD a (Int.toNat k) (0, [], 0,
 [], 0, 0)).2.2.1 ≤ (5 : Int))) (req (decide ((0 : Int) ≤ k ∧ k < (↑(b.length) : Int))) (req (decide ((0 : Int) ≤ k ∧ k < (↑(a.length) : Int))) (fork ((List.getD b (Int.toNat k) (0, [], 0, [], 0, 0)).2.2.1 != (List.getD a
 (Int.toNat k) (0, [], 0, [], 0, 0)).2.2.1) (req (decide (0 + List.length (r.2.2.1) ≤ List.length (r.2.2.1))) (req (decide (0 + List.length (r.2.2.2.1) ≤ List.length (r.2.2.2.1))) (req (decide (0 + o.length ≤ o.length)) (Q
 AX.ret (stS 4 sh9bx (l, (r.1, r.2.1, seg 0 (List.length (r.2.2.1)) (r.2.2.1), seg 0 (List.length (r.2.2.2.1)) (r.2.2.2.1), r.2.2.2.2.1, ()), seg 0 (o.length) o, i, b, ())))))) (req (decide ((0 : Int) ≤ k ∧ k <
 (↑(a.length) : Int))) (req (decide ((0 : Int) ≤ k ∧ k < (↑(b.length) : Int))) (fork (!(List.getD a (Int.toNat k) (0, [], 0, [], 0, 0)).2.1 == (List.getD b (Int.toNat k) (0, [], 0, [], 0, 0)).2.1) (req (decide (0 +
 List.length (r.2.2.1) ≤ List.length (r.2.2.1))) (req (decide (0 + List.length (r.2.2.2.1) ≤ List.length (r.2.2.2.1))) (req (decide (0 + o.length ≤ o.length)) (Q AX.ret (stS 4 sh9bx (l, (r.1, r.2.1, seg 0 (List.length
 (r.2.2.1)) (r.2.2.1), seg 0 (List.length (r.2.2.2.1)) (r.2.2.2.1), r.2.2.2.2.1, ()), seg 0 (o.length) o, i, b, ())))))) (req (inR IntKind.i64 (k + 1)) (req (decide (0 + List.length (r.2.2.1) ≤ List.length (r.2.2.1))) (req
 (decide (0 + List.length (r.2.2.2.1) ≤ List.length (r.2.2.2.1))) (req (decide (0 + o.length ≤ o.length)) (mL a (k + 1) < mL a k ∧ LC2.spec lc9b (l, (r.1, r.2.1, seg 0 (List.length (r.2.2.1)) (r.2.2.1), seg 0 (List.length
 (r.2.2.2.1)) (r.2.2.2.1), r.2.2.2.2.1, ()), seg 0 (o.length) o, a, i, b, k + 1, ()) Q))))))))))) (req (decide ((0 : Int) ≤ k ∧ k < (↑(a.length) : Int))) (req (decide ((0 : Int) ≤ k ∧ k < (↑(b.length) : Int))) (fork
 (!(List.getD a (Int.toNat k) (0, [], 0, [], 0, 0)).2.1 == (List.getD b (Int.toNat k) (0, [], 0, [], 0, 0)).2.1) (req (decide (0 + List.length (r.2.2.1) ≤ List.length (r.2.2.1))) (req (decide (0 + List.length (r.2.2.2.1) ≤
 List.length (r.2.2.2.1))) (req (decide (0 + o.length ≤ o.length)) (Q AX.ret (stS 4 sh9bx (l, (r.1, r.2.1, seg 0 (List.length (r.2.2.1)) (r.2.2.1), seg 0 (List.length (r.2.2.2.1)) (r.2.2.2.1), r.2.2.2.2.1, ()), seg 0
 (o.length) o, i, b, ())))))) (req (inR IntKind.i64 (k + 1)) (req (decide (0 + List.length (r.2.2.1) ≤ List.length (r.2.2.1))) (req (decide (0 + List.length (r.2.2.2.1) ≤ List.length (r.2.2.2.1))) (req (decide (0 +
 o.length ≤ o.length)) (mL a (k + 1) < mL a k ∧ LC2.spec lc9b (l, (r.1, r.2.1, seg 0 (List.length (r.2.2.1)) (r.2.2.1), seg 0 (List.length (r.2.2.2.1)) (r.2.2.2.1), r.2.2.2.2.1, ()), seg 0 (o.length) o, a, i, b, k + 1, ())
 Q)))))))))) (req (decide (0 + List.length (r.2.2.1) ≤ List.length (r.2.2.1))) (req (decide (0 + List.length (r.2.2.2.1) ≤ List.length (r.2.2.2.1))) (req (decide (0 + o.length ≤ o.length)) (Q (AX.exit 2) (stS 4 sh9bx (l,
 (r.1, r.2.1, seg 0 (List.length (r.2.2.1)) (r.2.2.1), seg 0 (List.length (r.2.2.2.1)) (r.2.2.2.1), r.2.2.2.2.1, ()), seg 0 (o.length) o, i, b, ()))))))) := by kernel_rfl
def sameL (a b : List Tk) : Prop := a = b
/-- What holds of a roll and the pledges that are over. -/
structure InvO (s : RS) (over : List Tx) : Prop where
  cnt : ∀ p, s.2.2.1.any (named p) = true → manyI s.2.2.1 p = wantI s.2.2.1 over p
  ov : ∀ p ∈ over, s.2.2.1.any (named p) = true
  days : sortedE s.2.2.2 ∧ ∀ e ∈ s.2.2.2, e.2.1 ≤ s.2.1
abbrev lc9 : LC2 := ⟨0, sh9, 4, fun (l, r, o, a, i, _) Q => (okR (r.1, r.2.1, r.2.2.1, r.2.2.2.1) ∧ r.2.2.2.2.1 = true ∧ sameL a r.2.2.1 ∧ okLs l ∧ InvO (r.1, r.2.1, r.2.2.1, r.2.2.2.1) o ∧ 0 ≤ i ∧ i ≤ 60 ∧ (r.2.2.2.1.length : Int) ≤ i ∧ (o.length : Int) ≤ i) ∧
  ∀ (w1 d1 : Int) (ts1 : List Tk) (es1 : List Ev) (o1 : List Tx), okR (w1, d1, ts1, es1) → InvO (w1, d1, ts1, es1) o1 → es1.length ≤ 60 → o1.length ≤ 60 → Q (.exit 0) (stS 4 sh9e ((w1, d1, ts1, es1, true, ()), o1, ()))⟩
theorem v9L (w d0 : Int) (ts : List Tk) (es : List Ev) (l : List Cl) (o : List Tx) (i : Int) (Q : AX → St → Prop) : (xloop2 Tryd.prog { nm := true, f := [(39, fcSeekT)], f2 := [(31, fcCall), (30, fcTix)], l2 := [(9, 1, lc9b)] } 5 9 0 lc9 (fun _ => some (sh9e, 4)) (fun (_, _, _, _, i, _) => (60 - i).toNat) (l, (w, d0, ts, es, true, ()), o, ts, i, ()) Q) =
  (fork (decide (i < (↑(l.length) : Int))) (fork (decide (i < (60 : Int))) (req (decide ((0 : Int) ≤ i ∧ i < (↑(l.length) : Int))) (req (decide (0 + ts.length ≤ ts.length)) (req (decide (0 + es.length ≤ es.length)) ((okR
 (w, d0, seg 0 (ts.length) ts, seg 0 (es.length) es) ∧ true = true ∧ fitsN (List.length (seg 0 (es.length) es) + 1) 40 = true ∧ okCl (List.getD l (Int.toNat i) ((0 : Int), (0 : Int), [], [], [], [], []))) ∧ ∀ (w1 d1 : Int)
 (ts1 : List Tk) (es1 : List Ev) (tx : List Tx) (l_1 : List Int) (e : Int), ((w1, d1, ts1, es1), tx, l_1, e) = callI (w, d0, seg 0 (ts.length) ts, seg 0 (es.length) es) (List.getD l (Int.toNat i) ((0 : Int), (0 : Int), [],
 [], [], [], [])) → fork (e == (0 : Int)) (fork ((List.getD l (Int.toNat i) ((0 : Int), (0 : Int), [], [], [], [], [])).1 == (6 : Int)) (fork ((↑(tx.length) : Int) != (1 : Int)) (req (decide (0 + ts1.length ≤ ts1.length))
 (req (decide (0 + es1.length ≤ es1.length)) (req (decide (0 + o.length ≤ o.length)) (Q AX.ret (stS 4 sh9e ((w1, d1, seg 0 (ts1.length) ts1, seg 0 (es1.length) es1, true, ()), seg 0 (o.length) o, ())))))) (req (decide ((0
 : Int) ≤ (0 : Int) ∧ (0 : Int) < (↑(tx.length) : Int))) (req (decide (0 + o.length ≤ o.length)) (List.length (seg 0 (o.length) o) ≤ 9223372036854775807 ∧ ∀ (r : Int), r = firstIx (fun t => decide (t = List.getD tx 0 []))
 (seg 0 (o.length) o) (0 : Int) → fork (decide (r ≥ (0 : Int))) (req (decide (0 + ts1.length ≤ ts1.length)) (req (decide (0 + es1.length ≤ es1.length)) (req (decide (0 + o.length ≤ o.length)) (Q AX.ret (stS 4 sh9e ((w1,
 d1, seg 0 (ts1.length) ts1, seg 0 (es1.length) es1, true, ()), seg 0 (o.length) o, ())))))) (req (decide ((0 : Int) ≤ (0 : Int) ∧ (0 : Int) < (↑(tx.length) : Int))) (req (decide (0 + o.length ≤ o.length)) (req (fitsN
 (o.length + 1) 16) (∀ (ys : List (Ty.den Ty.s)), ys = seg 0 (o.length) o ++ [List.getD tx 0 []] → req (decide (0 + ts1.length ≤ ts1.length)) (req (decide (0 + es1.length ≤ es1.length)) ((List.length (seg 0 (ts1.length)
 ts1) ≤ 256 ∧ ∀ (t : Ty.den T6), t ∈ seg 0 (ts1.length) ts1 → List.length (t.2.2.2.1) ≤ 100) ∧ ∀ (l_2 : List Tk), l_2 = seg 0 (ts1.length) ts1 → fork (decide ((↑(l_2.length) : Int) < (↑(ts.length) : Int))) (req (decide (0
 + List.length (seg 0 (ts1.length) ts1) ≤ List.length (seg 0 (ts1.length) ts1))) (req (decide (0 + List.length (seg 0 (es1.length) es1) ≤ List.length (seg 0 (es1.length) es1))) (req (decide (0 + (o.length + 1) ≤
 ys.length)) (Q AX.ret (stS 4 sh9e ((w1, d1, seg 0 (List.length (seg 0 (ts1.length) ts1)) (seg 0 (ts1.length) ts1), seg 0 (List.length (seg 0 (es1.length) es1)) (seg 0 (es1.length) es1), true, ()), seg 0 (o.length + 1) ys,
 ())))))) (req (decide (0 + List.length (seg 0 (ts1.length) ts1) ≤ List.length (seg 0 (ts1.length) ts1))) (req (decide (0 + List.length (seg 0 (es1.length) es1) ≤ List.length (seg 0 (es1.length) es1))) (req (decide (0 +
 (o.length + 1) ≤ ys.length)) ((keptT ts l_2 ∧ l_2.length ≤ 256 ∧ (0 : SV.den (SV.slot 15 (SV.v I))) ≤ (0 : Int) ∧ (0 : Int) ≤ (↑(ts.length) : SV.den (SV.slot 15 (SV.v I)))) ∧ req (inR IntKind.i64 (i + 1)) (req (decide (0
 + List.length (seg 0 (List.length (seg 0 (ts1.length) ts1)) (seg 0 (ts1.length) ts1)) ≤ List.length (seg 0 (List.length (seg 0 (ts1.length) ts1)) (seg 0 (ts1.length) ts1)))) (req (decide (0 + List.length (seg 0
 (List.length (seg 0 (es1.length) es1)) (seg 0 (es1.length) es1)) ≤ List.length (seg 0 (List.length (seg 0 (es1.length) es1)) (seg 0 (es1.length) es1)))) (req (decide (0 + List.length (seg 0 (o.length + 1) ys) ≤
 List.length (seg 0 (o.length + 1) ys))) (Int.toNat ((60 : SV.den (SV.slot 9 (SV.v I))) - (i + 1)) < Int.toNat ((60 : SV.den (SV.slot 9 (SV.v I))) - i) ∧ LC2.spec lc9 (l, (w1, d1, seg 0 (List.length (seg 0 (List.length
 (seg 0 (ts1.length) ts1)) (seg 0 (ts1.length) ts1))) (seg 0 (List.length (seg 0 (ts1.length) ts1)) (seg 0 (ts1.length) ts1)), seg 0 (List.length (seg 0 (List.length (seg 0 (es1.length) es1)) (seg 0 (es1.length) es1)))
 (seg 0 (List.length (seg 0 (es1.length) es1)) (seg 0 (es1.length) es1)), true, ()), seg 0 (List.length (seg 0 (o.length + 1) ys)) (seg 0 (o.length + 1) ys), l_2, i + 1, ()) Q)))))))))))))))))) (fork ((List.getD l
 (Int.toNat i) ((0 : Int), (0 : Int), [], [], [], [], [])).1 == (7 : Int)) (fork ((↑(tx.length) : Int) != (1 : Int)) (req (decide (0 + ts1.length ≤ ts1.length)) (req (decide (0 + es1.length ≤ es1.length)) (req (decide (0 +
 o.length ≤ o.length)) (Q AX.ret (stS 4 sh9e ((w1, d1, seg 0 (ts1.length) ts1, seg 0 (es1.length) es1, true, ()), seg 0 (o.length) o, ())))))) (req (decide ((0 : Int) ≤ (0 : Int) ∧ (0 : Int) < (↑(tx.length) : Int))) (req
 (decide (0 + o.length ≤ o.length)) (List.length (seg 0 (o.length) o) ≤ 9223372036854775807 ∧ ∀ (r : Int), r = firstIx (fun t => decide (t = List.getD tx 0 [])) (seg 0 (o.length) o) (0 : Int) → fork (decide (r ≥ (0 :
 Int))) (req (decide (0 + ts1.length ≤ ts1.length)) (req (decide (0 + es1.length ≤ es1.length)) (req (decide (0 + o.length ≤ o.length)) (Q AX.ret (stS 4 sh9e ((w1, d1, seg 0 (ts1.length) ts1, seg 0 (es1.length) es1, true,
 ()), seg 0 (o.length) o, ())))))) (req (decide ((0 : Int) ≤ (0 : Int) ∧ (0 : Int) < (↑(tx.length) : Int))) (req (decide (0 + o.length ≤ o.length)) (req (fitsN (o.length + 1) 16) (∀ (ys : List (Ty.den Ty.s)), ys = seg 0
 (o.length) o ++ [List.getD tx 0 []] → req (decide (0 + ts1.length ≤ ts1.length)) (req (decide (0 + es1.length ≤ es1.length)) ((List.length (seg 0 (ts1.length) ts1) ≤ 256 ∧ ∀ (t : Ty.den T6), t ∈ seg 0 (ts1.length) ts1 →
 List.length (t.2.2.2.1) ≤ 100) ∧ ∀ (l_2 : List Tk), l_2 = seg 0 (ts1.length) ts1 → fork (decide ((↑(l_2.length) : Int) < (↑(ts.length) : Int))) (req (decide (0 + List.length (seg 0 (ts1.length) ts1) ≤ List.length (seg 0
 (ts1.length) ts1))) (req (decide (0 + List.length (seg 0 (es1.length) es1) ≤ List.length (seg 0 (es1.length) es1))) (req (decide (0 + (o.length + 1) ≤ ys.length)) (Q AX.ret (stS 4 sh9e ((w1, d1, seg 0 (List.length (seg 0
 (ts1.length) ts1)) (seg 0 (ts1.length) ts1), seg 0 (List.length (seg 0 (es1.length) es1)) (seg 0 (es1.length) es1), true, ()), seg 0 (o.length + 1) ys, ())))))) (req (decide (0 + List.length (seg 0 (ts1.length) ts1) ≤
 List.length (seg 0 (ts1.length) ts1))) (req (decide (0 + List.length (seg 0 (es1.length) es1) ≤ List.length (seg 0 (es1.length) es1))) (req (decide (0 + (o.length + 1) ≤ ys.length)) ((keptT ts l_2 ∧ l_2.length ≤ 256 ∧ (0
 : SV.den (SV.slot 15 (SV.v I))) ≤ (0 : Int) ∧ (0 : Int) ≤ (↑(ts.length) : SV.den (SV.slot 15 (SV.v I)))) ∧ req (inR IntKind.i64 (i + 1)) (req (decide (0 + List.length (seg 0 (List.length (seg 0 (ts1.length) ts1)) (seg 0
 (ts1.length) ts1)) ≤ List.length (seg 0 (List.length (seg 0 (ts1.length) ts1)) (seg 0 (ts1.length) ts1)))) (req (decide (0 + List.length (seg 0 (List.length (seg 0 (es1.length) es1)) (seg 0 (es1.length) es1)) ≤
 List.length (seg 0 (List.length (seg 0 (es1.length) es1)) (seg 0 (es1.length) es1)))) (req (decide (0 + List.length (seg 0 (o.length + 1) ys) ≤ List.length (seg 0 (o.length + 1) ys))) (Int.toNat ((60 : SV.den (SV.slot 9
 (SV.v I))) - (i + 1)) < Int.toNat ((60 : SV.den (SV.slot 9 (SV.v I))) - i) ∧ LC2.spec lc9 (l, (w1, d1, seg 0 (List.length (seg 0 (List.length (seg 0 (ts1.length) ts1)) (seg 0 (ts1.length) ts1))) (seg 0 (List.length (seg 0
 (ts1.length) ts1)) (seg 0 (ts1.length) ts1)), seg 0 (List.length (seg 0 (List.length (seg 0 (es1.length) es1)) (seg 0 (es1.length) es1))) (seg 0 (List.length (seg 0 (es1.length) es1)) (seg 0 (es1.length) es1)), true, ()),
 seg 0 (List.length (seg 0 (o.length + 1) ys)) (seg 0 (o.length + 1) ys), l_2, i + 1, ()) Q)))))))))))))))))) (req (decide (0 + ts1.length ≤ ts1.length)) (req (decide (0 + es1.length ≤ es1.length)) ((List.length (seg 0
 (ts1.length) ts1) ≤ 256 ∧ ∀ (t : Ty.den T6), t ∈ seg 0 (ts1.length) ts1 → List.length (t.2.2.2.1) ≤ 100) ∧ ∀ (l_2 : List Tk), l_2 = seg 0 (ts1.length) ts1 → fork (decide ((↑(l_2.length) : Int) < (↑(ts.length) : Int)))
 (req (decide (0 + List.length (seg 0 (ts1.length) ts1) ≤ List.length (seg 0 (ts1.length) ts1))) (req (decide (0 + List.length (seg 0 (es1.length) es1) ≤ List.length (seg 0 (es1.length) es1))) (req (decide (0 + o.length ≤
 o.length)) (Q AX.ret (stS 4 sh9e ((w1, d1, seg 0 (List.length (seg 0 (ts1.length) ts1)) (seg 0 (ts1.length) ts1), seg 0 (List.length (seg 0 (es1.length) es1)) (seg 0 (es1.length) es1), true, ()), seg 0 (o.length) o,
 ())))))) (req (decide (0 + List.length (seg 0 (ts1.length) ts1) ≤ List.length (seg 0 (ts1.length) ts1))) (req (decide (0 + List.length (seg 0 (es1.length) es1) ≤ List.length (seg 0 (es1.length) es1))) (req (decide (0 +
 o.length ≤ o.length)) ((keptT ts l_2 ∧ l_2.length ≤ 256 ∧ (0 : SV.den (SV.slot 15 (SV.v I))) ≤ (0 : Int) ∧ (0 : Int) ≤ (↑(ts.length) : SV.den (SV.slot 15 (SV.v I)))) ∧ req (inR IntKind.i64 (i + 1)) (req (decide (0 +
 List.length (seg 0 (List.length (seg 0 (ts1.length) ts1)) (seg 0 (ts1.length) ts1)) ≤ List.length (seg 0 (List.length (seg 0 (ts1.length) ts1)) (seg 0 (ts1.length) ts1)))) (req (decide (0 + List.length (seg 0 (List.length
 (seg 0 (es1.length) es1)) (seg 0 (es1.length) es1)) ≤ List.length (seg 0 (List.length (seg 0 (es1.length) es1)) (seg 0 (es1.length) es1)))) (req (decide (0 + List.length (seg 0 (o.length) o) ≤ List.length (seg 0
 (o.length) o))) (Int.toNat ((60 : SV.den (SV.slot 9 (SV.v I))) - (i + 1)) < Int.toNat ((60 : SV.den (SV.slot 9 (SV.v I))) - i) ∧ LC2.spec lc9 (l, (w1, d1, seg 0 (List.length (seg 0 (List.length (seg 0 (ts1.length) ts1))
 (seg 0 (ts1.length) ts1))) (seg 0 (List.length (seg 0 (ts1.length) ts1)) (seg 0 (ts1.length) ts1)), seg 0 (List.length (seg 0 (List.length (seg 0 (es1.length) es1)) (seg 0 (es1.length) es1))) (seg 0 (List.length (seg 0
 (es1.length) es1)) (seg 0 (es1.length) es1)), true, ()), seg 0 (List.length (seg 0 (o.length) o)) (seg 0 (o.length) o), l_2, i + 1, ()) Q))))))))))))) (req (decide (0 + ts1.length ≤ ts1.length)) (req (decide (0 +
 es1.length ≤ es1.length)) ((List.length (seg 0 (ts1.length) ts1) ≤ 256 ∧ ∀ (t : Ty.den T6), t ∈ seg 0 (ts1.length) ts1 → List.length (t.2.2.2.1) ≤ 100) ∧ ∀ (l_2 : List Tk), l_2 = seg 0 (ts1.length) ts1 → fork (decide
 ((↑(l_2.length) : Int) < (↑(ts.length) : Int))) (req (decide (0 + List.length (seg 0 (ts1.length) ts1) ≤ List.length (seg 0 (ts1.length) ts1))) (req (decide (0 + List.length (seg 0 (es1.length) es1) ≤ List.length (seg 0
 (es1.length) es1))) (req (decide (0 + o.length ≤ o.length)) (Q AX.ret (stS 4 sh9e ((w1, d1, seg 0 (List.length (seg 0 (ts1.length) ts1)) (seg 0 (ts1.length) ts1), seg 0 (List.length (seg 0 (es1.length) es1)) (seg 0
 (es1.length) es1), true, ()), seg 0 (o.length) o, ())))))) (req (decide (0 + List.length (seg 0 (ts1.length) ts1) ≤ List.length (seg 0 (ts1.length) ts1))) (req (decide (0 + List.length (seg 0 (es1.length) es1) ≤
 List.length (seg 0 (es1.length) es1))) (req (decide (0 + o.length ≤ o.length)) ((keptT ts l_2 ∧ l_2.length ≤ 256 ∧ (0 : SV.den (SV.slot 15 (SV.v I))) ≤ (0 : Int) ∧ (0 : Int) ≤ (↑(ts.length) : SV.den (SV.slot 15 (SV.v
 I)))) ∧ req (inR IntKind.i64 (i + 1)) (req (decide (0 + List.length (seg 0 (List.length (seg 0 (ts1.length) ts1)) (seg 0 (ts1.length) ts1)) ≤ List.length (seg 0 (List.length (seg 0 (ts1.length) ts1)) (seg 0 (ts1.length)
 ts1)))) (req (decide (0 + List.length (seg 0 (List.length (seg 0 (es1.length) es1)) (seg 0 (es1.length) es1)) ≤ List.length (seg 0 (List.length (seg 0 (es1.length) es1)) (seg 0 (es1.length) es1)))) (req (decide (0 +
 List.length (seg 0 (o.length) o) ≤ List.length (seg 0 (o.length) o))) (Int.toNat ((60 : SV.den (SV.slot 9 (SV.v I))) - (i + 1)) < Int.toNat ((60 : SV.den (SV.slot 9 (SV.v I))) - i) ∧ LC2.spec lc9 (l, (w1, d1, seg 0
 (List.length (seg 0 (List.length (seg 0 (ts1.length) ts1)) (seg 0 (ts1.length) ts1))) (seg 0 (List.length (seg 0 (ts1.length) ts1)) (seg 0 (ts1.length) ts1)), seg 0 (List.length (seg 0 (List.length (seg 0 (es1.length)
 es1)) (seg 0 (es1.length) es1))) (seg 0 (List.length (seg 0 (es1.length) es1)) (seg 0 (es1.length) es1)), true, ()), seg 0 (List.length (seg 0 (o.length) o)) (seg 0 (o.length) o), l_2, i + 1, ()) Q))))))))))))))) (req
 (decide (0 + ts.length ≤ ts.length)) (req (decide (0 + es.length ≤ es.length)) (req (decide (0 + o.length ≤ o.length)) (Q (AX.exit 0) (stS 4 sh9e ((w, d0, seg 0 (ts.length) ts, seg 0 (es.length) es, true, ()), seg 0
 (o.length) o, ()))))))) (req (decide (0 + ts.length ≤ ts.length)) (req (decide (0 + es.length ≤ es.length)) (req (decide (0 + o.length ≤ o.length)) (Q (AX.exit 0) (stS 4 sh9e ((w, d0, seg 0 (ts.length) ts, seg 0
 (es.length) es, true, ()), seg 0 (o.length) o, ()))))))) := by kernel_rfl
theorem v9F (wt : Int) (l : List Cl) (K : dens [.b] → Prop) : (xfn1 Tryd.prog { f := [(49, fcWith), (21, fcWorks)], f2 := [(40, fcSing)], l2 := [(9, 0, lc9)] } 5 9 fcLawC (wt, l, ()) K) =
  (fork (!decide ((0 : Int) ≤ wt ∧ wt ≤ (1000 : Int))) (K (true, ())) ((okR (wt, (0 : Int), [], []) ∧ true = true ∧ sameL [] [] ∧ okLs l ∧ InvO (wt, (0 : Int), [], []) [] ∧ (0 : SV.den (SV.slot 9 (SV.v I))) ≤ (0 : Int) ∧ (0
 : Int) ≤ (60 : SV.den (SV.slot 9 (SV.v I))) ∧ (0 : Int) ≤ (0 : Int) ∧ (0 : Int) ≤ (0 : Int)) ∧ ∀ (w1 d1 : Int) (ts1 : List Tk) (es1 : List Ev) (o1 : List Tx), okR (w1, d1, ts1, es1) → InvO (w1, d1, ts1, es1) o1 →
 es1.length ≤ 60 → o1.length ≤ 60 → req (decide (0 + ts1.length ≤ ts1.length)) (req (decide (0 + es1.length ≤ es1.length)) (req (decide (0 + o1.length ≤ o1.length)) ((okR (w1, d1, seg 0 (ts1.length) ts1, seg 0 (es1.length)
 es1) ∧ true = true ∧ List.length (seg 0 (es1.length) es1) ≤ 1000 ∧ List.length (seg 0 (o1.length) o1) ≤ 1000 ∧ sortedE (seg 0 (es1.length) es1) ∧ ∀ (j : Nat), j < List.length (seg 0 (ts1.length) ts1) → manyI (seg 0
 (ts1.length) ts1) ((List.getD (seg 0 (ts1.length) ts1) j T0).2.1) = wantI (seg 0 (ts1.length) ts1) (seg 0 (o1.length) o1) ((List.getD (seg 0 (ts1.length) ts1) j T0).2.1)) ∧ K (true, ())))))) := by kernel_rfl
end Go.P3
