/- Rolls: the statements that ask the program alone: states and what is to be shown, reduced. No conditions. -/
import Derived.Test.YtcpdcpfbgmiaoaaDoorRollF
import Derived.Test.YtcpdcpfbgmiaoaaDoorFit2S
set_option linter.unusedSimpArgs false
set_option linter.unusedVariables false
set_option linter.constructorNameAsVariable false
set_option maxRecDepth 100000
set_option maxHeartbeats 2000000
namespace Go.P3
open Go.Lom Go.Proofs Go

abbrev LC' : Ty := .sl CT
/-- What a statement of rolls may take: what Go lets lists and texts be. -/
structure okLs (l : List Cl) : Prop where
  len : l.length ≤ big
  all : ∀ c ∈ l, okCl c
abbrev fcFitN : FC := ⟨[.v L, .v L], [I, I], fun x K => ∀ n e : Int, (n, e) = fitE x.1 x.2.1 → K (n, e, ())⟩
/-! TicketHalves -/
abbrev sh7 : SV := S [(0, .v I), (1, .v LC'), (5, .box 0 (rollC 1 2)), (7, .v I)]
def ex7 : Ex2
  | .ret => some (S [(4, .v .b)], 0)
  | _ => some (.nil, 0)
abbrev lc7 : LC2 := ⟨0, sh7, 3, fun (wt, l, r, i, _) Q => (okR (r.1, r.2.1, r.2.2.1, r.2.2.2.1) ∧ r.2.2.2.2.1 = true ∧ wt = r.1 ∧ okLs l ∧ 0 ≤ i ∧ i ≤ 60 ∧ (r.2.2.2.1.length : Int) ≤ i) ∧ Q (.exit 0) (stS 0 .nil ())⟩
theorem v7L (wt d0 : Int) (ts : List Tk) (es : List Ev) (l : List Cl) (i : Int) (Q : AX → St → Prop) : (xloop2 Tryd.prog { f2 := [(30, fcTix), (31, fcCall)], f := [(16, fcNumX), (22, fcFitN), (28, fcFrom)] } 5 7 0 lc7 ex7 (fun (_, _, _, i, _) => (60 - i).toNat) (wt, l, (wt, d0, ts, es, true, ()), i, ()) Q) =
(fork (decide (i < (↑(List.length l) : Int))) (fork (decide (i < (60 : Int))) (req (decide ((0 : Int) ≤ i ∧ i < (↑(List.length l) : Int))) (req (decide ((0 : Nat) + List.length ts ≤ List.length ts)) (req (decide ((0 :
 Nat) + List.length es ≤ List.length es)) ((List.length (seg (0 : Nat) (List.length ts) ts) ≤ (256 : Nat) ∧ ∀ (t : Ty.den Go.P3.T6), t ∈ seg (0 : Nat) (List.length ts) ts → List.length (Prod.fst (Prod.snd (Prod.snd
 (Prod.snd t)))) ≤ (100 : Nat)) ∧ ∀ (l_1 : List Go.P3.Tk), l_1 = seg (0 : Nat) (List.length ts) ts → ∀ (r e : Int), (r, e) = Go.P3.numberI (Prod.fst (Prod.snd (Prod.snd (List.getD l (Int.toNat i) ((0 : Int), (0 : Int),
 [], [], [], [], []))))) → req (decide ((0 : Nat) + List.length (seg (0 : Nat) (List.length ts) ts) ≤ List.length (seg (0 : Nat) (List.length ts) ts))) (req (decide ((0 : Nat) + List.length (seg (0 : Nat) (List.length es)
 es) ≤ List.length (seg (0 : Nat) (List.length es) es))) ((Go.P3.okR (wt, d0, seg (0 : Nat) (List.length (seg (0 : Nat) (List.length ts) ts)) (seg (0 : Nat) (List.length ts) ts), seg (0 : Nat) (List.length (seg (0 : Nat)
 (List.length es) es)) (seg (0 : Nat) (List.length es) es)) ∧ Bool.true = Bool.true ∧ fitsN (List.length (seg (0 : Nat) (List.length (seg (0 : Nat) (List.length es) es)) (seg (0 : Nat) (List.length es) es)) + (1 : Nat))
 (40 : Nat) = Bool.true ∧ Go.P3.okCl (List.getD l (Int.toNat i) ((0 : Int), (0 : Int), [], [], [], [], []))) ∧ ∀ (w1 d1 : Int) (ts1 : List Go.P3.Tk) (es1 : List Go.P3.Ev) (tx : List Go.P3.Tx) (l_2 : List Int) (e_1 : Int),
 ((w1, d1, ts1, es1), tx, l_2, e_1) = Go.P3.callI (wt, d0, seg (0 : Nat) (List.length (seg (0 : Nat) (List.length ts) ts)) (seg (0 : Nat) (List.length ts) ts), seg (0 : Nat) (List.length (seg (0 : Nat) (List.length es)
 es)) (seg (0 : Nat) (List.length es) es)) (List.getD l (Int.toNat i) ((0 : Int), (0 : Int), [], [], [], [], [])) → fork (e_1 != (0 : Int)) (req (inR Go.IntKind.i64 (i + (1 : Int))) (req (decide ((0 : Nat) + List.length
 ts1 ≤ List.length ts1)) (req (decide ((0 : Nat) + List.length es1 ≤ List.length es1)) (Int.toNat ((60 : SV.den (SV.slot (7 : Nat) (SV.v Go.P3.I))) - (i + (1 : Int))) < Int.toNat ((60 : SV.den (SV.slot (7 : Nat) (SV.v
 Go.P3.I))) - i) ∧ LC2.spec Go.P3.lc7 (wt, l, (w1, d1, seg (0 : Nat) (List.length ts1) ts1, seg (0 : Nat) (List.length es1) es1, Bool.true, ()), i + (1 : Int), ()) Q)))) (fork (Prod.fst (List.getD l (Int.toNat i) ((0 :
 Int), (0 : Int), [], [], [], [], [])) == (1 : Int)) (req (inR Go.IntKind.i64 (i + (1 : Int))) (req (decide ((0 : Nat) + List.length ts1 ≤ List.length ts1)) (req (decide ((0 : Nat) + List.length es1 ≤ List.length es1))
 (Int.toNat ((60 : SV.den (SV.slot (7 : Nat) (SV.v Go.P3.I))) - (i + (1 : Int))) < Int.toNat ((60 : SV.den (SV.slot (7 : Nat) (SV.v Go.P3.I))) - i) ∧ LC2.spec Go.P3.lc7 (wt, l, (w1, d1, seg (0 : Nat) (List.length ts1)
 ts1, seg (0 : Nat) (List.length es1) es1, Bool.true, ()), i + (1 : Int), ()) Q)))) (fork (!decide ((1 : Int) ≤ Prod.fst (List.getD l (Int.toNat i) ((0 : Int), (0 : Int), [], [], [], [], [])) ∧ Prod.fst (List.getD l
 (Int.toNat i) ((0 : Int), (0 : Int), [], [], [], [], [])) ≤ (7 : Int))) (req (inR Go.IntKind.i64 (i + (1 : Int))) (req (decide ((0 : Nat) + List.length ts1 ≤ List.length ts1)) (req (decide ((0 : Nat) + List.length es1 ≤
 List.length es1)) (Int.toNat ((60 : SV.den (SV.slot (7 : Nat) (SV.v Go.P3.I))) - (i + (1 : Int))) < Int.toNat ((60 : SV.den (SV.slot (7 : Nat) (SV.v Go.P3.I))) - i) ∧ LC2.spec Go.P3.lc7 (wt, l, (w1, d1, seg (0 : Nat)
 (List.length ts1) ts1, seg (0 : Nat) (List.length es1) es1, Bool.true, ()), i + (1 : Int), ()) Q)))) (fork (e != (0 : Int)) (Q AX.ret (stS (0 : Nat) (Go.P3.S [((4 : Nat), SV.v Ty.b)]) (Bool.false, ()))) (fork (!decide
 ((1 : Int) ≤ r ∧ r ≤ (↑(List.length l_1) : Int))) (Q AX.ret (stS (0 : Nat) (Go.P3.S [((4 : Nat), SV.v Ty.b)]) (Bool.false, ()))) (req (inR Go.IntKind.i64 (r - (1 : Int))) (req (decide ((0 : Int) ≤ r - (1 : Int) ∧ r - (1
 : Int) < (↑(List.length l_1) : Int))) (∀ (n e : Int), (n, e) = Go.P3.fitE (Prod.fst (Prod.snd (Prod.snd (Prod.snd (List.getD l_1 (Int.toNat (r - (1 : Int))) ((0 : Int), [], (0 : Int), [], (0 : Int), (0 : Int)))))))
 (Prod.fst (Prod.snd (Prod.snd (Prod.snd (Prod.snd (List.getD l (Int.toNat i) ((0 : Int), (0 : Int), [], [], [], [], []))))))) → fork (Prod.fst (List.getD l (Int.toNat i) ((0 : Int), (0 : Int), [], [], [], [], [])) == (3
 : Int)) (fork (Prod.fst (List.getD l (Int.toNat i) ((0 : Int), (0 : Int), [], [], [], [], [])) == (3 : Int)) (fork (e != (0 : Int)) (Q AX.ret (stS (0 : Nat) (Go.P3.S [((4 : Nat), SV.v Ty.b)]) (Bool.false, ()))) (fork
 (!Bool.true == (Prod.fst (Prod.snd (Prod.snd (List.getD l_1 (Int.toNat (r - (1 : Int))) ((0 : Int), [], (0 : Int), [], (0 : Int), (0 : Int))))) == (2 : Int))) (Q AX.ret (stS (0 : Nat) (Go.P3.S [((4 : Nat), SV.v Ty.b)])
 (Bool.false, ()))) (fork (decide ((3 : Int) ≤ Prod.fst (Prod.snd (Prod.snd (List.getD l_1 (Int.toNat (r - (1 : Int))) ((0 : Int), [], (0 : Int), [], (0 : Int), (0 : Int))))) ∧ Prod.fst (Prod.snd (Prod.snd (List.getD l_1
 (Int.toNat (r - (1 : Int))) ((0 : Int), [], (0 : Int), [], (0 : Int), (0 : Int))))) ≤ (5 : Int))) (Q AX.ret (stS (0 : Nat) (Go.P3.S [((4 : Nat), SV.v Ty.b)]) (Bool.false, ()))) (fork (Prod.fst (List.getD l (Int.toNat i)
 ((0 : Int), (0 : Int), [], [], [], [], [])) == (4 : Int)) (req (inR Go.IntKind.i64 (Prod.fst (Prod.snd (List.getD l (Int.toNat i) ((0 : Int), (0 : Int), [], [], [], [], []))) - Prod.fst (Prod.snd (Prod.snd (Prod.snd
 (Prod.snd (List.getD l_1 (Int.toNat (r - (1 : Int))) ((0 : Int), [], (0 : Int), [], (0 : Int), (0 : Int))))))))) (fork (decide (Prod.fst (Prod.snd (List.getD l (Int.toNat i) ((0 : Int), (0 : Int), [], [], [], [], []))) -
 Prod.fst (Prod.snd (Prod.snd (Prod.snd (Prod.snd (List.getD l_1 (Int.toNat (r - (1 : Int))) ((0 : Int), [], (0 : Int), [], (0 : Int), (0 : Int))))))) < wt)) (Q AX.ret (stS (0 : Nat) (Go.P3.S [((4 : Nat), SV.v Ty.b)])
 (Bool.false, ()))) (req (inR Go.IntKind.i64 (i + (1 : Int))) (req (decide ((0 : Nat) + List.length ts1 ≤ List.length ts1)) (req (decide ((0 : Nat) + List.length es1 ≤ List.length es1)) (Int.toNat ((60 : SV.den (SV.slot
 (7 : Nat) (SV.v Go.P3.I))) - (i + (1 : Int))) < Int.toNat ((60 : SV.den (SV.slot (7 : Nat) (SV.v Go.P3.I))) - i) ∧ LC2.spec Go.P3.lc7 (wt, l, (w1, d1, seg (0 : Nat) (List.length ts1) ts1, seg (0 : Nat) (List.length es1)
 es1, Bool.true, ()), i + (1 : Int), ()) Q)))))) (req (inR Go.IntKind.i64 (i + (1 : Int))) (req (decide ((0 : Nat) + List.length ts1 ≤ List.length ts1)) (req (decide ((0 : Nat) + List.length es1 ≤ List.length es1))
 (Int.toNat ((60 : SV.den (SV.slot (7 : Nat) (SV.v Go.P3.I))) - (i + (1 : Int))) < Int.toNat ((60 : SV.den (SV.slot (7 : Nat) (SV.v Go.P3.I))) - i) ∧ LC2.spec Go.P3.lc7 (wt, l, (w1, d1, seg (0 : Nat) (List.length ts1)
 ts1, seg (0 : Nat) (List.length es1) es1, Bool.true, ()), i + (1 : Int), ()) Q)))))))) (fork (e != (0 : Int)) (Q AX.ret (stS (0 : Nat) (Go.P3.S [((4 : Nat), SV.v Ty.b)]) (Bool.false, ()))) (fork (!(Prod.fst (List.getD l
 (Int.toNat i) ((0 : Int), (0 : Int), [], [], [], [], [])) == (4 : Int)) == (Prod.fst (Prod.snd (Prod.snd (List.getD l_1 (Int.toNat (r - (1 : Int))) ((0 : Int), [], (0 : Int), [], (0 : Int), (0 : Int))))) == (2 : Int)))
 (Q AX.ret (stS (0 : Nat) (Go.P3.S [((4 : Nat), SV.v Ty.b)]) (Bool.false, ()))) (fork (decide ((3 : Int) ≤ Prod.fst (Prod.snd (Prod.snd (List.getD l_1 (Int.toNat (r - (1 : Int))) ((0 : Int), [], (0 : Int), [], (0 : Int),
 (0 : Int))))) ∧ Prod.fst (Prod.snd (Prod.snd (List.getD l_1 (Int.toNat (r - (1 : Int))) ((0 : Int), [], (0 : Int), [], (0 : Int), (0 : Int))))) ≤ (5 : Int))) (Q AX.ret (stS (0 : Nat) (Go.P3.S [((4 : Nat), SV.v Ty.b)])
 (Bool.false, ()))) (fork (Prod.fst (List.getD l (Int.toNat i) ((0 : Int), (0 : Int), [], [], [], [], [])) == (4 : Int)) (req (inR Go.IntKind.i64 (Prod.fst (Prod.snd (List.getD l (Int.toNat i) ((0 : Int), (0 : Int), [],
 [], [], [], []))) - Prod.fst (Prod.snd (Prod.snd (Prod.snd (Prod.snd (List.getD l_1 (Int.toNat (r - (1 : Int))) ((0 : Int), [], (0 : Int), [], (0 : Int), (0 : Int))))))))) (fork (decide (Prod.fst (Prod.snd (List.getD l
 (Int.toNat i) ((0 : Int), (0 : Int), [], [], [], [], []))) - Prod.fst (Prod.snd (Prod.snd (Prod.snd (Prod.snd (List.getD l_1 (Int.toNat (r - (1 : Int))) ((0 : Int), [], (0 : Int), [], (0 : Int), (0 : Int))))))) < wt)) (Q
 AX.ret (stS (0 : Nat) (Go.P3.S [((4 : Nat), SV.v Ty.b)]) (Bool.false, ()))) (req (inR Go.IntKind.i64 (i + (1 : Int))) (req (decide ((0 : Nat) + List.length ts1 ≤ List.length ts1)) (req (decide ((0 : Nat) + List.length
 es1 ≤ List.length es1)) (Int.toNat ((60 : SV.den (SV.slot (7 : Nat) (SV.v Go.P3.I))) - (i + (1 : Int))) < Int.toNat ((60 : SV.den (SV.slot (7 : Nat) (SV.v Go.P3.I))) - i) ∧ LC2.spec Go.P3.lc7 (wt, l, (w1, d1, seg (0 :
 Nat) (List.length ts1) ts1, seg (0 : Nat) (List.length es1) es1, Bool.true, ()), i + (1 : Int), ()) Q)))))) (req (inR Go.IntKind.i64 (i + (1 : Int))) (req (decide ((0 : Nat) + List.length ts1 ≤ List.length ts1)) (req
 (decide ((0 : Nat) + List.length es1 ≤ List.length es1)) (Int.toNat ((60 : SV.den (SV.slot (7 : Nat) (SV.v Go.P3.I))) - (i + (1 : Int))) < Int.toNat ((60 : SV.den (SV.slot (7 : Nat) (SV.v Go.P3.I))) - i) ∧ LC2.spec
 Go.P3.lc7 (wt, l, (w1, d1, seg (0 : Nat) (List.length ts1) ts1, seg (0 : Nat) (List.length es1) es1, Bool.true, ()), i + (1 : Int), ()) Q))))))))) (fork (Prod.fst (List.getD l (Int.toNat i) ((0 : Int), (0 : Int), [], [],
 [], [], [])) == (5 : Int)) (fork (Prod.fst (List.getD l (Int.toNat i) ((0 : Int), (0 : Int), [], [], [], [], [])) == (3 : Int)) (fork (e != (0 : Int)) (Q AX.ret (stS (0 : Nat) (Go.P3.S [((4 : Nat), SV.v Ty.b)])
 (Bool.false, ()))) (fork (!Bool.true == (Prod.fst (Prod.snd (Prod.snd (List.getD l_1 (Int.toNat (r - (1 : Int))) ((0 : Int), [], (0 : Int), [], (0 : Int), (0 : Int))))) == (2 : Int))) (Q AX.ret (stS (0 : Nat) (Go.P3.S
 [((4 : Nat), SV.v Ty.b)]) (Bool.false, ()))) (fork (decide ((3 : Int) ≤ Prod.fst (Prod.snd (Prod.snd (List.getD l_1 (Int.toNat (r - (1 : Int))) ((0 : Int), [], (0 : Int), [], (0 : Int), (0 : Int))))) ∧ Prod.fst (Prod.snd
 (Prod.snd (List.getD l_1 (Int.toNat (r - (1 : Int))) ((0 : Int), [], (0 : Int), [], (0 : Int), (0 : Int))))) ≤ (5 : Int))) (Q AX.ret (stS (0 : Nat) (Go.P3.S [((4 : Nat), SV.v Ty.b)]) (Bool.false, ()))) (fork (Prod.fst
 (List.getD l (Int.toNat i) ((0 : Int), (0 : Int), [], [], [], [], [])) == (4 : Int)) (req (inR Go.IntKind.i64 (Prod.fst (Prod.snd (List.getD l (Int.toNat i) ((0 : Int), (0 : Int), [], [], [], [], []))) - Prod.fst
 (Prod.snd (Prod.snd (Prod.snd (Prod.snd (List.getD l_1 (Int.toNat (r - (1 : Int))) ((0 : Int), [], (0 : Int), [], (0 : Int), (0 : Int))))))))) (fork (decide (Prod.fst (Prod.snd (List.getD l (Int.toNat i) ((0 : Int), (0 :
 Int), [], [], [], [], []))) - Prod.fst (Prod.snd (Prod.snd (Prod.snd (Prod.snd (List.getD l_1 (Int.toNat (r - (1 : Int))) ((0 : Int), [], (0 : Int), [], (0 : Int), (0 : Int))))))) < wt)) (Q AX.ret (stS (0 : Nat) (Go.P3.S
 [((4 : Nat), SV.v Ty.b)]) (Bool.false, ()))) (req (inR Go.IntKind.i64 (i + (1 : Int))) (req (decide ((0 : Nat) + List.length ts1 ≤ List.length ts1)) (req (decide ((0 : Nat) + List.length es1 ≤ List.length es1))
 (Int.toNat ((60 : SV.den (SV.slot (7 : Nat) (SV.v Go.P3.I))) - (i + (1 : Int))) < Int.toNat ((60 : SV.den (SV.slot (7 : Nat) (SV.v Go.P3.I))) - i) ∧ LC2.spec Go.P3.lc7 (wt, l, (w1, d1, seg (0 : Nat) (List.length ts1)
 ts1, seg (0 : Nat) (List.length es1) es1, Bool.true, ()), i + (1 : Int), ()) Q)))))) (req (inR Go.IntKind.i64 (i + (1 : Int))) (req (decide ((0 : Nat) + List.length ts1 ≤ List.length ts1)) (req (decide ((0 : Nat) +
 List.length es1 ≤ List.length es1)) (Int.toNat ((60 : SV.den (SV.slot (7 : Nat) (SV.v Go.P3.I))) - (i + (1 : Int))) < Int.toNat ((60 : SV.den (SV.slot (7 : Nat) (SV.v Go.P3.I))) - i) ∧ LC2.spec Go.P3.lc7 (wt, l, (w1, d1,
 seg (0 : Nat) (List.length ts1) ts1, seg (0 : Nat) (List.length es1) es1, Bool.true, ()), i + (1 : Int), ()) Q)))))))) (fork (e != (0 : Int)) (Q AX.ret (stS (0 : Nat) (Go.P3.S [((4 : Nat), SV.v Ty.b)]) (Bool.false, ())))
 (fork (!(Prod.fst (List.getD l (Int.toNat i) ((0 : Int), (0 : Int), [], [], [], [], [])) == (4 : Int)) == (Prod.fst (Prod.snd (Prod.snd (List.getD l_1 (Int.toNat (r - (1 : Int))) ((0 : Int), [], (0 : Int), [], (0 : Int),
 (0 : Int))))) == (2 : Int))) (Q AX.ret (stS (0 : Nat) (Go.P3.S [((4 : Nat), SV.v Ty.b)]) (Bool.false, ()))) (fork (decide ((3 : Int) ≤ Prod.fst (Prod.snd (Prod.snd (List.getD l_1 (Int.toNat (r - (1 : Int))) ((0 : Int),
 [], (0 : Int), [], (0 : Int), (0 : Int))))) ∧ Prod.fst (Prod.snd (Prod.snd (List.getD l_1 (Int.toNat (r - (1 : Int))) ((0 : Int), [], (0 : Int), [], (0 : Int), (0 : Int))))) ≤ (5 : Int))) (Q AX.ret (stS (0 : Nat)
 (Go.P3.S [((4 : Nat), SV.v Ty.b)]) (Bool.false, ()))) (fork (Prod.fst (List.getD l (Int.toNat i) ((0 : Int), (0 : Int), [], [], [], [], [])) == (4 : Int)) (req (inR Go.IntKind.i64 (Prod.fst (Prod.snd (List.getD l
 (Int.toNat i) ((0 : Int), (0 : Int), [], [], [], [], []))) - Prod.fst (Prod.snd (Prod.snd (Prod.snd (Prod.snd (List.getD l_1 (Int.toNat (r - (1 : Int))) ((0 : Int), [], (0 : Int), [], (0 : Int), (0 : Int))))))))) (fork
 (decide (Prod.fst (Prod.snd (List.getD l (Int.toNat i) ((0 : Int), (0 : Int), [], [], [], [], []))) - Prod.fst (Prod.snd (Prod.snd (Prod.snd (Prod.snd (List.getD l_1 (Int.toNat (r - (1 : Int))) ((0 : Int), [], (0 : Int),
 [], (0 : Int), (0 : Int))))))) < wt)) (Q AX.ret (stS (0 : Nat) (Go.P3.S [((4 : Nat), SV.v Ty.b)]) (Bool.false, ()))) (req (inR Go.IntKind.i64 (i + (1 : Int))) (req (decide ((0 : Nat) + List.length ts1 ≤ List.length ts1))
 (req (decide ((0 : Nat) + List.length es1 ≤ List.length es1)) (Int.toNat ((60 : SV.den (SV.slot (7 : Nat) (SV.v Go.P3.I))) - (i + (1 : Int))) < Int.toNat ((60 : SV.den (SV.slot (7 : Nat) (SV.v Go.P3.I))) - i) ∧ LC2.spec
 Go.P3.lc7 (wt, l, (w1, d1, seg (0 : Nat) (List.length ts1) ts1, seg (0 : Nat) (List.length es1) es1, Bool.true, ()), i + (1 : Int), ()) Q)))))) (req (inR Go.IntKind.i64 (i + (1 : Int))) (req (decide ((0 : Nat) +
 List.length ts1 ≤ List.length ts1)) (req (decide ((0 : Nat) + List.length es1 ≤ List.length es1)) (Int.toNat ((60 : SV.den (SV.slot (7 : Nat) (SV.v Go.P3.I))) - (i + (1 : Int))) < Int.toNat ((60 : SV.den (SV.slot (7 :
 Nat) (SV.v Go.P3.I))) - i) ∧ LC2.spec Go.P3.lc7 (wt, l, (w1, d1, seg (0 : Nat) (List.length ts1) ts1, seg (0 : Nat) (List.length es1) es1, Bool.true, ()), i + (1 : Int), ()) Q))))))))) (fork (Prod.fst (List.getD l
 (Int.toNat i) ((0 : Int), (0 : Int), [], [], [], [], [])) == (3 : Int)) (fork (Prod.fst (List.getD l (Int.toNat i) ((0 : Int), (0 : Int), [], [], [], [], [])) == (6 : Int)) (fork (e != (0 : Int)) (Q AX.ret (stS (0 : Nat)
 (Go.P3.S [((4 : Nat), SV.v Ty.b)]) (Bool.false, ()))) (fork (!Bool.true == (Prod.fst (Prod.snd (Prod.snd (List.getD l_1 (Int.toNat (r - (1 : Int))) ((0 : Int), [], (0 : Int), [], (0 : Int), (0 : Int))))) == (2 : Int)))
 (Q AX.ret (stS (0 : Nat) (Go.P3.S [((4 : Nat), SV.v Ty.b)]) (Bool.false, ()))) (fork (decide ((3 : Int) ≤ Prod.fst (Prod.snd (Prod.snd (List.getD l_1 (Int.toNat (r - (1 : Int))) ((0 : Int), [], (0 : Int), [], (0 : Int),
 (0 : Int))))) ∧ Prod.fst (Prod.snd (Prod.snd (List.getD l_1 (Int.toNat (r - (1 : Int))) ((0 : Int), [], (0 : Int), [], (0 : Int), (0 : Int))))) ≤ (5 : Int))) (Q AX.ret (stS (0 : Nat) (Go.P3.S [((4 : Nat), SV.v Ty.b)])
 (Bool.false, ()))) (fork (Prod.fst (List.getD l (Int.toNat i) ((0 : Int), (0 : Int), [], [], [], [], [])) == (4 : Int)) (req (inR Go.IntKind.i64 (Prod.fst (Prod.snd (List.getD l (Int.toNat i) ((0 : Int), (0 : Int), [],
 [], [], [], []))) - Prod.fst (Prod.snd (Prod.snd (Prod.snd (Prod.snd (List.getD l_1 (Int.toNat (r - (1 : Int))) ((0 : Int), [], (0 : Int), [], (0 : Int), (0 : Int))))))))) (fork (decide (Prod.fst (Prod.snd (List.getD l
 (Int.toNat i) ((0 : Int), (0 : Int), [], [], [], [], []))) - Prod.fst (Prod.snd (Prod.snd (Prod.snd (Prod.snd (List.getD l_1 (Int.toNat (r - (1 : Int))) ((0 : Int), [], (0 : Int), [], (0 : Int), (0 : Int))))))) < wt)) (Q
 AX.ret (stS (0 : Nat) (Go.P3.S [((4 : Nat), SV.v Ty.b)]) (Bool.false, ()))) (req (inR Go.IntKind.i64 (i + (1 : Int))) (req (decide ((0 : Nat) + List.length ts1 ≤ List.length ts1)) (req (decide ((0 : Nat) + List.length
 es1 ≤ List.length es1)) (Int.toNat ((60 : SV.den (SV.slot (7 : Nat) (SV.v Go.P3.I))) - (i + (1 : Int))) < Int.toNat ((60 : SV.den (SV.slot (7 : Nat) (SV.v Go.P3.I))) - i) ∧ LC2.spec Go.P3.lc7 (wt, l, (w1, d1, seg (0 :
 Nat) (List.length ts1) ts1, seg (0 : Nat) (List.length es1) es1, Bool.true, ()), i + (1 : Int), ()) Q)))))) (req (inR Go.IntKind.i64 (i + (1 : Int))) (req (decide ((0 : Nat) + List.length ts1 ≤ List.length ts1)) (req
 (decide ((0 : Nat) + List.length es1 ≤ List.length es1)) (Int.toNat ((60 : SV.den (SV.slot (7 : Nat) (SV.v Go.P3.I))) - (i + (1 : Int))) < Int.toNat ((60 : SV.den (SV.slot (7 : Nat) (SV.v Go.P3.I))) - i) ∧ LC2.spec
 Go.P3.lc7 (wt, l, (w1, d1, seg (0 : Nat) (List.length ts1) ts1, seg (0 : Nat) (List.length es1) es1, Bool.true, ()), i + (1 : Int), ()) Q)))))))) (fork (!Bool.true == (Prod.fst (Prod.snd (Prod.snd (List.getD l_1
 (Int.toNat (r - (1 : Int))) ((0 : Int), [], (0 : Int), [], (0 : Int), (0 : Int))))) == (2 : Int))) (Q AX.ret (stS (0 : Nat) (Go.P3.S [((4 : Nat), SV.v Ty.b)]) (Bool.false, ()))) (fork (decide ((3 : Int) ≤ Prod.fst
 (Prod.snd (Prod.snd (List.getD l_1 (Int.toNat (r - (1 : Int))) ((0 : Int), [], (0 : Int), [], (0 : Int), (0 : Int))))) ∧ Prod.fst (Prod.snd (Prod.snd (List.getD l_1 (Int.toNat (r - (1 : Int))) ((0 : Int), [], (0 : Int),
 [], (0 : Int), (0 : Int))))) ≤ (5 : Int))) (Q AX.ret (stS (0 : Nat) (Go.P3.S [((4 : Nat), SV.v Ty.b)]) (Bool.false, ()))) (fork (Prod.fst (List.getD l (Int.toNat i) ((0 : Int), (0 : Int), [], [], [], [], [])) == (4 :
 Int)) (req (inR Go.IntKind.i64 (Prod.fst (Prod.snd (List.getD l (Int.toNat i) ((0 : Int), (0 : Int), [], [], [], [], []))) - Prod.fst (Prod.snd (Prod.snd (Prod.snd (Prod.snd (List.getD l_1 (Int.toNat (r - (1 : Int))) ((0
 : Int), [], (0 : Int), [], (0 : Int), (0 : Int))))))))) (fork (decide (Prod.fst (Prod.snd (List.getD l (Int.toNat i) ((0 : Int), (0 : Int), [], [], [], [], []))) - Prod.fst (Prod.snd (Prod.snd (Prod.snd (Prod.snd
 (List.getD l_1 (Int.toNat (r - (1 : Int))) ((0 : Int), [], (0 : Int), [], (0 : Int), (0 : Int))))))) < wt)) (Q AX.ret (stS (0 : Nat) (Go.P3.S [((4 : Nat), SV.v Ty.b)]) (Bool.false, ()))) (req (inR Go.IntKind.i64 (i + (1
 : Int))) (req (decide ((0 : Nat) + List.length ts1 ≤ List.length ts1)) (req (decide ((0 : Nat) + List.length es1 ≤ List.length es1)) (Int.toNat ((60 : SV.den (SV.slot (7 : Nat) (SV.v Go.P3.I))) - (i + (1 : Int))) <
 Int.toNat ((60 : SV.den (SV.slot (7 : Nat) (SV.v Go.P3.I))) - i) ∧ LC2.spec Go.P3.lc7 (wt, l, (w1, d1, seg (0 : Nat) (List.length ts1) ts1, seg (0 : Nat) (List.length es1) es1, Bool.true, ()), i + (1 : Int), ()) Q))))))
 (req (inR Go.IntKind.i64 (i + (1 : Int))) (req (decide ((0 : Nat) + List.length ts1 ≤ List.length ts1)) (req (decide ((0 : Nat) + List.length es1 ≤ List.length es1)) (Int.toNat ((60 : SV.den (SV.slot (7 : Nat) (SV.v
 Go.P3.I))) - (i + (1 : Int))) < Int.toNat ((60 : SV.den (SV.slot (7 : Nat) (SV.v Go.P3.I))) - i) ∧ LC2.spec Go.P3.lc7 (wt, l, (w1, d1, seg (0 : Nat) (List.length ts1) ts1, seg (0 : Nat) (List.length es1) es1, Bool.true,
 ()), i + (1 : Int), ()) Q)))))))) (fork (Prod.fst (List.getD l (Int.toNat i) ((0 : Int), (0 : Int), [], [], [], [], [])) == (6 : Int)) (fork (e != (0 : Int)) (Q AX.ret (stS (0 : Nat) (Go.P3.S [((4 : Nat), SV.v Ty.b)])
 (Bool.false, ()))) (fork (!(Prod.fst (List.getD l (Int.toNat i) ((0 : Int), (0 : Int), [], [], [], [], [])) == (4 : Int)) == (Prod.fst (Prod.snd (Prod.snd (List.getD l_1 (Int.toNat (r - (1 : Int))) ((0 : Int), [], (0 :
 Int), [], (0 : Int), (0 : Int))))) == (2 : Int))) (Q AX.ret (stS (0 : Nat) (Go.P3.S [((4 : Nat), SV.v Ty.b)]) (Bool.false, ()))) (fork (decide ((3 : Int) ≤ Prod.fst (Prod.snd (Prod.snd (List.getD l_1 (Int.toNat (r - (1 :
 Int))) ((0 : Int), [], (0 : Int), [], (0 : Int), (0 : Int))))) ∧ Prod.fst (Prod.snd (Prod.snd (List.getD l_1 (Int.toNat (r - (1 : Int))) ((0 : Int), [], (0 : Int), [], (0 : Int), (0 : Int))))) ≤ (5 : Int))) (Q AX.ret
 (stS (0 : Nat) (Go.P3.S [((4 : Nat), SV.v Ty.b)]) (Bool.false, ()))) (fork (Prod.fst (List.getD l (Int.toNat i) ((0 : Int), (0 : Int), [], [], [], [], [])) == (4 : Int)) (req (inR Go.IntKind.i64 (Prod.fst (Prod.snd
 (List.getD l (Int.toNat i) ((0 : Int), (0 : Int), [], [], [], [], []))) - Prod.fst (Prod.snd (Prod.snd (Prod.snd (Prod.snd (List.getD l_1 (Int.toNat (r - (1 : Int))) ((0 : Int), [], (0 : Int), [], (0 : Int), (0 :
 Int))))))))) (fork (decide (Prod.fst (Prod.snd (List.getD l (Int.toNat i) ((0 : Int), (0 : Int), [], [], [], [], []))) - Prod.fst (Prod.snd (Prod.snd (Prod.snd (Prod.snd (List.getD l_1 (Int.toNat (r - (1 : Int))) ((0 :
 Int), [], (0 : Int), [], (0 : Int), (0 : Int))))))) < wt)) (Q AX.ret (stS (0 : Nat) (Go.P3.S [((4 : Nat), SV.v Ty.b)]) (Bool.false, ()))) (req (inR Go.IntKind.i64 (i + (1 : Int))) (req (decide ((0 : Nat) + List.length
 ts1 ≤ List.length ts1)) (req (decide ((0 : Nat) + List.length es1 ≤ List.length es1)) (Int.toNat ((60 : SV.den (SV.slot (7 : Nat) (SV.v Go.P3.I))) - (i + (1 : Int))) < Int.toNat ((60 : SV.den (SV.slot (7 : Nat) (SV.v
 Go.P3.I))) - i) ∧ LC2.spec Go.P3.lc7 (wt, l, (w1, d1, seg (0 : Nat) (List.length ts1) ts1, seg (0 : Nat) (List.length es1) es1, Bool.true, ()), i + (1 : Int), ()) Q)))))) (req (inR Go.IntKind.i64 (i + (1 : Int))) (req
 (decide ((0 : Nat) + List.length ts1 ≤ List.length ts1)) (req (decide ((0 : Nat) + List.length es1 ≤ List.length es1)) (Int.toNat ((60 : SV.den (SV.slot (7 : Nat) (SV.v Go.P3.I))) - (i + (1 : Int))) < Int.toNat ((60 :
 SV.den (SV.slot (7 : Nat) (SV.v Go.P3.I))) - i) ∧ LC2.spec Go.P3.lc7 (wt, l, (w1, d1, seg (0 : Nat) (List.length ts1) ts1, seg (0 : Nat) (List.length es1) es1, Bool.true, ()), i + (1 : Int), ()) Q)))))))) (fork
 (!(Prod.fst (List.getD l (Int.toNat i) ((0 : Int), (0 : Int), [], [], [], [], [])) == (4 : Int)) == (Prod.fst (Prod.snd (Prod.snd (List.getD l_1 (Int.toNat (r - (1 : Int))) ((0 : Int), [], (0 : Int), [], (0 : Int), (0 :
 Int))))) == (2 : Int))) (Q AX.ret (stS (0 : Nat) (Go.P3.S [((4 : Nat), SV.v Ty.b)]) (Bool.false, ()))) (fork (decide ((3 : Int) ≤ Prod.fst (Prod.snd (Prod.snd (List.getD l_1 (Int.toNat (r - (1 : Int))) ((0 : Int), [], (0
 : Int), [], (0 : Int), (0 : Int))))) ∧ Prod.fst (Prod.snd (Prod.snd (List.getD l_1 (Int.toNat (r - (1 : Int))) ((0 : Int), [], (0 : Int), [], (0 : Int), (0 : Int))))) ≤ (5 : Int))) (Q AX.ret (stS (0 : Nat) (Go.P3.S [((4
 : Nat), SV.v Ty.b)]) (Bool.false, ()))) (fork (Prod.fst (List.getD l (Int.toNat i) ((0 : Int), (0 : Int), [], [], [], [], [])) == (4 : Int)) (req (inR Go.IntKind.i64 (Prod.fst (Prod.snd (List.getD l (Int.toNat i) ((0 :
 Int), (0 : Int), [], [], [], [], []))) - Prod.fst (Prod.snd (Prod.snd (Prod.snd (Prod.snd (List.getD l_1 (Int.toNat (r - (1 : Int))) ((0 : Int), [], (0 : Int), [], (0 : Int), (0 : Int))))))))) (fork (decide (Prod.fst
 (Prod.snd (List.getD l (Int.toNat i) ((0 : Int), (0 : Int), [], [], [], [], []))) - Prod.fst (Prod.snd (Prod.snd (Prod.snd (Prod.snd (List.getD l_1 (Int.toNat (r - (1 : Int))) ((0 : Int), [], (0 : Int), [], (0 : Int), (0
 : Int))))))) < wt)) (Q AX.ret (stS (0 : Nat) (Go.P3.S [((4 : Nat), SV.v Ty.b)]) (Bool.false, ()))) (req (inR Go.IntKind.i64 (i + (1 : Int))) (req (decide ((0 : Nat) + List.length ts1 ≤ List.length ts1)) (req (decide ((0
 : Nat) + List.length es1 ≤ List.length es1)) (Int.toNat ((60 : SV.den (SV.slot (7 : Nat) (SV.v Go.P3.I))) - (i + (1 : Int))) < Int.toNat ((60 : SV.den (SV.slot (7 : Nat) (SV.v Go.P3.I))) - i) ∧ LC2.spec Go.P3.lc7 (wt, l,
 (w1, d1, seg (0 : Nat) (List.length ts1) ts1, seg (0 : Nat) (List.length es1) es1, Bool.true, ()), i + (1 : Int), ()) Q)))))) (req (inR Go.IntKind.i64 (i + (1 : Int))) (req (decide ((0 : Nat) + List.length ts1 ≤
 List.length ts1)) (req (decide ((0 : Nat) + List.length es1 ≤ List.length es1)) (Int.toNat ((60 : SV.den (SV.slot (7 : Nat) (SV.v Go.P3.I))) - (i + (1 : Int))) < Int.toNat ((60 : SV.den (SV.slot (7 : Nat) (SV.v
 Go.P3.I))) - i) ∧ LC2.spec Go.P3.lc7 (wt, l, (w1, d1, seg (0 : Nat) (List.length ts1) ts1, seg (0 : Nat) (List.length es1) es1, Bool.true, ()), i + (1 : Int), ()) Q))))))))))))))))))))))) (Q (AX.exit (0 : Nat)) (stS (0 :
 Nat) SV.nil ()))) (Q (AX.exit (0 : Nat)) (stS (0 : Nat) SV.nil ()))) := by kernel_rfl
abbrev fcLawC : FC := ⟨[.v I, .v LC'], [.b], fun x K => okLs x.2.1 ∧ K (true, ())⟩
theorem v7F (wt : Int) (l : List Cl) (K : dens [.b] → Prop) : (xfn1 Tryd.prog { l2 := [(7, 0, lc7)], f := [(49, fcWith), (21, fcWorks)] } 5 7 fcLawC (wt, l, ()) K) =
(fork (!decide ((0 : Int) ≤ wt ∧ wt ≤ (1000 : Int))) (K (Bool.true, ())) ((Go.P3.okR (wt, (0 : Int), [], []) ∧ Bool.true = Bool.true ∧ wt = wt ∧ Go.P3.okLs l ∧ (0 : SV.den (SV.slot (7 : Nat) (SV.v Go.P3.I))) ≤ (0 : Int)
 ∧ (0 : Int) ≤ (60 : SV.den (SV.slot (7 : Nat) (SV.v Go.P3.I))) ∧ (0 : Int) ≤ (0 : Int)) ∧ K (Bool.true, ()))) := by kernel_rfl
end Go.P3
