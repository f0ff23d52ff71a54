/- Rolls: comparisons, a roll after calls, TicketRefuses: states and what is to be shown, reduced. No conditions. -/
import Derived.Test.YtcpdcpfbgmiaoaaDoorRollJ
set_option linter.unusedSimpArgs false
set_option linter.unusedVariables false
set_option linter.constructorNameAsVariable false
set_option maxRecDepth 100000
set_option maxHeartbeats 2000000
namespace Go.P3
open Go.Lom Go.Proofs Go

abbrev LE : Ty := .sl E5
abbrev LK : Ty := .sl T6
abbrev sh37 : SV := S [(0, .v LE), (1, .v LE), (5, .v I)]
abbrev lc37 : LC2 := ⟨0, sh37, 0, fun (a, b, i, _) Q => (a = b ∧ a.length ≤ 1000 ∧ 0 ≤ i ∧ i ≤ a.length) ∧ Q (.exit 0) (stS 0 .nil ())⟩
theorem v37L (a : List Ev) (i : Int) (Q : AX → St → Prop) : (xloop2 Tryd.prog {} 5 37 0 lc37 exB4 (fun (a, _, i, _) => mL a i) (a, a, i, ()) Q) =
(fork (decide (i < (↑(List.length a) : Int))) (req (decide ((0 : Int) ≤ i ∧ i < (↑(List.length a) : Int))) (req (decide ((0 : Int) ≤ i ∧ i < (↑(List.length a) : Int))) (fork (!(Prod.fst (List.getD a (Int.toNat i) ((0 :
 Int), (0 : Int), (0 : Int), (0 : Int), (0 : Int))) == Prod.fst (List.getD a (Int.toNat i) ((0 : Int), (0 : Int), (0 : Int), (0 : Int), (0 : Int))) && (Prod.fst (Prod.snd (List.getD a (Int.toNat i) ((0 : Int), (0 : Int),
 (0 : Int), (0 : Int), (0 : Int)))) == Prod.fst (Prod.snd (List.getD a (Int.toNat i) ((0 : Int), (0 : Int), (0 : Int), (0 : Int), (0 : Int)))) && (Prod.fst (Prod.snd (Prod.snd (List.getD a (Int.toNat i) ((0 : Int), (0 :
 Int), (0 : Int), (0 : Int), (0 : Int))))) == Prod.fst (Prod.snd (Prod.snd (List.getD a (Int.toNat i) ((0 : Int), (0 : Int), (0 : Int), (0 : Int), (0 : Int))))) && (Prod.fst (Prod.snd (Prod.snd (Prod.snd (List.getD a
 (Int.toNat i) ((0 : Int), (0 : Int), (0 : Int), (0 : Int), (0 : Int)))))) == Prod.fst (Prod.snd (Prod.snd (Prod.snd (List.getD a (Int.toNat i) ((0 : Int), (0 : Int), (0 : Int), (0 : Int), (0 : Int)))))) && (Prod.snd
 (Prod.snd (Prod.snd (Prod.snd (List.getD a (Int.toNat i) ((0 : Int), (0 : Int), (0 : Int), (0 : Int), (0 : Int)))))) == Prod.snd (Prod.snd (Prod.snd (Prod.snd (List.getD a (Int.toNat i) ((0 : Int), (0 : Int), (0 : Int),
 (0 : Int), (0 : Int)))))) && Bool.true)))))) (Q AX.ret (stS (0 : Nat) Go.P3.shB4 (Bool.false, ()))) (req (inR Go.IntKind.i64 (i + (1 : Int))) (Go.P3.mL a (i + (1 : Int)) < Go.P3.mL a i ∧ LC2.spec Go.P3.lc37 (a, a, i + (1
 : Int), ()) Q))))) (Q (AX.exit (0 : Nat)) (stS (0 : Nat) SV.nil ()))) := by kernel_rfl
abbrev fcSameE : FC := ⟨[.v LE, .v LE], [.b], fun x K => (x.1 = x.2.1 ∧ x.1.length ≤ 1000) ∧ K (true, ())⟩
theorem v37F (a : List Ev) (K : dens [.b] → Prop) : (xfn1 Tryd.prog { l2 := [(37, 0, lc37)] } 5 37 fcSameE (a, a, ()) K) =
(fork ((↑(List.length a) : Int) != (↑(List.length a) : Int)) (K (Bool.false, ())) ((a = a ∧ List.length a ≤ (1000 : Nat) ∧ (0 : SV.den (SV.slot (5 : Nat) (SV.v Go.P3.I))) ≤ (0 : Int) ∧ (0 : Int) ≤ (↑(List.length a) :
 SV.den (SV.slot (5 : Nat) (SV.v Go.P3.I)))) ∧ K (Bool.true, ()))) := by kernel_rfl
abbrev sh36 : SV := S [(0, .v LK), (1, .v LK), (5, .v I)]
abbrev lc36 : LC2 := ⟨0, sh36, 0, fun (a, b, i, _) Q => (a = b ∧ a.length ≤ 1000 ∧ 0 ≤ i ∧ i ≤ a.length ∧ ∀ t ∈ a, t.2.2.2.1.length ≤ 100) ∧ Q (.exit 0) (stS 0 .nil ())⟩
theorem v36L (a : List Tk) (i : Int) (Q : AX → St → Prop) : (xloop2 Tryd.prog { f := [(20, fcSame)] } 5 36 0 lc36 exB4 (fun (a, _, i, _) => mL a i) (a, a, i, ()) Q) =
(fork (decide (i < (↑(List.length a) : Int))) (req (decide ((0 : Int) ≤ i ∧ i < (↑(List.length a) : Int))) (req (decide ((0 : Int) ≤ i ∧ i < (↑(List.length a) : Int))) (AV.agg [AV.int Go.IntKind.i64 (Prod.fst (List.getD
 a (Int.toNat i) ((0 : Int), [], (0 : Int), [], (0 : Int), (0 : Int)))), AV.str (Prod.fst (Prod.snd (List.getD a (Int.toNat i) ((0 : Int), [], (0 : Int), [], (0 : Int), (0 : Int))))), AV.int Go.IntKind.i64 (Prod.fst
 (Prod.snd (Prod.snd (List.getD a (Int.toNat i) ((0 : Int), [], (0 : Int), [], (0 : Int), (0 : Int)))))), AV.rl Go.P3.I (Prod.fst (Prod.snd (Prod.snd (Prod.snd (List.getD a (Int.toNat i) ((0 : Int), [], (0 : Int), [], (0
 : Int), (0 : Int))))))), AV.int Go.IntKind.i64 (Prod.fst (Prod.snd (Prod.snd (Prod.snd (Prod.snd (List.getD a (Int.toNat i) ((0 : Int), [], (0 : Int), [], (0 : Int), (0 : Int)))))))), AV.int Go.IntKind.i64 (Prod.snd
 (Prod.snd (Prod.snd (Prod.snd (Prod.snd (List.getD a (Int.toNat i) ((0 : Int), [], (0 : Int), [], (0 : Int), (0 : Int))))))))] = AV.agg [AV.int Go.IntKind.i64 (Prod.fst (List.getD a (Int.toNat i) ((0 : Int), [], (0 :
 Int), [], (0 : Int), (0 : Int)))), AV.str (Prod.fst (Prod.snd (List.getD a (Int.toNat i) ((0 : Int), [], (0 : Int), [], (0 : Int), (0 : Int))))), AV.int Go.IntKind.i64 (Prod.fst (Prod.snd (Prod.snd (List.getD a
 (Int.toNat i) ((0 : Int), [], (0 : Int), [], (0 : Int), (0 : Int)))))), AV.rl Go.P3.I (Prod.fst (Prod.snd (Prod.snd (Prod.snd (List.getD a (Int.toNat i) ((0 : Int), [], (0 : Int), [], (0 : Int), (0 : Int))))))), AV.int
 Go.IntKind.i64 (Prod.fst (Prod.snd (Prod.snd (Prod.snd (Prod.snd (List.getD a (Int.toNat i) ((0 : Int), [], (0 : Int), [], (0 : Int), (0 : Int)))))))), AV.int Go.IntKind.i64 (Prod.snd (Prod.snd (Prod.snd (Prod.snd
 (Prod.snd (List.getD a (Int.toNat i) ((0 : Int), [], (0 : Int), [], (0 : Int), (0 : Int))))))))] ∧ AV.agg [AV.int Go.IntKind.i64 (Prod.fst (List.getD a (Int.toNat i) ((0 : Int), [], (0 : Int), [], (0 : Int), (0 :
 Int)))), AV.str (Prod.fst (Prod.snd (List.getD a (Int.toNat i) ((0 : Int), [], (0 : Int), [], (0 : Int), (0 : Int))))), AV.int Go.IntKind.i64 (Prod.fst (Prod.snd (Prod.snd (List.getD a (Int.toNat i) ((0 : Int), [], (0 :
 Int), [], (0 : Int), (0 : Int)))))), AV.rl Go.P3.I (Prod.fst (Prod.snd (Prod.snd (Prod.snd (List.getD a (Int.toNat i) ((0 : Int), [], (0 : Int), [], (0 : Int), (0 : Int))))))), AV.int Go.IntKind.i64 (Prod.fst (Prod.snd
 (Prod.snd (Prod.snd (Prod.snd (List.getD a (Int.toNat i) ((0 : Int), [], (0 : Int), [], (0 : Int), (0 : Int)))))))), AV.int Go.IntKind.i64 (Prod.snd (Prod.snd (Prod.snd (Prod.snd (Prod.snd (List.getD a (Int.toNat i) ((0
 : Int), [], (0 : Int), [], (0 : Int), (0 : Int))))))))] = AV.agg [AV.int Go.IntKind.i64 (Prod.fst (List.getD a (Int.toNat i) ((0 : Int), [], (0 : Int), [], (0 : Int), (0 : Int)))), AV.str (Prod.fst (Prod.snd (List.getD a
 (Int.toNat i) ((0 : Int), [], (0 : Int), [], (0 : Int), (0 : Int))))), AV.int Go.IntKind.i64 (Prod.fst (Prod.snd (Prod.snd (List.getD a (Int.toNat i) ((0 : Int), [], (0 : Int), [], (0 : Int), (0 : Int)))))), AV.rl
 Go.P3.I (Prod.fst (Prod.snd (Prod.snd (Prod.snd (List.getD a (Int.toNat i) ((0 : Int), [], (0 : Int), [], (0 : Int), (0 : Int))))))), AV.int Go.IntKind.i64 (Prod.fst (Prod.snd (Prod.snd (Prod.snd (Prod.snd (List.getD a
 (Int.toNat i) ((0 : Int), [], (0 : Int), [], (0 : Int), (0 : Int)))))))), AV.int Go.IntKind.i64 (Prod.snd (Prod.snd (Prod.snd (Prod.snd (Prod.snd (List.getD a (Int.toNat i) ((0 : Int), [], (0 : Int), [], (0 : Int), (0 :
 Int))))))))] ∧ AV.agg [AV.int Go.IntKind.i64 (Prod.fst (List.getD a (Int.toNat i) ((0 : Int), [], (0 : Int), [], (0 : Int), (0 : Int)))), AV.str (Prod.fst (Prod.snd (List.getD a (Int.toNat i) ((0 : Int), [], (0 : Int),
 [], (0 : Int), (0 : Int))))), AV.int Go.IntKind.i64 (Prod.fst (Prod.snd (Prod.snd (List.getD a (Int.toNat i) ((0 : Int), [], (0 : Int), [], (0 : Int), (0 : Int)))))), AV.rl Go.P3.I (Prod.fst (Prod.snd (Prod.snd (Prod.snd
 (List.getD a (Int.toNat i) ((0 : Int), [], (0 : Int), [], (0 : Int), (0 : Int))))))), AV.int Go.IntKind.i64 (Prod.fst (Prod.snd (Prod.snd (Prod.snd (Prod.snd (List.getD a (Int.toNat i) ((0 : Int), [], (0 : Int), [], (0 :
 Int), (0 : Int)))))))), AV.int Go.IntKind.i64 (Prod.snd (Prod.snd (Prod.snd (Prod.snd (Prod.snd (List.getD a (Int.toNat i) ((0 : Int), [], (0 : Int), [], (0 : Int), (0 : Int))))))))] = AV.agg [AV.int Go.IntKind.i64
 (Prod.fst (List.getD a (Int.toNat i) ((0 : Int), [], (0 : Int), [], (0 : Int), (0 : Int)))), AV.str (Prod.fst (Prod.snd (List.getD a (Int.toNat i) ((0 : Int), [], (0 : Int), [], (0 : Int), (0 : Int))))), AV.int
 Go.IntKind.i64 (Prod.fst (Prod.snd (Prod.snd (List.getD a (Int.toNat i) ((0 : Int), [], (0 : Int), [], (0 : Int), (0 : Int)))))), AV.rl Go.P3.I (Prod.fst (Prod.snd (Prod.snd (Prod.snd (List.getD a (Int.toNat i) ((0 :
 Int), [], (0 : Int), [], (0 : Int), (0 : Int))))))), AV.int Go.IntKind.i64 (Prod.fst (Prod.snd (Prod.snd (Prod.snd (Prod.snd (List.getD a (Int.toNat i) ((0 : Int), [], (0 : Int), [], (0 : Int), (0 : Int)))))))), AV.int
 Go.IntKind.i64 (Prod.snd (Prod.snd (Prod.snd (Prod.snd (Prod.snd (List.getD a (Int.toNat i) ((0 : Int), [], (0 : Int), [], (0 : Int), (0 : Int))))))))] ∧ AV.agg [AV.int Go.IntKind.i64 (Prod.fst (List.getD a (Int.toNat i)
 ((0 : Int), [], (0 : Int), [], (0 : Int), (0 : Int)))), AV.str (Prod.fst (Prod.snd (List.getD a (Int.toNat i) ((0 : Int), [], (0 : Int), [], (0 : Int), (0 : Int))))), AV.int Go.IntKind.i64 (Prod.fst (Prod.snd (Prod.snd
 (List.getD a (Int.toNat i) ((0 : Int), [], (0 : Int), [], (0 : Int), (0 : Int)))))), AV.rl Go.P3.I (Prod.fst (Prod.snd (Prod.snd (Prod.snd (List.getD a (Int.toNat i) ((0 : Int), [], (0 : Int), [], (0 : Int), (0 :
 Int))))))), AV.int Go.IntKind.i64 (Prod.fst (Prod.snd (Prod.snd (Prod.snd (Prod.snd (List.getD a (Int.toNat i) ((0 : Int), [], (0 : Int), [], (0 : Int), (0 : Int)))))))), AV.int Go.IntKind.i64 (Prod.snd (Prod.snd
 (Prod.snd (Prod.snd (Prod.snd (List.getD a (Int.toNat i) ((0 : Int), [], (0 : Int), [], (0 : Int), (0 : Int))))))))] = AV.agg [AV.int Go.IntKind.i64 (Prod.fst (List.getD a (Int.toNat i) ((0 : Int), [], (0 : Int), [], (0
 : Int), (0 : Int)))), AV.str (Prod.fst (Prod.snd (List.getD a (Int.toNat i) ((0 : Int), [], (0 : Int), [], (0 : Int), (0 : Int))))), AV.int Go.IntKind.i64 (Prod.fst (Prod.snd (Prod.snd (List.getD a (Int.toNat i) ((0 :
 Int), [], (0 : Int), [], (0 : Int), (0 : Int)))))), AV.rl Go.P3.I (Prod.fst (Prod.snd (Prod.snd (Prod.snd (List.getD a (Int.toNat i) ((0 : Int), [], (0 : Int), [], (0 : Int), (0 : Int))))))), AV.int Go.IntKind.i64
 (Prod.fst (Prod.snd (Prod.snd (Prod.snd (Prod.snd (List.getD a (Int.toNat i) ((0 : Int), [], (0 : Int), [], (0 : Int), (0 : Int)))))))), AV.int Go.IntKind.i64 (Prod.snd (Prod.snd (Prod.snd (Prod.snd (Prod.snd (List.getD
 a (Int.toNat i) ((0 : Int), [], (0 : Int), [], (0 : Int), (0 : Int))))))))] ∧ AV.agg [AV.int Go.IntKind.i64 (Prod.fst (List.getD a (Int.toNat i) ((0 : Int), [], (0 : Int), [], (0 : Int), (0 : Int)))), AV.str (Prod.fst
 (Prod.snd (List.getD a (Int.toNat i) ((0 : Int), [], (0 : Int), [], (0 : Int), (0 : Int))))), AV.int Go.IntKind.i64 (Prod.fst (Prod.snd (Prod.snd (List.getD a (Int.toNat i) ((0 : Int), [], (0 : Int), [], (0 : Int), (0 :
 Int)))))), AV.rl Go.P3.I (Prod.fst (Prod.snd (Prod.snd (Prod.snd (List.getD a (Int.toNat i) ((0 : Int), [], (0 : Int), [], (0 : Int), (0 : Int))))))), AV.int Go.IntKind.i64 (Prod.fst (Prod.snd (Prod.snd (Prod.snd
 (Prod.snd (List.getD a (Int.toNat i) ((0 : Int), [], (0 : Int), [], (0 : Int), (0 : Int)))))))), AV.int Go.IntKind.i64 (Prod.snd (Prod.snd (Prod.snd (Prod.snd (Prod.snd (List.getD a (Int.toNat i) ((0 : Int), [], (0 :
 Int), [], (0 : Int), (0 : Int))))))))] = AV.agg [AV.int Go.IntKind.i64 (Prod.fst (List.getD a (Int.toNat i) ((0 : Int), [], (0 : Int), [], (0 : Int), (0 : Int)))), AV.str (Prod.fst (Prod.snd (List.getD a (Int.toNat i)
 ((0 : Int), [], (0 : Int), [], (0 : Int), (0 : Int))))), AV.int Go.IntKind.i64 (Prod.fst (Prod.snd (Prod.snd (List.getD a (Int.toNat i) ((0 : Int), [], (0 : Int), [], (0 : Int), (0 : Int)))))), AV.rl Go.P3.I (Prod.fst
 (Prod.snd (Prod.snd (Prod.snd (List.getD a (Int.toNat i) ((0 : Int), [], (0 : Int), [], (0 : Int), (0 : Int))))))), AV.int Go.IntKind.i64 (Prod.fst (Prod.snd (Prod.snd (Prod.snd (Prod.snd (List.getD a (Int.toNat i) ((0 :
 Int), [], (0 : Int), [], (0 : Int), (0 : Int)))))))), AV.int Go.IntKind.i64 (Prod.snd (Prod.snd (Prod.snd (Prod.snd (Prod.snd (List.getD a (Int.toNat i) ((0 : Int), [], (0 : Int), [], (0 : Int), (0 : Int))))))))] ∧ fork
 (Prod.fst (List.getD a (Int.toNat i) ((0 : Int), [], (0 : Int), [], (0 : Int), (0 : Int))) != Prod.fst (List.getD a (Int.toNat i) ((0 : Int), [], (0 : Int), [], (0 : Int), (0 : Int)))) (Q AX.ret (stS (0 : Nat) Go.P3.shB4
 (Bool.false, ()))) (fork (!Prod.fst (Prod.snd (List.getD a (Int.toNat i) ((0 : Int), [], (0 : Int), [], (0 : Int), (0 : Int)))) == Prod.fst (Prod.snd (List.getD a (Int.toNat i) ((0 : Int), [], (0 : Int), [], (0 : Int),
 (0 : Int))))) (Q AX.ret (stS (0 : Nat) Go.P3.shB4 (Bool.false, ()))) (fork (Prod.fst (Prod.snd (Prod.snd (List.getD a (Int.toNat i) ((0 : Int), [], (0 : Int), [], (0 : Int), (0 : Int))))) != Prod.fst (Prod.snd (Prod.snd
 (List.getD a (Int.toNat i) ((0 : Int), [], (0 : Int), [], (0 : Int), (0 : Int)))))) (Q AX.ret (stS (0 : Nat) Go.P3.shB4 (Bool.false, ()))) (fork (Prod.fst (Prod.snd (Prod.snd (Prod.snd (Prod.snd (List.getD a (Int.toNat
 i) ((0 : Int), [], (0 : Int), [], (0 : Int), (0 : Int))))))) != Prod.fst (Prod.snd (Prod.snd (Prod.snd (Prod.snd (List.getD a (Int.toNat i) ((0 : Int), [], (0 : Int), [], (0 : Int), (0 : Int)))))))) (Q AX.ret (stS (0 :
 Nat) Go.P3.shB4 (Bool.false, ()))) (fork (Prod.snd (Prod.snd (Prod.snd (Prod.snd (Prod.snd (List.getD a (Int.toNat i) ((0 : Int), [], (0 : Int), [], (0 : Int), (0 : Int))))))) != Prod.snd (Prod.snd (Prod.snd (Prod.snd
 (Prod.snd (List.getD a (Int.toNat i) ((0 : Int), [], (0 : Int), [], (0 : Int), (0 : Int)))))))) (Q AX.ret (stS (0 : Nat) Go.P3.shB4 (Bool.false, ()))) ((Prod.fst (Prod.snd (Prod.snd (Prod.snd (List.getD a (Int.toNat i)
 ((0 : Int), [], (0 : Int), [], (0 : Int), (0 : Int)))))) = Prod.fst (Prod.snd (Prod.snd (Prod.snd (List.getD a (Int.toNat i) ((0 : Int), [], (0 : Int), [], (0 : Int), (0 : Int)))))) ∧ List.length (Prod.fst (Prod.snd
 (Prod.snd (Prod.snd (List.getD a (Int.toNat i) ((0 : Int), [], (0 : Int), [], (0 : Int), (0 : Int))))))) ≤ (100000 : Nat)) ∧ req (inR Go.IntKind.i64 (i + (1 : Int))) (Go.P3.mL a (i + (1 : Int)) < Go.P3.mL a i ∧ LC2.spec
 Go.P3.lc36 (a, a, i + (1 : Int), ()) Q))))))))) (Q (AX.exit (0 : Nat)) (stS (0 : Nat) SV.nil ()))) := by kernel_rfl
abbrev fcSameT : FC := ⟨[.v LK, .v LK], [.b], fun x K => (x.1 = x.2.1 ∧ x.1.length ≤ 1000 ∧ ∀ t ∈ x.1, t.2.2.2.1.length ≤ 100) ∧ K (true, ())⟩
theorem v36F (a : List Tk) (K : dens [.b] → Prop) : (xfn1 Tryd.prog { l2 := [(36, 0, lc36)] } 5 36 fcSameT (a, a, ()) K) =
(fork ((↑(List.length a) : Int) != (↑(List.length a) : Int)) (K (Bool.false, ())) ((a = a ∧ List.length a ≤ (1000 : Nat) ∧ (0 : SV.den (SV.slot (5 : Nat) (SV.v Go.P3.I))) ≤ (0 : Int) ∧ (0 : Int) ≤ (↑(List.length a) :
 SV.den (SV.slot (5 : Nat) (SV.v Go.P3.I))) ∧ ∀ (t : Ty.den Go.P3.T6), t ∈ a → List.length (Prod.fst (Prod.snd (Prod.snd (Prod.snd t)))) ≤ (100 : Nat)) ∧ K (Bool.true, ()))) := by kernel_rfl
/-! a roll after calls -/
def stepI (s : RS) (c : Cl) : RS := (callI s c).1
abbrev sh41 : SV := S [(1, .v LC'), (5, .box 0 (rollC 1 2)), (7, .v I)]
abbrev sh41e : SV := S [(5, .box 0 (rollC 1 2))]
abbrev lc41 : LC2 := ⟨0, sh41, 3, fun (l, r, i, _) Q => (okR (r.1, r.2.1, r.2.2.1, r.2.2.2.1) ∧ r.2.2.2.2.1 = true ∧ okLs l ∧ 0 ≤ i ∧ i ≤ 60 ∧ (r.2.2.2.1.length : Int) ≤ i) ∧
  ∀ (w1 d1 : Int) (ts1 : List Tk) (es1 : List Ev), (w1, d1, ts1, es1) = ((l.take 60).drop i.toNat).foldl stepI (r.1, r.2.1, r.2.2.1, r.2.2.2.1) → Q (.exit 0) (stS 3 sh41e ((w1, d1, ts1, es1, true, ()), ()))⟩
theorem v41L (w d0 : Int) (ts : List Tk) (es : List Ev) (l : List Cl) (i : Int) (Q : AX → St → Prop) : (xloop2 Tryd.prog { f2 := [(31, fcCall)] } 5 41 0 lc41 (fun _ => some (sh41e, 3)) (fun (_, _, i, _) => (60 - i).toNat) (l, (w, d0, ts, es, true, ()), i, ()) Q) =
(fork (decide (i < (↑(List.length l) : Int))) (fork (decide (i < (60 : Int))) (req (decide ((0 : Int) ≤ i ∧ i < (↑(List.length l) : Int))) (req (decide ((0 : Nat) + List.length ts ≤ List.length ts)) (req (decide ((0 :
 Nat) + List.length es ≤ List.length es)) ((Go.P3.okR (w, d0, seg (0 : Nat) (List.length ts) ts, seg (0 : Nat) (List.length es) es) ∧ Bool.true = Bool.true ∧ fitsN (List.length (seg (0 : Nat) (List.length es) es) + (1 :
 Nat)) (40 : Nat) = Bool.true ∧ Go.P3.okCl (List.getD l (Int.toNat i) ((0 : Int), (0 : Int), [], [], [], [], []))) ∧ ∀ (w1 d1 : Int) (ts1 : List Go.P3.Tk) (es1 : List Go.P3.Ev) (tx : List Go.P3.Tx) (l_1 : List Int) (e :
 Int), ((w1, d1, ts1, es1), tx, l_1, e) = Go.P3.callI (w, d0, seg (0 : Nat) (List.length ts) ts, seg (0 : Nat) (List.length es) es) (List.getD l (Int.toNat i) ((0 : Int), (0 : Int), [], [], [], [], [])) → req (inR
 Go.IntKind.i64 (i + (1 : Int))) (req (decide ((0 : Nat) + List.length ts1 ≤ List.length ts1)) (req (decide ((0 : Nat) + List.length es1 ≤ List.length es1)) (Int.toNat ((60 : SV.den (SV.slot (7 : Nat) (SV.v Go.P3.I))) -
 (i + (1 : Int))) < Int.toNat ((60 : SV.den (SV.slot (7 : Nat) (SV.v Go.P3.I))) - i) ∧ LC2.spec Go.P3.lc41 (l, (w1, d1, seg (0 : Nat) (List.length ts1) ts1, seg (0 : Nat) (List.length es1) es1, Bool.true, ()), i + (1 :
 Int), ()) Q))))))) (req (decide ((0 : Nat) + List.length ts ≤ List.length ts)) (req (decide ((0 : Nat) + List.length es ≤ List.length es)) (Q (AX.exit (0 : Nat)) (stS (3 : Nat) Go.P3.sh41e ((w, d0, seg (0 : Nat)
 (List.length ts) ts, seg (0 : Nat) (List.length es) es, Bool.true, ()), ())))))) (req (decide ((0 : Nat) + List.length ts ≤ List.length ts)) (req (decide ((0 : Nat) + List.length es ≤ List.length es)) (Q (AX.exit (0 :
 Nat)) (stS (3 : Nat) Go.P3.sh41e ((w, d0, seg (0 : Nat) (List.length ts) ts, seg (0 : Nat) (List.length es) es, Bool.true, ()), ())))))) := by kernel_rfl
abbrev fcAfter : FC2 := ⟨A [.v I, .v LC'], 0, A [.any, .any, .box 0 (rollC 1 2)], 3, fun (wt, l, _) K => (0 ≤ wt ∧ wt ≤ 1000 ∧ okLs l) ∧
  ∀ (w1 d1 : Int) (ts1 : List Tk) (es1 : List Ev), (w1, d1, ts1, es1) = (l.take 60).foldl stepI (wt, 0, [], []) → K ((), (), (w1, d1, ts1, es1, true, ()), ())⟩
theorem v41F (wt : Int) (l : List Cl) (K : fcAfter.post.den → Prop) : (xfn2 Tryd.prog { f := [(49, fcWith)], l2 := [(41, 0, lc41)] } 5 41 fcAfter (wt, l, ()) K) =
(fork (!decide ((0 : Int) ≤ wt ∧ wt ≤ (1000 : Int))) False ((Go.P3.okR (wt, (0 : Int), [], []) ∧ Bool.true = Bool.true ∧ Go.P3.okLs l ∧ (0 : SV.den (SV.slot (7 : Nat) (SV.v Go.P3.I))) ≤ (0 : Int) ∧ (0 : Int) ≤ (60 :
 SV.den (SV.slot (7 : Nat) (SV.v Go.P3.I))) ∧ (0 : Int) ≤ (0 : Int)) ∧ ∀ (w1 d1 : Int) (ts1 : List Go.P3.Tk) (es1 : List Go.P3.Ev), (w1, d1, ts1, es1) = List.foldl Go.P3.stepI (wt, (0 : Int), [], []) (List.drop (0 : Nat)
 (List.take (60 : Nat) l)) → req (decide ((0 : Nat) + List.length ts1 ≤ List.length ts1)) (req (decide ((0 : Nat) + List.length es1 ≤ List.length es1)) (K ((), (), (w1, d1, seg (0 : Nat) (List.length ts1) ts1, seg (0 :
 Nat) (List.length es1) es1, Bool.true, ()), ()))))) := by kernel_rfl
/-! TicketRefuses -/
abbrev fcRef : FC := ⟨[.v I, .v LC', .v CT], [.b], fun x K => (okLs x.2.1 ∧ okCl x.2.2.1) ∧ K (true, ())⟩
theorem v10F (wt : Int) (l : List Cl) (c : Cl) (K : dens [.b] → Prop) : (xfn1 Tryd.prog { f := [(37, fcSameE), (36, fcSameT), (28, fcFrom), (21, fcWorks)], f2 := [(41, fcAfter), (31, fcCall), (30, fcTix), (38, fcEvs)] } 5 10 fcRef (wt, l, c, ()) K) =
(((0 : SV.den (SV.v Go.P3.I)) ≤ wt ∧ wt ≤ (1000 : SV.den (SV.v Go.P3.I)) ∧ Go.P3.okLs l) ∧ ∀ (w1 d1 : Int) (ts1 : List Go.P3.Tk) (es1 : List Go.P3.Ev), (w1, d1, ts1, es1) = List.foldl Go.P3.stepI (wt, (0 : Int), [], [])
 (List.take (60 : Nat) l) → ((0 : SV.den (SV.v Go.P3.I)) ≤ wt ∧ wt ≤ (1000 : SV.den (SV.v Go.P3.I)) ∧ Go.P3.okLs l) ∧ ∀ (w1_1 d1_1 : Int) (ts1_1 : List Go.P3.Tk) (es1_1 : List Go.P3.Ev), (w1_1, d1_1, ts1_1, es1_1) =
 List.foldl Go.P3.stepI (wt, (0 : Int), [], []) (List.take (60 : Nat) l) → req (decide ((0 : Nat) + List.length ts1 ≤ List.length ts1)) (req (decide ((0 : Nat) + List.length es1 ≤ List.length es1)) ((Go.P3.okR (w1, d1,
 seg (0 : Nat) (List.length ts1) ts1, seg (0 : Nat) (List.length es1) es1) ∧ Bool.true = Bool.true ∧ fitsN (List.length (seg (0 : Nat) (List.length es1) es1) + (1 : Nat)) (40 : Nat) = Bool.true ∧ Go.P3.okCl c) ∧ ∀ (w1_2
 d1_2 : Int) (ts1_2 : List Go.P3.Tk) (es1_2 : List Go.P3.Ev) (tx : List Go.P3.Tx) (l : List Int) (e : Int), ((w1_2, d1_2, ts1_2, es1_2), tx, l, e) = Go.P3.callI (w1, d1, seg (0 : Nat) (List.length ts1) ts1, seg (0 : Nat)
 (List.length es1) es1) c → fork (decide ((1 : Int) ≤ Prod.fst c ∧ Prod.fst c ≤ (7 : Int))) (req (decide ((0 : Nat) + List.length ts1_2 ≤ List.length ts1_2)) (req (decide ((0 : Nat) + List.length es1_2 ≤ List.length
 es1_2)) (List.length (seg (0 : Nat) (List.length es1_2) es1_2) ≤ (1000 : Nat) ∧ ∀ (l : List Go.P3.Ev), l = seg (0 : Nat) (List.length es1_2) es1_2 → req (decide ((0 : Nat) + List.length ts1_1 ≤ List.length ts1_1)) (req
 (decide ((0 : Nat) + List.length es1_1 ≤ List.length es1_1)) (List.length (seg (0 : Nat) (List.length es1_1) es1_1) ≤ (1000 : Nat) ∧ ∀ (l_1 : List Go.P3.Ev), l_1 = seg (0 : Nat) (List.length es1_1) es1_1 → fork (e == (0
 : Int)) (req (inR Go.IntKind.i64 ((↑(List.length l_1) : Int) + (1 : Int))) (fork ((↑(List.length l) : Int) == (↑(List.length l_1) : Int) + (1 : Int)) (req (decide ((0 : Int) ≤ (0 : Int) ∧ (0 : Int) ≤ (↑(List.length l_1)
 : Int) ∧ (↑(List.length l_1) : Int) ≤ (↑(List.length l) : Int))) ((List.drop (0 : Nat) (List.take (List.length l_1) l) = l_1 ∧ List.length (List.drop (0 : Nat) (List.take (List.length l_1) l)) ≤ (1000 : Nat)) ∧ req
 (decide ((0 : Int) ≤ (↑(List.length l_1) : Int) ∧ (↑(List.length l_1) : Int) < (↑(List.length l) : Int))) (fork (Prod.fst (List.getD l (List.length l_1) ((0 : Int), (0 : Int), (0 : Int), (0 : Int), (0 : Int))) ==
 Prod.fst c) (req (decide ((0 : Int) ≤ (↑(List.length l_1) : Int) ∧ (↑(List.length l_1) : Int) < (↑(List.length l) : Int))) (fork (Prod.fst (Prod.snd (List.getD l (List.length l_1) ((0 : Int), (0 : Int), (0 : Int), (0 :
 Int), (0 : Int)))) == Prod.fst (Prod.snd c)) (K (Bool.true, ())) (K (Bool.false, ())))) (K (Bool.false, ()))))) (K (Bool.false, ())))) ((l = l_1 ∧ List.length l ≤ (1000 : Nat)) ∧ req (decide ((0 : Nat) + List.length (seg
 (0 : Nat) (List.length ts1_2) ts1_2) ≤ List.length (seg (0 : Nat) (List.length ts1_2) ts1_2))) (req (decide ((0 : Nat) + List.length (seg (0 : Nat) (List.length es1_2) es1_2) ≤ List.length (seg (0 : Nat) (List.length
 es1_2) es1_2))) ((List.length (seg (0 : Nat) (List.length (seg (0 : Nat) (List.length ts1_2) ts1_2)) (seg (0 : Nat) (List.length ts1_2) ts1_2)) ≤ (256 : Nat) ∧ ∀ (t : Ty.den Go.P3.T6), t ∈ seg (0 : Nat) (List.length (seg
 (0 : Nat) (List.length ts1_2) ts1_2)) (seg (0 : Nat) (List.length ts1_2) ts1_2) → List.length (Prod.fst (Prod.snd (Prod.snd (Prod.snd t)))) ≤ (100 : Nat)) ∧ ∀ (l : List Go.P3.Tk), l = seg (0 : Nat) (List.length (seg (0 :
 Nat) (List.length ts1_2) ts1_2)) (seg (0 : Nat) (List.length ts1_2) ts1_2) → req (decide ((0 : Nat) + List.length (seg (0 : Nat) (List.length ts1_1) ts1_1) ≤ List.length (seg (0 : Nat) (List.length ts1_1) ts1_1))) (req
 (decide ((0 : Nat) + List.length (seg (0 : Nat) (List.length es1_1) es1_1) ≤ List.length (seg (0 : Nat) (List.length es1_1) es1_1))) ((List.length (seg (0 : Nat) (List.length (seg (0 : Nat) (List.length ts1_1) ts1_1))
 (seg (0 : Nat) (List.length ts1_1) ts1_1)) ≤ (256 : Nat) ∧ ∀ (t : Ty.den Go.P3.T6), t ∈ seg (0 : Nat) (List.length (seg (0 : Nat) (List.length ts1_1) ts1_1)) (seg (0 : Nat) (List.length ts1_1) ts1_1) → List.length
 (Prod.fst (Prod.snd (Prod.snd (Prod.snd t)))) ≤ (100 : Nat)) ∧ ∀ (l_2 : List Go.P3.Tk), l_2 = seg (0 : Nat) (List.length (seg (0 : Nat) (List.length ts1_1) ts1_1)) (seg (0 : Nat) (List.length ts1_1) ts1_1) → (l = l_2 ∧
 List.length l ≤ (1000 : Nat) ∧ ∀ (t : Ty.den Go.P3.T6), t ∈ l → List.length (Prod.fst (Prod.snd (Prod.snd (Prod.snd t)))) ≤ (100 : Nat)) ∧ K (Bool.true, ()))))))))))) (req (decide ((0 : Nat) + List.length ts1_2 ≤
 List.length ts1_2)) (req (decide ((0 : Nat) + List.length es1_2 ≤ List.length es1_2)) (List.length (seg (0 : Nat) (List.length es1_2) es1_2) ≤ (1000 : Nat) ∧ ∀ (l : List Go.P3.Ev), l = seg (0 : Nat) (List.length es1_2)
 es1_2 → req (decide ((0 : Nat) + List.length ts1_1 ≤ List.length ts1_1)) (req (decide ((0 : Nat) + List.length es1_1 ≤ List.length es1_1)) (List.length (seg (0 : Nat) (List.length es1_1) es1_1) ≤ (1000 : Nat) ∧ ∀ (l_1 :
 List Go.P3.Ev), l_1 = seg (0 : Nat) (List.length es1_1) es1_1 → (l = l_1 ∧ List.length l ≤ (1000 : Nat)) ∧ req (decide ((0 : Nat) + List.length (seg (0 : Nat) (List.length ts1_2) ts1_2) ≤ List.length (seg (0 : Nat)
 (List.length ts1_2) ts1_2))) (req (decide ((0 : Nat) + List.length (seg (0 : Nat) (List.length es1_2) es1_2) ≤ List.length (seg (0 : Nat) (List.length es1_2) es1_2))) ((List.length (seg (0 : Nat) (List.length (seg (0 :
 Nat) (List.length ts1_2) ts1_2)) (seg (0 : Nat) (List.length ts1_2) ts1_2)) ≤ (256 : Nat) ∧ ∀ (t : Ty.den Go.P3.T6), t ∈ seg (0 : Nat) (List.length (seg (0 : Nat) (List.length ts1_2) ts1_2)) (seg (0 : Nat) (List.length
 ts1_2) ts1_2) → List.length (Prod.fst (Prod.snd (Prod.snd (Prod.snd t)))) ≤ (100 : Nat)) ∧ ∀ (l : List Go.P3.Tk), l = seg (0 : Nat) (List.length (seg (0 : Nat) (List.length ts1_2) ts1_2)) (seg (0 : Nat) (List.length
 ts1_2) ts1_2) → req (decide ((0 : Nat) + List.length (seg (0 : Nat) (List.length ts1_1) ts1_1) ≤ List.length (seg (0 : Nat) (List.length ts1_1) ts1_1))) (req (decide ((0 : Nat) + List.length (seg (0 : Nat) (List.length
 es1_1) es1_1) ≤ List.length (seg (0 : Nat) (List.length es1_1) es1_1))) ((List.length (seg (0 : Nat) (List.length (seg (0 : Nat) (List.length ts1_1) ts1_1)) (seg (0 : Nat) (List.length ts1_1) ts1_1)) ≤ (256 : Nat) ∧ ∀ (t
 : Ty.den Go.P3.T6), t ∈ seg (0 : Nat) (List.length (seg (0 : Nat) (List.length ts1_1) ts1_1)) (seg (0 : Nat) (List.length ts1_1) ts1_1) → List.length (Prod.fst (Prod.snd (Prod.snd (Prod.snd t)))) ≤ (100 : Nat)) ∧ ∀ (l_2
 : List Go.P3.Tk), l_2 = seg (0 : Nat) (List.length (seg (0 : Nat) (List.length ts1_1) ts1_1)) (seg (0 : Nat) (List.length ts1_1) ts1_1) → (l = l_2 ∧ List.length l ≤ (1000 : Nat) ∧ ∀ (t : Ty.den Go.P3.T6), t ∈ l →
 List.length (Prod.fst (Prod.snd (Prod.snd (Prod.snd t)))) ≤ (100 : Nat)) ∧ K (Bool.true, ()))))))))))))) := by kernel_rfl
theorem v10N (wt : Int) (l : List Cl) (c : Cl) (K : dens [.b] → Prop) : (xfn1 Tryd.prog { f := [(49, fcWith), (21, fcWorks)] } 5 10 fcRef (wt, l, c, ()) K) =
(fork (!decide ((0 : Int) ≤ wt ∧ wt ≤ (1000 : Int))) (fork (!decide ((0 : Int) ≤ wt ∧ wt ≤ (1000 : Int))) (K (Bool.true, ())) False) False) := by kernel_rfl
end Go.P3
