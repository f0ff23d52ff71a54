/- The statements of purses: states and what is to be shown, reduced. No conditions. -/
import Derived.Test.YtnjaebjhfilljaaRefS
import Derived.Test.YtnjaebjhfilljaaFairP
set_option linter.unusedSimpArgs false
set_option linter.unusedVariables false
set_option linter.constructorNameAsVariable false
set_option maxRecDepth 100000
set_option maxHeartbeats 2000000
namespace Go.P7
open Go.Lom Go.Proofs Go

abbrev LAc : Ty := .sl TAc
structure okLA (l : List Ac) : Prop where
  len : l.length ≤ big
  all : ∀ a ∈ l, okA a
/-! two lists that are the same -/
abbrev sh36 : SV := S [(0, .v LSu), (1, .v LSu), (5, .v I)]
abbrev lc36 : LC2 := ⟨0, sh36, 0, fun (a, b, i, _) Q => (a = b ∧ a.length ≤ 2000 ∧ 0 ≤ i ∧ i ≤ a.length) ∧ Q (.exit 0) (stS 0 .nil ())⟩
theorem v36L (a : List Su) (i : Int) (Q : AX → St → Prop) : (xloop2 Try.prog {} 5 36 0 lc36 (fun _ => some (.nil, 0)) (fun (a, _, i, _) => mL a i) (a, a, i, ()) Q) =
  (fork (decide (i < (↑(a.length) : Int))) (req (decide ((0 : Int) ≤ i ∧ i < (↑(a.length) : Int))) (req (decide ((0 : Int) ≤ i ∧ i < (↑(a.length) : Int))) (fork (!((List.getD a (Int.toNat i) ([], (0 : Int), (0 : Int), (0 :
 Int), (0 : Int))).1 == (List.getD a (Int.toNat i) ([], (0 : Int), (0 : Int), (0 : Int), (0 : Int))).1 && ((List.getD a (Int.toNat i) ([], (0 : Int), (0 : Int), (0 : Int), (0 : Int))).2.1 == (List.getD a (Int.toNat i) ([],
 (0 : Int), (0 : Int), (0 : Int), (0 : Int))).2.1 && ((List.getD a (Int.toNat i) ([], (0 : Int), (0 : Int), (0 : Int), (0 : Int))).2.2.1 == (List.getD a (Int.toNat i) ([], (0 : Int), (0 : Int), (0 : Int), (0 : Int))).2.2.1
 && ((List.getD a (Int.toNat i) ([], (0 : Int), (0 : Int), (0 : Int), (0 : Int))).2.2.2.1 == (List.getD a (Int.toNat i) ([], (0 : Int), (0 : Int), (0 : Int), (0 : Int))).2.2.2.1 && ((List.getD a (Int.toNat i) ([], (0 :
 Int), (0 : Int), (0 : Int), (0 : Int))).2.2.2.2 == (List.getD a (Int.toNat i) ([], (0 : Int), (0 : Int), (0 : Int), (0 : Int))).2.2.2.2 && true)))))) (Q AX.ret (stS 0 SV.nil ())) (req (inR IntKind.i64 (i + 1)) (Go.P7.mL a
 (i + 1) < Go.P7.mL a i ∧ LC2.spec Go.P7.lc36 (a, a, i + 1, ()) Q))))) (Q (AX.exit 0) (stS 0 SV.nil ()))) := by kernel_rfl
abbrev fcSS : FC := ⟨[.v LSu, .v LSu], [.b], fun x K => (x.1 = x.2.1 ∧ x.1.length ≤ 2000) ∧ K (true, ())⟩
theorem v36F (a : List Su) (K : dens [.b] → Prop) : (xfn1 Try.prog { l2 := [(36, 0, lc36)] } 5 36 fcSS (a, a, ()) K) =
  (fork ((↑(a.length) : Int) != (↑(a.length) : Int)) (K (false, ())) ((a = a ∧ a.length ≤ 2000 ∧ (0 : SV.den (SV.slot 5 (SV.v Go.P7.I))) ≤ (0 : Int) ∧ (0 : Int) ≤ (↑(a.length) : SV.den (SV.slot 5 (SV.v Go.P7.I)))) ∧ K
 (true, ()))) := by kernel_rfl
abbrev sh35 : SV := S [(0, .v LNt), (1, .v LNt), (5, .v I)]
abbrev lc35 : LC2 := ⟨0, sh35, 0, fun (a, b, i, _) Q => (a = b ∧ a.length ≤ 2000 ∧ 0 ≤ i ∧ i ≤ a.length) ∧ Q (.exit 0) (stS 0 .nil ())⟩
theorem v35L (a : List Nt) (i : Int) (Q : AX → St → Prop) : (xloop2 Try.prog {} 5 35 0 lc35 (fun _ => some (.nil, 0)) (fun (a, _, i, _) => mL a i) (a, a, i, ()) Q) =
  (fork (decide (i < (↑(a.length) : Int))) (req (decide ((0 : Int) ≤ i ∧ i < (↑(a.length) : Int))) (req (decide ((0 : Int) ≤ i ∧ i < (↑(a.length) : Int))) (fork (!((List.getD a (Int.toNat i) ((0 : Int), (0 : Int), (0 :
 Int))).1 == (List.getD a (Int.toNat i) ((0 : Int), (0 : Int), (0 : Int))).1 && ((List.getD a (Int.toNat i) ((0 : Int), (0 : Int), (0 : Int))).2.1 == (List.getD a (Int.toNat i) ((0 : Int), (0 : Int), (0 : Int))).2.1 &&
 ((List.getD a (Int.toNat i) ((0 : Int), (0 : Int), (0 : Int))).2.2 == (List.getD a (Int.toNat i) ((0 : Int), (0 : Int), (0 : Int))).2.2 && true)))) (Q AX.ret (stS 0 SV.nil ())) (req (inR IntKind.i64 (i + 1)) (Go.P7.mL a
 (i + 1) < Go.P7.mL a i ∧ LC2.spec Go.P7.lc35 (a, a, i + 1, ()) Q))))) (Q (AX.exit 0) (stS 0 SV.nil ()))) := by kernel_rfl
abbrev fcSN : FC := ⟨[.v LNt, .v LNt], [.b], fun x K => (x.1 = x.2.1 ∧ x.1.length ≤ 2000) ∧ K (true, ())⟩
theorem v35F (a : List Nt) (K : dens [.b] → Prop) : (xfn1 Try.prog { l2 := [(35, 0, lc35)] } 5 35 fcSN (a, a, ()) K) =
  (fork ((↑(a.length) : Int) != (↑(a.length) : Int)) (K (false, ())) ((a = a ∧ a.length ≤ 2000 ∧ (0 : SV.den (SV.slot 5 (SV.v Go.P7.I))) ≤ (0 : Int) ∧ (0 : Int) ≤ (↑(a.length) : SV.den (SV.slot 5 (SV.v Go.P7.I)))) ∧ K
 (true, ()))) := by kernel_rfl
/-! PurseActs -/
def sameP (a b : PS) : Prop := b = a
abbrev sh12 : SV := S [(1, .v LAc), (2, .v .s), (7, .box 0 (purC 2 3)), (9, .box 4 (refP 5 6)), (11, .v I)]
abbrev sh12e : SV := S [(2, .v .s), (7, .box 0 (purC 2 3)), (9, .box 4 (refP 5 6))]
abbrev lc12 : LC2 := ⟨0, sh12, 7, fun (l, p, (ss, ns, dy, wf, t, m, b, _), (t2, dy2, wf2, ss2, ns2, _), i, _) Q => (okP (dy, wf, t, ss, ns) ∧ b = true ∧ mapS m ss ∧ sameP (dy, wf, t, ss, ns) (dy2, wf2, t2, ss2, ns2) ∧ okLA l ∧ 0 ≤ i ∧ i ≤ 60 ∧ (ns.length : Int) ≤ i) ∧
  ∀ (ss1 : List Su) (ns1 : List Nt) (dy1 wf1 : Int) (m1 : List (Tx × Int)), okP (dy1, wf1, t, ss1, ns1) → mapS m1 ss1 → ns1.length ≤ 60 → Q (.exit 0) (stS 7 sh12e (p, (ss1, ns1, dy1, wf1, t, m1, true, ()), (t, dy1, wf1, ss1, ns1, ()), ()))⟩
theorem v12L (ss : List Su) (ns : List Nt) (dy wf t : Int) (m : List (Tx × Int)) (l : List Ac) (p : Tx) (i : Int) (Q : AX → St → Prop) : (xloop2 Try.prog { f := [(22, fcSameP), (16, fcSame)], f2 := [(30, fcDone), (38, fcDue)] } 5 12 0 lc12 (fun _ => some (sh12e, 7)) (fun (_, _, _, _, i, _) => (60 - i).toNat) (l, p, (ss, ns, dy, wf, t, m, true, ()), (t, dy, wf, ss, ns, ()), i, ()) Q) =
  (fork (decide (i < (↑(l.length) : Int))) (fork (decide (i < (60 : Int))) (req (decide ((0 : Int) ≤ i ∧ i < (↑(l.length) : Int))) (req (decide (0 + ss.length ≤ ss.length)) (req (decide (0 + ns.length ≤ ns.length))
 ((Go.P7.okP (dy, wf, t, seg 0 (ss.length) ss, seg 0 (ns.length) ns) ∧ true = true ∧ Go.P7.roomN (seg 0 (ns.length) ns) ∧ Go.P7.mapS m (seg 0 (ss.length) ss) ∧ Go.P7.okA (List.getD l (Int.toNat i) ((0 : Int), (0 : Int), (0
 : Int), [], [], []))) ∧ ∀ (ss1 : List Go.P7.Su) (ns1 : List Go.P7.Nt) (dy1 wf1 : Int) (m1 : List (Go.P7.Tx × Int)) (os : List Go.P7.Po) (l_1 : List Int) (e : Int), ((dy1, wf1, t, ss1, ns1), os, l_1, e) = Go.P7.actI (dy,
 wf, t, seg 0 (ss.length) ss, seg 0 (ns.length) ns) (List.getD l (Int.toNat i) ((0 : Int), (0 : Int), (0 : Int), [], [], [])) → Go.P7.mapS m1 ss1 → req (decide ((0 : Int) ≤ i ∧ i < (↑(l.length) : Int))) (req (decide (0 +
 ss.length ≤ ss.length)) (req (decide (0 + ns.length ≤ ns.length)) ((Go.P7.okP (dy, wf, t, seg 0 (ss.length) ss, seg 0 (ns.length) ns) ∧ Go.P7.roomN (seg 0 (ns.length) ns) ∧ Go.P7.okA (List.getD l (Int.toNat i) ((0 : Int),
 (0 : Int), (0 : Int), [], [], []))) ∧ ∀ (ss1_1 : List Go.P7.Su) (ns1_1 : List Go.P7.Nt) (dy1_1 wf1_1 : Int) (os_1 : List Go.P7.Po) (l_2 : List Int) (e_1 : Int), ((dy1_1, wf1_1, t, ss1_1, ns1_1), os_1, l_2, e_1) =
 Go.P7.actI (dy, wf, t, seg 0 (ss.length) ss, seg 0 (ns.length) ns) (List.getD l (Int.toNat i) ((0 : Int), (0 : Int), (0 : Int), [], [], [])) → (os.length ≤ 9223372036854775807 ∧ ∀ (x : Go.P7.Po), x ∈ os → List.length
 (x.2.1) ≤ 9223372036854775807) ∧ fork (!decide (os = os_1)) (req (decide (0 + ss1.length ≤ ss1.length)) (req (decide (0 + ns1.length ≤ ns1.length)) (req (decide (0 + ss1_1.length ≤ ss1_1.length)) (req (decide (0 +
 ns1_1.length ≤ ns1_1.length)) (Q AX.ret (stS 7 Go.P7.sh12e (p, (seg 0 (ss1.length) ss1, seg 0 (ns1.length) ns1, dy1, wf1, t, m1, true, ()), (t, dy1_1, wf1_1, seg 0 (ss1_1.length) ss1_1, seg 0 (ns1_1.length) ns1_1, ()),
 ()))))))) (l_1.length ≤ 9223372036854775807 ∧ fork (!decide (l_1 = l_2)) (req (decide (0 + ss1.length ≤ ss1.length)) (req (decide (0 + ns1.length ≤ ns1.length)) (req (decide (0 + ss1_1.length ≤ ss1_1.length)) (req (decide
 (0 + ns1_1.length ≤ ns1_1.length)) (Q AX.ret (stS 7 Go.P7.sh12e (p, (seg 0 (ss1.length) ss1, seg 0 (ns1.length) ns1, dy1, wf1, t, m1, true, ()), (t, dy1_1, wf1_1, seg 0 (ss1_1.length) ss1_1, seg 0 (ns1_1.length) ns1_1,
 ()), ()))))))) (fork (e != e_1) (req (decide (0 + ss1.length ≤ ss1.length)) (req (decide (0 + ns1.length ≤ ns1.length)) (req (decide (0 + ss1_1.length ≤ ss1_1.length)) (req (decide (0 + ns1_1.length ≤ ns1_1.length)) (Q
 AX.ret (stS 7 Go.P7.sh12e (p, (seg 0 (ss1.length) ss1, seg 0 (ns1.length) ns1, dy1, wf1, t, m1, true, ()), (t, dy1_1, wf1_1, seg 0 (ss1_1.length) ss1_1, seg 0 (ns1_1.length) ns1_1, ()), ()))))))) (req (inR IntKind.i64 (i
 + 1)) (req (decide (0 + ss1.length ≤ ss1.length)) (req (decide (0 + ns1.length ≤ ns1.length)) (req (decide (0 + ss1_1.length ≤ ss1_1.length)) (req (decide (0 + ns1_1.length ≤ ns1_1.length)) (Int.toNat ((60 : SV.den
 (SV.slot 11 (SV.v Go.P7.I))) - (i + 1)) < Int.toNat ((60 : SV.den (SV.slot 11 (SV.v Go.P7.I))) - i) ∧ LC2.spec Go.P7.lc12 (l, p, (seg 0 (ss1.length) ss1, seg 0 (ns1.length) ns1, dy1, wf1, t, m1, true, ()), (t, dy1_1,
 wf1_1, seg 0 (ss1_1.length) ss1_1, seg 0 (ns1_1.length) ns1_1, ()), i + 1, ()) Q))))))))))))))) (req (decide (0 + ss.length ≤ ss.length)) (req (decide (0 + ns.length ≤ ns.length)) (req (decide (0 + ss.length ≤ ss.length))
 (req (decide (0 + ns.length ≤ ns.length)) (Q (AX.exit 0) (stS 7 Go.P7.sh12e (p, (seg 0 (ss.length) ss, seg 0 (ns.length) ns, dy, wf, t, m, true, ()), (t, dy, wf, seg 0 (ss.length) ss, seg 0 (ns.length) ns, ()), ()))))))))
 (req (decide (0 + ss.length ≤ ss.length)) (req (decide (0 + ns.length ≤ ns.length)) (req (decide (0 + ss.length ≤ ss.length)) (req (decide (0 + ns.length ≤ ns.length)) (Q (AX.exit 0) (stS 7 Go.P7.sh12e (p, (seg 0
 (ss.length) ss, seg 0 (ns.length) ns, dy, wf, t, m, true, ()), (t, dy, wf, seg 0 (ss.length) ss, seg 0 (ns.length) ns, ()), ())))))))) := by kernel_rfl
abbrev fcActs : FC := ⟨[.v I, .v LAc, .v .s], [.b], fun x K => okLA x.2.1 ∧ K (true, ())⟩
theorem v12F (t : Int) (l : List Ac) (p : Tx) (K : dens [.b] → Prop) : (xfn1 Try.prog { f := [(24, fcFrom), (19, fcWorks), (36, fcSS), (35, fcSN)], f2 := [(33, fcHolds), (39, fcOwed), (40, fcROwed), (41, fcRWaits), (31, fcSus), (34, fcNts)], l2 := [(12, 0, lc12)] } 6 12 fcActs (t, l, p, ()) K) =
  (fork (decide (t ≥ (0 : Int))) (fork (!decide (t ≤ (12000 : Int))) (fork (!decide ((0 : Int) ≤ t ∧ t ≤ (12000 : Int))) (K (true, ())) (K (false, ()))) (fork (!decide ((0 : Int) ≤ t ∧ t ≤ (12000 : Int))) (K (false, ()))
 ((Go.P7.okP ((0 : Int), (0 : Int), t, [], []) ∧ true = true ∧ Go.P7.mapS [] [] ∧ Go.P7.sameP ((0 : Int), (0 : Int), t, [], []) ((0 : Int), (0 : Int), t, [], []) ∧ Go.P7.okLA l ∧ (0 : SV.den (SV.slot 11 (SV.v Go.P7.I))) ≤
 (0 : Int) ∧ (0 : Int) ≤ (60 : SV.den (SV.slot 11 (SV.v Go.P7.I))) ∧ (0 : Int) ≤ (0 : Int)) ∧ ∀ (ss1 : List Go.P7.Su) (ns1 : List Go.P7.Nt) (dy1 wf1 : Int) (m1 : List (Go.P7.Tx × Int)), Go.P7.okP (dy1, wf1, t, ss1, ns1) →
 Go.P7.mapS m1 ss1 → ns1.length ≤ 60 → req (decide (0 + ss1.length ≤ ss1.length)) (req (decide (0 + ns1.length ≤ ns1.length)) ((Go.P7.okP (dy1, wf1, t, seg 0 (ss1.length) ss1, seg 0 (ns1.length) ns1) ∧ true = true) ∧ ∀ (w
 : Int), w = Go.P7.waitsN (seg 0 (ss1.length) ss1) → req (decide (0 + List.length (seg 0 (ss1.length) ss1) ≤ List.length (seg 0 (ss1.length) ss1))) (req (decide (0 + List.length (seg 0 (ns1.length) ns1) ≤ List.length (seg
 0 (ns1.length) ns1))) ((Go.P7.okP (dy1, wf1, t, seg 0 (List.length (seg 0 (ss1.length) ss1)) (seg 0 (ss1.length) ss1), seg 0 (List.length (seg 0 (ns1.length) ns1)) (seg 0 (ns1.length) ns1)) ∧ true = true ∧ Go.P7.mapS m1
 (seg 0 (List.length (seg 0 (ss1.length) ss1)) (seg 0 (ss1.length) ss1))) ∧ ∀ (x : Go.P7.Su) (e : Int), (x, e) = Go.P7.owedI (seg 0 (List.length (seg 0 (ss1.length) ss1)) (seg 0 (ss1.length) ss1)) p → req (decide (0 +
 ss1.length ≤ ss1.length)) (req (decide (0 + ns1.length ≤ ns1.length)) (Go.P7.okP (dy1, wf1, t, seg 0 (ss1.length) ss1, seg 0 (ns1.length) ns1) ∧ ∀ (x_1 : Go.P7.Su) (e_1 : Int), (x_1, e_1) = Go.P7.owedI (seg 0 (ss1.length)
 ss1) p → req (decide (0 + List.length (seg 0 (ss1.length) ss1) ≤ List.length (seg 0 (ss1.length) ss1))) (req (decide (0 + List.length (seg 0 (ns1.length) ns1) ≤ List.length (seg 0 (ns1.length) ns1))) (Go.P7.okP (dy1, wf1,
 t, seg 0 (List.length (seg 0 (ss1.length) ss1)) (seg 0 (ss1.length) ss1), seg 0 (List.length (seg 0 (ns1.length) ns1)) (seg 0 (ns1.length) ns1)) ∧ ∀ (n : Int), n = Go.P7.waitsN (seg 0 (List.length (seg 0 (ss1.length)
 ss1)) (seg 0 (ss1.length) ss1)) → fork (w == n) (fork (wf1 == wf1) (fork (x.1 == x_1.1 && (x.2.1 == x_1.2.1 && (x.2.2.1 == x_1.2.2.1 && (x.2.2.2.1 == x_1.2.2.2.1 && (x.2.2.2.2 == x_1.2.2.2.2 && true))))) (fork (e == e_1)
 (req (decide (0 + List.length (seg 0 (List.length (seg 0 (ss1.length) ss1)) (seg 0 (ss1.length) ss1)) ≤ List.length (seg 0 (List.length (seg 0 (ss1.length) ss1)) (seg 0 (ss1.length) ss1)))) (req (decide (0 + List.length
 (seg 0 (List.length (seg 0 (ns1.length) ns1)) (seg 0 (ns1.length) ns1)) ≤ List.length (seg 0 (List.length (seg 0 (ns1.length) ns1)) (seg 0 (ns1.length) ns1)))) (List.length (seg 0 (List.length (seg 0 (List.length (seg 0
 (ss1.length) ss1)) (seg 0 (ss1.length) ss1))) (seg 0 (List.length (seg 0 (ss1.length) ss1)) (seg 0 (ss1.length) ss1))) ≤ 1000 ∧ ∀ (l : List Go.P7.Su), l = seg 0 (List.length (seg 0 (List.length (seg 0 (ss1.length) ss1))
 (seg 0 (ss1.length) ss1))) (seg 0 (List.length (seg 0 (ss1.length) ss1)) (seg 0 (ss1.length) ss1)) → AV.sl 29 5 0 (List.length (seg 0 (List.length (seg 0 (ss1.length) ss1)) (seg 0 (ss1.length) ss1))) none = AV.sl 29 5 0
 (List.length (seg 0 (List.length (seg 0 (ss1.length) ss1)) (seg 0 (ss1.length) ss1))) none ∧ req (decide (0 + List.length (seg 0 (List.length (seg 0 (ss1.length) ss1)) (seg 0 (ss1.length) ss1)) ≤ List.length (seg 0
 (List.length (seg 0 (ss1.length) ss1)) (seg 0 (ss1.length) ss1)))) ((l = seg 0 (List.length (seg 0 (List.length (seg 0 (ss1.length) ss1)) (seg 0 (ss1.length) ss1))) (seg 0 (List.length (seg 0 (ss1.length) ss1)) (seg 0
 (ss1.length) ss1)) ∧ l.length ≤ 2000) ∧ req (decide (0 + List.length (seg 0 (List.length (seg 0 (List.length (seg 0 (ss1.length) ss1)) (seg 0 (ss1.length) ss1))) (seg 0 (List.length (seg 0 (ss1.length) ss1)) (seg 0
 (ss1.length) ss1))) ≤ List.length (seg 0 (List.length (seg 0 (List.length (seg 0 (ss1.length) ss1)) (seg 0 (ss1.length) ss1))) (seg 0 (List.length (seg 0 (ss1.length) ss1)) (seg 0 (ss1.length) ss1))))) (req (decide (0 +
 List.length (seg 0 (List.length (seg 0 (List.length (seg 0 (ns1.length) ns1)) (seg 0 (ns1.length) ns1))) (seg 0 (List.length (seg 0 (ns1.length) ns1)) (seg 0 (ns1.length) ns1))) ≤ List.length (seg 0 (List.length (seg 0
 (List.length (seg 0 (ns1.length) ns1)) (seg 0 (ns1.length) ns1))) (seg 0 (List.length (seg 0 (ns1.length) ns1)) (seg 0 (ns1.length) ns1))))) (List.length (seg 0 (List.length (seg 0 (List.length (seg 0 (List.length (seg 0
 (ns1.length) ns1)) (seg 0 (ns1.length) ns1))) (seg 0 (List.length (seg 0 (ns1.length) ns1)) (seg 0 (ns1.length) ns1)))) (seg 0 (List.length (seg 0 (List.length (seg 0 (ns1.length) ns1)) (seg 0 (ns1.length) ns1))) (seg 0
 (List.length (seg 0 (ns1.length) ns1)) (seg 0 (ns1.length) ns1)))) ≤ 1000 ∧ ∀ (l : List Go.P7.Nt), l = seg 0 (List.length (seg 0 (List.length (seg 0 (List.length (seg 0 (ns1.length) ns1)) (seg 0 (ns1.length) ns1))) (seg 0
 (List.length (seg 0 (ns1.length) ns1)) (seg 0 (ns1.length) ns1)))) (seg 0 (List.length (seg 0 (List.length (seg 0 (ns1.length) ns1)) (seg 0 (ns1.length) ns1))) (seg 0 (List.length (seg 0 (ns1.length) ns1)) (seg 0
 (ns1.length) ns1))) → AV.sl 30 3 0 (List.length (seg 0 (List.length (seg 0 (ns1.length) ns1)) (seg 0 (ns1.length) ns1))) none = AV.sl 30 3 0 (List.length (seg 0 (List.length (seg 0 (ns1.length) ns1)) (seg 0 (ns1.length)
 ns1))) none ∧ req (decide (0 + List.length (seg 0 (List.length (seg 0 (ns1.length) ns1)) (seg 0 (ns1.length) ns1)) ≤ List.length (seg 0 (List.length (seg 0 (ns1.length) ns1)) (seg 0 (ns1.length) ns1)))) ((l = seg 0
 (List.length (seg 0 (List.length (seg 0 (ns1.length) ns1)) (seg 0 (ns1.length) ns1))) (seg 0 (List.length (seg 0 (ns1.length) ns1)) (seg 0 (ns1.length) ns1)) ∧ l.length ≤ 2000) ∧ K (true, ())))))))) (K (false, ()))) (K
 (false, ()))) (K (false, ()))) (K (false, ()))))))))))))) (fork (!decide ((0 : Int) ≤ t ∧ t ≤ (12000 : Int))) (K (true, ())) (K (false, ())))) := by kernel_rfl
/-! PurseRefuses -/
abbrev sh11 : SV := S [(1, .v LAc), (5, .box 8 (A [.v TAc])), (7, .box 0 (purC 2 3)), (9, .box 4 (purK 5 6 7)), (11, .v I)]
abbrev sh11e : SV := S [(5, .box 8 (A [.v TAc])), (7, .box 0 (purC 2 3)), (9, .box 4 (purK 5 6 7))]
abbrev lc11 : LC2 := ⟨0, sh11, 9, fun (l, (a, _), (ss, ns, dy, wf, t, m, b, _), (ss2, ns2, dy2, wf2, t2, m2, b2, _), i, _) Q => (okP (dy, wf, t, ss, ns) ∧ b = true ∧ mapS m ss ∧ sameP (dy, wf, t, ss, ns) (dy2, wf2, t2, ss2, ns2) ∧ b2 = true ∧ mapS m2 ss ∧ okLA l ∧ 0 ≤ i ∧ i ≤ 60 ∧ (ns.length : Int) ≤ i) ∧
  ∀ (ss1 : List Su) (ns1 : List Nt) (dy1 wf1 : Int) (m1 m3 : List (Tx × Int)), okP (dy1, wf1, t, ss1, ns1) → mapS m1 ss1 → mapS m3 ss1 → ns1.length ≤ 60 → Q (.exit 0) (stS 9 sh11e ((a, ()), (ss1, ns1, dy1, wf1, t, m1, true, ()), (ss1, ns1, dy1, wf1, t, m3, true, ()), ()))⟩
theorem v11L (ss : List Su) (ns : List Nt) (dy wf t : Int) (m m2 : List (Tx × Int)) (l : List Ac) (a : Ac) (i : Int) (Q : AX → St → Prop) : (xloop2 Try.prog { f2 := [(30, fcDone)] } 5 11 0 lc11 (fun _ => some (sh11e, 9)) (fun (_, _, _, _, i, _) => (60 - i).toNat) (l, (a, ()), (ss, ns, dy, wf, t, m, true, ()), (ss, ns, dy, wf, t, m2, true, ()), i, ()) Q) =
  (fork (decide (i < (↑(l.length) : Int))) (fork (decide (i < (60 : Int))) (req (decide ((0 : Int) ≤ i ∧ i < (↑(l.length) : Int))) (req (decide (0 + ss.length ≤ ss.length)) (req (decide (0 + ns.length ≤ ns.length))
 ((Go.P7.okP (dy, wf, t, seg 0 (ss.length) ss, seg 0 (ns.length) ns) ∧ true = true ∧ Go.P7.roomN (seg 0 (ns.length) ns) ∧ Go.P7.mapS m (seg 0 (ss.length) ss) ∧ Go.P7.okA (List.getD l (Int.toNat i) ((0 : Int), (0 : Int), (0
 : Int), [], [], []))) ∧ ∀ (ss1 : List Go.P7.Su) (ns1 : List Go.P7.Nt) (dy1 wf1 : Int) (m1 : List (Go.P7.Tx × Int)) (os : List Go.P7.Po) (l_1 : List Int) (e : Int), ((dy1, wf1, t, ss1, ns1), os, l_1, e) = Go.P7.actI (dy,
 wf, t, seg 0 (ss.length) ss, seg 0 (ns.length) ns) (List.getD l (Int.toNat i) ((0 : Int), (0 : Int), (0 : Int), [], [], [])) → Go.P7.mapS m1 ss1 → req (decide ((0 : Int) ≤ i ∧ i < (↑(l.length) : Int))) (req (decide (0 +
 ss.length ≤ ss.length)) (req (decide (0 + ns.length ≤ ns.length)) ((Go.P7.okP (dy, wf, t, seg 0 (ss.length) ss, seg 0 (ns.length) ns) ∧ true = true ∧ Go.P7.roomN (seg 0 (ns.length) ns) ∧ Go.P7.mapS m2 (seg 0 (ss.length)
 ss) ∧ Go.P7.okA (List.getD l (Int.toNat i) ((0 : Int), (0 : Int), (0 : Int), [], [], []))) ∧ ∀ (ss1_1 : List Go.P7.Su) (ns1_1 : List Go.P7.Nt) (dy1_1 wf1_1 : Int) (m1_1 : List (Go.P7.Tx × Int)) (os : List Go.P7.Po) (l_2 :
 List Int) (e : Int), ((dy1_1, wf1_1, t, ss1_1, ns1_1), os, l_2, e) = Go.P7.actI (dy, wf, t, seg 0 (ss.length) ss, seg 0 (ns.length) ns) (List.getD l (Int.toNat i) ((0 : Int), (0 : Int), (0 : Int), [], [], [])) →
 Go.P7.mapS m1_1 ss1_1 → req (inR IntKind.i64 (i + 1)) (req (decide (0 + ss1.length ≤ ss1.length)) (req (decide (0 + ns1.length ≤ ns1.length)) (req (decide (0 + ss1_1.length ≤ ss1_1.length)) (req (decide (0 + ns1_1.length
 ≤ ns1_1.length)) (Int.toNat ((60 : SV.den (SV.slot 11 (SV.v Go.P7.I))) - (i + 1)) < Int.toNat ((60 : SV.den (SV.slot 11 (SV.v Go.P7.I))) - i) ∧ LC2.spec Go.P7.lc11 (l, (a, ()), (seg 0 (ss1.length) ss1, seg 0 (ns1.length)
 ns1, dy1, wf1, t, m1, true, ()), (seg 0 (ss1_1.length) ss1_1, seg 0 (ns1_1.length) ns1_1, dy1_1, wf1_1, t, m1_1, true, ()), i + 1, ()) Q)))))))))))) (req (decide (0 + ss.length ≤ ss.length)) (req (decide (0 + ns.length ≤
 ns.length)) (req (decide (0 + ss.length ≤ ss.length)) (req (decide (0 + ns.length ≤ ns.length)) (Q (AX.exit 0) (stS 9 Go.P7.sh11e ((a, ()), (seg 0 (ss.length) ss, seg 0 (ns.length) ns, dy, wf, t, m, true, ()), (seg 0
 (ss.length) ss, seg 0 (ns.length) ns, dy, wf, t, m2, true, ()), ())))))))) (req (decide (0 + ss.length ≤ ss.length)) (req (decide (0 + ns.length ≤ ns.length)) (req (decide (0 + ss.length ≤ ss.length)) (req (decide (0 +
 ns.length ≤ ns.length)) (Q (AX.exit 0) (stS 9 Go.P7.sh11e ((a, ()), (seg 0 (ss.length) ss, seg 0 (ns.length) ns, dy, wf, t, m, true, ()), (seg 0 (ss.length) ss, seg 0 (ns.length) ns, dy, wf, t, m2, true, ()), ())))))))) := by kernel_rfl
abbrev fcRef : FC := ⟨[.v I, .v LAc, .v TAc], [.b], fun x K => okLA x.2.1 ∧ okA x.2.2.1 ∧ K (true, ())⟩
theorem v11F (t : Int) (l : List Ac) (k d pr : Int) (ps : List Pa) (p : Tx) (w : List Int) (K : dens [.b] → Prop) : (xfn1 Try.prog { f := [(19, fcWorks), (36, fcSS), (35, fcSN)], f2 := [(30, fcDone), (33, fcHolds), (31, fcSus), (34, fcNts)], l2 := [(11, 0, lc11)] } 6 11 fcRef (t, l, (k, d, pr, ps, p, w), ()) K) =
  (fork (decide (t ≥ (0 : Int))) (fork (!decide (t ≤ (12000 : Int))) (fork (decide (t ≥ (0 : Int))) (fork (!decide (t ≤ (12000 : Int))) (K (true, ())) (K (false, ()))) (K (true, ()))) (fork (decide (t ≥ (0 : Int))) (fork
 (!decide (t ≤ (12000 : Int))) (K (false, ())) ((Go.P7.okP ((0 : Int), (0 : Int), t, [], []) ∧ true = true ∧ Go.P7.mapS [] [] ∧ Go.P7.sameP ((0 : Int), (0 : Int), t, [], []) ((0 : Int), (0 : Int), t, [], []) ∧ true = true
 ∧ Go.P7.mapS [] [] ∧ Go.P7.okLA l ∧ (0 : SV.den (SV.slot 11 (SV.v Go.P7.I))) ≤ (0 : Int) ∧ (0 : Int) ≤ (60 : SV.den (SV.slot 11 (SV.v Go.P7.I))) ∧ (0 : Int) ≤ (0 : Int)) ∧ ∀ (ss1 : List Go.P7.Su) (ns1 : List Go.P7.Nt)
 (dy1 wf1 : Int) (m1 m3 : List (Go.P7.Tx × Int)), Go.P7.okP (dy1, wf1, t, ss1, ns1) → Go.P7.mapS m1 ss1 → Go.P7.mapS m3 ss1 → ns1.length ≤ 60 → req (decide (0 + ss1.length ≤ ss1.length)) (req (decide (0 + ns1.length ≤
 ns1.length)) ((Go.P7.okP (dy1, wf1, t, seg 0 (ss1.length) ss1, seg 0 (ns1.length) ns1) ∧ true = true ∧ Go.P7.roomN (seg 0 (ns1.length) ns1) ∧ Go.P7.mapS m1 (seg 0 (ss1.length) ss1) ∧ Go.P7.okA (k, d, pr, ps, p, w)) ∧ ∀
 (ss1_1 : List Go.P7.Su) (ns1_1 : List Go.P7.Nt) (dy1_1 wf1_1 : Int) (m1 : List (Go.P7.Tx × Int)) (os : List Go.P7.Po) (l : List Int) (e : Int), ((dy1_1, wf1_1, t, ss1_1, ns1_1), os, l, e) = Go.P7.actI (dy1, wf1, t, seg 0
 (ss1.length) ss1, seg 0 (ns1.length) ns1) (k, d, pr, ps, p, w) → Go.P7.mapS m1 ss1_1 → req (decide (0 + ss1_1.length ≤ ss1_1.length)) (req (decide (0 + ns1_1.length ≤ ns1_1.length)) (List.length (seg 0 (ns1_1.length)
 ns1_1) ≤ 1000 ∧ ∀ (l : List Go.P7.Nt), l = seg 0 (ns1_1.length) ns1_1 → req (decide (0 + ss1.length ≤ ss1.length)) (req (decide (0 + ns1.length ≤ ns1.length)) (List.length (seg 0 (ns1.length) ns1) ≤ 1000 ∧ ∀ (l_1 : List
 Go.P7.Nt), l_1 = seg 0 (ns1.length) ns1 → fork (e == (0 : Int)) (req (inR IntKind.i64 ((↑(l_1.length) : Int) + 1)) (fork ((↑(l.length) : Int) == (↑(l_1.length) : Int) + 1) (req (decide ((0 : Int) ≤ (0 : Int) ∧ (0 : Int) ≤
 (↑(l_1.length) : Int) ∧ (↑(l_1.length) : Int) ≤ (↑(l.length) : Int))) ((List.drop 0 (List.take (l_1.length) l) = l_1 ∧ List.length (List.drop 0 (List.take (l_1.length) l)) ≤ 2000) ∧ req (decide ((0 : Int) ≤ (↑(l_1.length)
 : Int) ∧ (↑(l_1.length) : Int) < (↑(l.length) : Int))) (fork ((List.getD l (l_1.length) ((0 : Int), (0 : Int), (0 : Int))).2.1 == d) (K (true, ())) (K (false, ()))))) (K (false, ())))) (req (decide (0 + List.length (seg 0
 (ss1_1.length) ss1_1) ≤ List.length (seg 0 (ss1_1.length) ss1_1))) (req (decide (0 + List.length (seg 0 (ns1_1.length) ns1_1) ≤ List.length (seg 0 (ns1_1.length) ns1_1))) ((Go.P7.okP (dy1_1, wf1_1, t, seg 0 (List.length
 (seg 0 (ss1_1.length) ss1_1)) (seg 0 (ss1_1.length) ss1_1), seg 0 (List.length (seg 0 (ns1_1.length) ns1_1)) (seg 0 (ns1_1.length) ns1_1)) ∧ true = true) ∧ ∀ (w : Int), w = Go.P7.waitsN (seg 0 (List.length (seg 0
 (ss1_1.length) ss1_1)) (seg 0 (ss1_1.length) ss1_1)) → req (decide (0 + List.length (seg 0 (ss1.length) ss1) ≤ List.length (seg 0 (ss1.length) ss1))) (req (decide (0 + List.length (seg 0 (ns1.length) ns1) ≤ List.length
 (seg 0 (ns1.length) ns1))) ((Go.P7.okP (dy1, wf1, t, seg 0 (List.length (seg 0 (ss1.length) ss1)) (seg 0 (ss1.length) ss1), seg 0 (List.length (seg 0 (ns1.length) ns1)) (seg 0 (ns1.length) ns1)) ∧ true = true) ∧ ∀ (w_1 :
 Int), w_1 = Go.P7.waitsN (seg 0 (List.length (seg 0 (ss1.length) ss1)) (seg 0 (ss1.length) ss1)) → fork (w == w_1) (fork (wf1_1 == wf1) ((l = l_1 ∧ l.length ≤ 2000) ∧ req (decide (0 + List.length (seg 0 (List.length (seg
 0 (ss1_1.length) ss1_1)) (seg 0 (ss1_1.length) ss1_1)) ≤ List.length (seg 0 (List.length (seg 0 (ss1_1.length) ss1_1)) (seg 0 (ss1_1.length) ss1_1)))) (req (decide (0 + List.length (seg 0 (List.length (seg 0
 (ns1_1.length) ns1_1)) (seg 0 (ns1_1.length) ns1_1)) ≤ List.length (seg 0 (List.length (seg 0 (ns1_1.length) ns1_1)) (seg 0 (ns1_1.length) ns1_1)))) (List.length (seg 0 (List.length (seg 0 (List.length (seg 0
 (ss1_1.length) ss1_1)) (seg 0 (ss1_1.length) ss1_1))) (seg 0 (List.length (seg 0 (ss1_1.length) ss1_1)) (seg 0 (ss1_1.length) ss1_1))) ≤ 1000 ∧ ∀ (l : List Go.P7.Su), l = seg 0 (List.length (seg 0 (List.length (seg 0
 (ss1_1.length) ss1_1)) (seg 0 (ss1_1.length) ss1_1))) (seg 0 (List.length (seg 0 (ss1_1.length) ss1_1)) (seg 0 (ss1_1.length) ss1_1)) → req (decide (0 + List.length (seg 0 (List.length (seg 0 (ss1.length) ss1)) (seg 0
 (ss1.length) ss1)) ≤ List.length (seg 0 (List.length (seg 0 (ss1.length) ss1)) (seg 0 (ss1.length) ss1)))) (req (decide (0 + List.length (seg 0 (List.length (seg 0 (ns1.length) ns1)) (seg 0 (ns1.length) ns1)) ≤
 List.length (seg 0 (List.length (seg 0 (ns1.length) ns1)) (seg 0 (ns1.length) ns1)))) (List.length (seg 0 (List.length (seg 0 (List.length (seg 0 (ss1.length) ss1)) (seg 0 (ss1.length) ss1))) (seg 0 (List.length (seg 0
 (ss1.length) ss1)) (seg 0 (ss1.length) ss1))) ≤ 1000 ∧ ∀ (l_2 : List Go.P7.Su), l_2 = seg 0 (List.length (seg 0 (List.length (seg 0 (ss1.length) ss1)) (seg 0 (ss1.length) ss1))) (seg 0 (List.length (seg 0 (ss1.length)
 ss1)) (seg 0 (ss1.length) ss1)) → (l = l_2 ∧ l.length ≤ 2000) ∧ K (true, ())))))) (K (false, ()))) (K (false, ()))))))))))))))) (K (false, ())))) (fork (decide (t ≥ (0 : Int))) (fork (!decide (t ≤ (12000 : Int))) (K
 (true, ())) (K (false, ()))) (K (true, ())))) := by kernel_rfl
/-! PurseOnce -/
def stepS (t d : Int) (x y : Su) : Prop := y = x ∨ (x.2.2.2.1 = 1 ∧ ((y = overI x 2 d ∧ d < x.2.2.1 + t) ∨ (y = overI x 3 d ∧ x.2.2.1 + t ≤ d)))
structure stepsS (a b : List Su) (t d : Int) : Prop where
  len : a.length ≤ b.length ∧ b.length ≤ 256
  all : ∀ j : Nat, j < a.length → stepS t d (a.getD j U0) (b.getD j U0)
  days : ∀ x ∈ a, 0 ≤ x.2.2.1 ∧ x.2.2.1 ≤ 36500
  term : 0 ≤ t ∧ t ≤ 12000
abbrev sh32 : SV := S [(0, .v LSu), (1, .v LSu), (2, .v I), (3, .v I), (9, .v I)]
abbrev lc32 : LC2 := ⟨0, sh32, 0, fun (a, b, t, d, i, _) Q => (stepsS a b t d ∧ 0 ≤ i ∧ i ≤ a.length) ∧ Q (.exit 0) (stS 0 .nil ())⟩
theorem v32L (a b : List Su) (t d i : Int) (Q : AX → St → Prop) : (xloop2 Try.prog {} 5 32 0 lc32 (fun _ => some (.nil, 0)) (fun (a, _, _, _, i, _) => mL a i) (a, b, t, d, i, ()) Q) =
  (fork (decide (i < (↑(a.length) : Int))) (req (decide ((0 : Int) ≤ i ∧ i < (↑(a.length) : Int))) (req (decide ((0 : Int) ≤ i ∧ i < (↑(b.length) : Int))) (AV.agg [AV.str ((List.getD b (Int.toNat i) ([], (0 : Int), (0 :
 Int), (0 : Int), (0 : Int))).1), AV.int IntKind.i64 ((List.getD b (Int.toNat i) ([], (0 : Int), (0 : Int), (0 : Int), (0 : Int))).2.1), AV.int IntKind.i64 ((List.getD b (Int.toNat i) ([], (0 : Int), (0 : Int), (0 : Int),
 (0 : Int))).2.2.1), AV.int IntKind.i64 ((List.getD b (Int.toNat i) ([], (0 : Int), (0 : Int), (0 : Int), (0 : Int))).2.2.2.1), AV.int IntKind.i64 ((List.getD b (Int.toNat i) ([], (0 : Int), (0 : Int), (0 : Int), (0 :
 Int))).2.2.2.2)] = AV.agg [AV.str ((List.getD b (Int.toNat i) ([], (0 : Int), (0 : Int), (0 : Int), (0 : Int))).1), AV.int IntKind.i64 ((List.getD b (Int.toNat i) ([], (0 : Int), (0 : Int), (0 : Int), (0 : Int))).2.1),
 AV.int IntKind.i64 ((List.getD b (Int.toNat i) ([], (0 : Int), (0 : Int), (0 : Int), (0 : Int))).2.2.1), AV.int IntKind.i64 ((List.getD b (Int.toNat i) ([], (0 : Int), (0 : Int), (0 : Int), (0 : Int))).2.2.2.1), AV.int
 IntKind.i64 ((List.getD b (Int.toNat i) ([], (0 : Int), (0 : Int), (0 : Int), (0 : Int))).2.2.2.2)] ∧ AV.agg [AV.str ((List.getD a (Int.toNat i) ([], (0 : Int), (0 : Int), (0 : Int), (0 : Int))).1), AV.int IntKind.i64
 ((List.getD a (Int.toNat i) ([], (0 : Int), (0 : Int), (0 : Int), (0 : Int))).2.1), AV.int IntKind.i64 ((List.getD a (Int.toNat i) ([], (0 : Int), (0 : Int), (0 : Int), (0 : Int))).2.2.1), AV.int IntKind.i64 ((List.getD a
 (Int.toNat i) ([], (0 : Int), (0 : Int), (0 : Int), (0 : Int))).2.2.2.1), AV.int IntKind.i64 ((List.getD a (Int.toNat i) ([], (0 : Int), (0 : Int), (0 : Int), (0 : Int))).2.2.2.2)] = AV.agg [AV.str ((List.getD a
 (Int.toNat i) ([], (0 : Int), (0 : Int), (0 : Int), (0 : Int))).1), AV.int IntKind.i64 ((List.getD a (Int.toNat i) ([], (0 : Int), (0 : Int), (0 : Int), (0 : Int))).2.1), AV.int IntKind.i64 ((List.getD a (Int.toNat i)
 ([], (0 : Int), (0 : Int), (0 : Int), (0 : Int))).2.2.1), AV.int IntKind.i64 ((List.getD a (Int.toNat i) ([], (0 : Int), (0 : Int), (0 : Int), (0 : Int))).2.2.2.1), AV.int IntKind.i64 ((List.getD a (Int.toNat i) ([], (0 :
 Int), (0 : Int), (0 : Int), (0 : Int))).2.2.2.2)] ∧ AV.agg [AV.str ((List.getD b (Int.toNat i) ([], (0 : Int), (0 : Int), (0 : Int), (0 : Int))).1), AV.int IntKind.i64 ((List.getD b (Int.toNat i) ([], (0 : Int), (0 :
 Int), (0 : Int), (0 : Int))).2.1), AV.int IntKind.i64 ((List.getD b (Int.toNat i) ([], (0 : Int), (0 : Int), (0 : Int), (0 : Int))).2.2.1), AV.int IntKind.i64 ((List.getD b (Int.toNat i) ([], (0 : Int), (0 : Int), (0 :
 Int), (0 : Int))).2.2.2.1), AV.int IntKind.i64 ((List.getD b (Int.toNat i) ([], (0 : Int), (0 : Int), (0 : Int), (0 : Int))).2.2.2.2)] = AV.agg [AV.str ((List.getD b (Int.toNat i) ([], (0 : Int), (0 : Int), (0 : Int), (0
 : Int))).1), AV.int IntKind.i64 ((List.getD b (Int.toNat i) ([], (0 : Int), (0 : Int), (0 : Int), (0 : Int))).2.1), AV.int IntKind.i64 ((List.getD b (Int.toNat i) ([], (0 : Int), (0 : Int), (0 : Int), (0 : Int))).2.2.1),
 AV.int IntKind.i64 ((List.getD b (Int.toNat i) ([], (0 : Int), (0 : Int), (0 : Int), (0 : Int))).2.2.2.1), AV.int IntKind.i64 ((List.getD b (Int.toNat i) ([], (0 : Int), (0 : Int), (0 : Int), (0 : Int))).2.2.2.2)] ∧
 AV.agg [AV.str ((List.getD a (Int.toNat i) ([], (0 : Int), (0 : Int), (0 : Int), (0 : Int))).1), AV.int IntKind.i64 ((List.getD a (Int.toNat i) ([], (0 : Int), (0 : Int), (0 : Int), (0 : Int))).2.1), AV.int IntKind.i64
 ((List.getD a (Int.toNat i) ([], (0 : Int), (0 : Int), (0 : Int), (0 : Int))).2.2.1), AV.int IntKind.i64 ((List.getD a (Int.toNat i) ([], (0 : Int), (0 : Int), (0 : Int), (0 : Int))).2.2.2.1), AV.int IntKind.i64
 ((List.getD a (Int.toNat i) ([], (0 : Int), (0 : Int), (0 : Int), (0 : Int))).2.2.2.2)] = AV.agg [AV.str ((List.getD a (Int.toNat i) ([], (0 : Int), (0 : Int), (0 : Int), (0 : Int))).1), AV.int IntKind.i64 ((List.getD a
 (Int.toNat i) ([], (0 : Int), (0 : Int), (0 : Int), (0 : Int))).2.1), AV.int IntKind.i64 ((List.getD a (Int.toNat i) ([], (0 : Int), (0 : Int), (0 : Int), (0 : Int))).2.2.1), AV.int IntKind.i64 ((List.getD a (Int.toNat i)
 ([], (0 : Int), (0 : Int), (0 : Int), (0 : Int))).2.2.2.1), AV.int IntKind.i64 ((List.getD a (Int.toNat i) ([], (0 : Int), (0 : Int), (0 : Int), (0 : Int))).2.2.2.2)] ∧ AV.agg [AV.str ((List.getD b (Int.toNat i) ([], (0 :
 Int), (0 : Int), (0 : Int), (0 : Int))).1), AV.int IntKind.i64 ((List.getD b (Int.toNat i) ([], (0 : Int), (0 : Int), (0 : Int), (0 : Int))).2.1), AV.int IntKind.i64 ((List.getD b (Int.toNat i) ([], (0 : Int), (0 : Int),
 (0 : Int), (0 : Int))).2.2.1), AV.int IntKind.i64 ((List.getD b (Int.toNat i) ([], (0 : Int), (0 : Int), (0 : Int), (0 : Int))).2.2.2.1), AV.int IntKind.i64 ((List.getD b (Int.toNat i) ([], (0 : Int), (0 : Int), (0 :
 Int), (0 : Int))).2.2.2.2)] = AV.agg [AV.str ((List.getD b (Int.toNat i) ([], (0 : Int), (0 : Int), (0 : Int), (0 : Int))).1), AV.int IntKind.i64 ((List.getD b (Int.toNat i) ([], (0 : Int), (0 : Int), (0 : Int), (0 :
 Int))).2.1), AV.int IntKind.i64 ((List.getD b (Int.toNat i) ([], (0 : Int), (0 : Int), (0 : Int), (0 : Int))).2.2.1), AV.int IntKind.i64 ((List.getD b (Int.toNat i) ([], (0 : Int), (0 : Int), (0 : Int), (0 :
 Int))).2.2.2.1), AV.int IntKind.i64 ((List.getD b (Int.toNat i) ([], (0 : Int), (0 : Int), (0 : Int), (0 : Int))).2.2.2.2)] ∧ fork ((List.getD a (Int.toNat i) ([], (0 : Int), (0 : Int), (0 : Int), (0 : Int))).1 ==
 (List.getD b (Int.toNat i) ([], (0 : Int), (0 : Int), (0 : Int), (0 : Int))).1 && ((List.getD a (Int.toNat i) ([], (0 : Int), (0 : Int), (0 : Int), (0 : Int))).2.1 == (List.getD b (Int.toNat i) ([], (0 : Int), (0 : Int),
 (0 : Int), (0 : Int))).2.1 && ((List.getD a (Int.toNat i) ([], (0 : Int), (0 : Int), (0 : Int), (0 : Int))).2.2.1 == (List.getD b (Int.toNat i) ([], (0 : Int), (0 : Int), (0 : Int), (0 : Int))).2.2.1 && ((List.getD a
 (Int.toNat i) ([], (0 : Int), (0 : Int), (0 : Int), (0 : Int))).2.2.2.1 == (List.getD b (Int.toNat i) ([], (0 : Int), (0 : Int), (0 : Int), (0 : Int))).2.2.2.1 && ((List.getD a (Int.toNat i) ([], (0 : Int), (0 : Int), (0
 : Int), (0 : Int))).2.2.2.2 == (List.getD b (Int.toNat i) ([], (0 : Int), (0 : Int), (0 : Int), (0 : Int))).2.2.2.2 && true))))) (req (inR IntKind.i64 (i + 1)) (Go.P7.mL a (i + 1) < Go.P7.mL a i ∧ LC2.spec Go.P7.lc32 (a,
 b, t, d, i + 1, ()) Q)) (AV.int IntKind.i64 ((List.getD a (Int.toNat i) ([], (0 : Int), (0 : Int), (0 : Int), (0 : Int))).2.2.2.2) = AV.int IntKind.i64 ((List.getD a (Int.toNat i) ([], (0 : Int), (0 : Int), (0 : Int), (0
 : Int))).2.2.2.2) ∧ fork ((List.getD b (Int.toNat i) ([], (0 : Int), (0 : Int), (0 : Int), (0 : Int))).2.2.2.1 == (2 : Int)) (req (inR IntKind.i64 ((List.getD a (Int.toNat i) ([], (0 : Int), (0 : Int), (0 : Int), (0 :
 Int))).2.2.1 + t)) (fork ((List.getD b (Int.toNat i) ([], (0 : Int), (0 : Int), (0 : Int), (0 : Int))).2.2.2.1 == (3 : Int)) (req (inR IntKind.i64 ((List.getD a (Int.toNat i) ([], (0 : Int), (0 : Int), (0 : Int), (0 :
 Int))).2.2.1 + t)) (fork (!((List.getD b (Int.toNat i) ([], (0 : Int), (0 : Int), (0 : Int), (0 : Int))).1 == (List.getD a (Int.toNat i) ([], (0 : Int), (0 : Int), (0 : Int), (0 : Int))).1 && ((List.getD b (Int.toNat i)
 ([], (0 : Int), (0 : Int), (0 : Int), (0 : Int))).2.1 == (List.getD a (Int.toNat i) ([], (0 : Int), (0 : Int), (0 : Int), (0 : Int))).2.1 && ((List.getD b (Int.toNat i) ([], (0 : Int), (0 : Int), (0 : Int), (0 :
 Int))).2.2.1 == (List.getD a (Int.toNat i) ([], (0 : Int), (0 : Int), (0 : Int), (0 : Int))).2.2.1 && ((List.getD a (Int.toNat i) ([], (0 : Int), (0 : Int), (0 : Int), (0 : Int))).2.2.2.1 == (List.getD a (Int.toNat i)
 ([], (0 : Int), (0 : Int), (0 : Int), (0 : Int))).2.2.2.1 && ((List.getD a (Int.toNat i) ([], (0 : Int), (0 : Int), (0 : Int), (0 : Int))).2.2.2.2 == (List.getD a (Int.toNat i) ([], (0 : Int), (0 : Int), (0 : Int), (0 :
 Int))).2.2.2.2 && true)))))) (Q AX.ret (stS 0 SV.nil ())) (fork ((List.getD a (Int.toNat i) ([], (0 : Int), (0 : Int), (0 : Int), (0 : Int))).2.2.2.1 != (1 : Int)) (Q AX.ret (stS 0 SV.nil ())) (fork ((List.getD b
 (Int.toNat i) ([], (0 : Int), (0 : Int), (0 : Int), (0 : Int))).2.2.2.2 != d) (Q AX.ret (stS 0 SV.nil ())) (fork (!decide (d < (List.getD a (Int.toNat i) ([], (0 : Int), (0 : Int), (0 : Int), (0 : Int))).2.2.1 + t)) (fork
 (!decide (d ≥ (List.getD a (Int.toNat i) ([], (0 : Int), (0 : Int), (0 : Int), (0 : Int))).2.2.1 + t)) (Q AX.ret (stS 0 SV.nil ())) (req (inR IntKind.i64 (i + 1)) (Go.P7.mL a (i + 1) < Go.P7.mL a i ∧ LC2.spec Go.P7.lc32
 (a, b, t, d, i + 1, ()) Q))) (req (inR IntKind.i64 (i + 1)) (Go.P7.mL a (i + 1) < Go.P7.mL a i ∧ LC2.spec Go.P7.lc32 (a, b, t, d, i + 1, ()) Q))))))) (fork (!((List.getD b (Int.toNat i) ([], (0 : Int), (0 : Int), (0 :
 Int), (0 : Int))).1 == (List.getD a (Int.toNat i) ([], (0 : Int), (0 : Int), (0 : Int), (0 : Int))).1 && ((List.getD b (Int.toNat i) ([], (0 : Int), (0 : Int), (0 : Int), (0 : Int))).2.1 == (List.getD a (Int.toNat i) ([],
 (0 : Int), (0 : Int), (0 : Int), (0 : Int))).2.1 && ((List.getD b (Int.toNat i) ([], (0 : Int), (0 : Int), (0 : Int), (0 : Int))).2.2.1 == (List.getD a (Int.toNat i) ([], (0 : Int), (0 : Int), (0 : Int), (0 : Int))).2.2.1
 && ((List.getD a (Int.toNat i) ([], (0 : Int), (0 : Int), (0 : Int), (0 : Int))).2.2.2.1 == (List.getD a (Int.toNat i) ([], (0 : Int), (0 : Int), (0 : Int), (0 : Int))).2.2.2.1 && ((List.getD a (Int.toNat i) ([], (0 :
 Int), (0 : Int), (0 : Int), (0 : Int))).2.2.2.2 == (List.getD a (Int.toNat i) ([], (0 : Int), (0 : Int), (0 : Int), (0 : Int))).2.2.2.2 && true)))))) (Q AX.ret (stS 0 SV.nil ())) (fork ((List.getD a (Int.toNat i) ([], (0
 : Int), (0 : Int), (0 : Int), (0 : Int))).2.2.2.1 != (1 : Int)) (Q AX.ret (stS 0 SV.nil ())) (fork ((List.getD b (Int.toNat i) ([], (0 : Int), (0 : Int), (0 : Int), (0 : Int))).2.2.2.2 != d) (Q AX.ret (stS 0 SV.nil ()))
 (fork (!decide (d < (List.getD a (Int.toNat i) ([], (0 : Int), (0 : Int), (0 : Int), (0 : Int))).2.2.1 + t)) (Q AX.ret (stS 0 SV.nil ())) (req (inR IntKind.i64 (i + 1)) (Go.P7.mL a (i + 1) < Go.P7.mL a i ∧ LC2.spec
 Go.P7.lc32 (a, b, t, d, i + 1, ()) Q)))))))) (fork ((List.getD b (Int.toNat i) ([], (0 : Int), (0 : Int), (0 : Int), (0 : Int))).2.2.2.1 == (3 : Int)) (req (inR IntKind.i64 ((List.getD a (Int.toNat i) ([], (0 : Int), (0 :
 Int), (0 : Int), (0 : Int))).2.2.1 + t)) (fork (!((List.getD b (Int.toNat i) ([], (0 : Int), (0 : Int), (0 : Int), (0 : Int))).1 == (List.getD a (Int.toNat i) ([], (0 : Int), (0 : Int), (0 : Int), (0 : Int))).1 &&
 ((List.getD b (Int.toNat i) ([], (0 : Int), (0 : Int), (0 : Int), (0 : Int))).2.1 == (List.getD a (Int.toNat i) ([], (0 : Int), (0 : Int), (0 : Int), (0 : Int))).2.1 && ((List.getD b (Int.toNat i) ([], (0 : Int), (0 :
 Int), (0 : Int), (0 : Int))).2.2.1 == (List.getD a (Int.toNat i) ([], (0 : Int), (0 : Int), (0 : Int), (0 : Int))).2.2.1 && ((List.getD a (Int.toNat i) ([], (0 : Int), (0 : Int), (0 : Int), (0 : Int))).2.2.2.1 ==
 (List.getD a (Int.toNat i) ([], (0 : Int), (0 : Int), (0 : Int), (0 : Int))).2.2.2.1 && ((List.getD a (Int.toNat i) ([], (0 : Int), (0 : Int), (0 : Int), (0 : Int))).2.2.2.2 == (List.getD a (Int.toNat i) ([], (0 : Int),
 (0 : Int), (0 : Int), (0 : Int))).2.2.2.2 && true)))))) (Q AX.ret (stS 0 SV.nil ())) (fork ((List.getD a (Int.toNat i) ([], (0 : Int), (0 : Int), (0 : Int), (0 : Int))).2.2.2.1 != (1 : Int)) (Q AX.ret (stS 0 SV.nil ()))
 (fork ((List.getD b (Int.toNat i) ([], (0 : Int), (0 : Int), (0 : Int), (0 : Int))).2.2.2.2 != d) (Q AX.ret (stS 0 SV.nil ())) (fork (!decide (d ≥ (List.getD a (Int.toNat i) ([], (0 : Int), (0 : Int), (0 : Int), (0 :
 Int))).2.2.1 + t)) (Q AX.ret (stS 0 SV.nil ())) (req (inR IntKind.i64 (i + 1)) (Go.P7.mL a (i + 1) < Go.P7.mL a i ∧ LC2.spec Go.P7.lc32 (a, b, t, d, i + 1, ()) Q))))))) (fork (!((List.getD b (Int.toNat i) ([], (0 : Int),
 (0 : Int), (0 : Int), (0 : Int))).1 == (List.getD a (Int.toNat i) ([], (0 : Int), (0 : Int), (0 : Int), (0 : Int))).1 && ((List.getD b (Int.toNat i) ([], (0 : Int), (0 : Int), (0 : Int), (0 : Int))).2.1 == (List.getD a
 (Int.toNat i) ([], (0 : Int), (0 : Int), (0 : Int), (0 : Int))).2.1 && ((List.getD b (Int.toNat i) ([], (0 : Int), (0 : Int), (0 : Int), (0 : Int))).2.2.1 == (List.getD a (Int.toNat i) ([], (0 : Int), (0 : Int), (0 :
 Int), (0 : Int))).2.2.1 && ((List.getD a (Int.toNat i) ([], (0 : Int), (0 : Int), (0 : Int), (0 : Int))).2.2.2.1 == (List.getD a (Int.toNat i) ([], (0 : Int), (0 : Int), (0 : Int), (0 : Int))).2.2.2.1 && ((List.getD a
 (Int.toNat i) ([], (0 : Int), (0 : Int), (0 : Int), (0 : Int))).2.2.2.2 == (List.getD a (Int.toNat i) ([], (0 : Int), (0 : Int), (0 : Int), (0 : Int))).2.2.2.2 && true)))))) (Q AX.ret (stS 0 SV.nil ())) (fork ((List.getD
 a (Int.toNat i) ([], (0 : Int), (0 : Int), (0 : Int), (0 : Int))).2.2.2.1 != (1 : Int)) (Q AX.ret (stS 0 SV.nil ())) (fork ((List.getD b (Int.toNat i) ([], (0 : Int), (0 : Int), (0 : Int), (0 : Int))).2.2.2.2 != d) (Q
 AX.ret (stS 0 SV.nil ())) (Q AX.ret (stS 0 SV.nil ())))))))))) (Q (AX.exit 0) (stS 0 SV.nil ()))) := by kernel_rfl
abbrev fcSteady : FC := ⟨[.v LSu, .v LSu, .v I, .v I], [.b], fun x K => stepsS x.1 x.2.1 x.2.2.1 x.2.2.2.1 ∧ K (true, ())⟩
theorem v32F (a b : List Su) (t d : Int) (K : dens [.b] → Prop) : (xfn1 Try.prog { l2 := [(32, 0, lc32)] } 5 32 fcSteady (a, b, t, d, ()) K) =
  ((Go.P7.stepsS a b t d ∧ (0 : SV.den (SV.slot 9 (SV.v Go.P7.I))) ≤ (0 : Int) ∧ (0 : Int) ≤ (↑(a.length) : SV.den (SV.slot 9 (SV.v Go.P7.I)))) ∧ K (true, ())) := by kernel_rfl
abbrev bkT : SV := A [.v I, .v I, .v I, .v I]
abbrev sh10 : SV := S [(0, .v I), (1, .v LAc), (5, .box 0 (purC 2 3)), (7, .box 4 bkT), (8, .v LSu), (9, .v I)]
abbrev sh10b : SV := S [(0, .v I), (1, .v LAc), (5, .box 0 (purC 2 3)), (7, .box 4 bkT), (8, .v LSu), (9, .v I), (10, .v LPo), (14, .v I)]
def leftN (os : List Po) : Int := (os.map (·.2.2)).sum
abbrev lc10b : LC2 := ⟨0, sh10b, 5, fun (tm, l, pu, (b0, b1, b2, b3, _), bf, i, os, k, _) Q => (0 ≤ k ∧ k ≤ os.length ∧ os.length ≤ 8 ∧ (∀ o ∈ os, 0 ≤ o.2.2 ∧ o.2.2 ≤ 67108864) ∧ 0 ≤ b0 ∧ b0 ≤ 68719476736 + k * 67108864) ∧
  ∀ b : Int, b = b0 + leftN (os.drop k.toNat) → Q (.exit 3) (stS 5 sh10 (tm, l, pu, (b, b1, b2, b3, ()), bf, i, ()))⟩
theorem v10B (tm : Int) (l : List Ac) (ss : List Su) (ns : List Nt) (dy wf t : Int) (m : List (Tx × Int)) (b : Bool) (b0 b1 b2 b3 : Int) (bf : List Su) (i : Int) (os : List Po) (k : Int) (Q : AX → St → Prop) : (xloop2 Try.prog {} 5 10 1 lc10b (fun _ => some (sh10, 5)) (fun (_, _, _, _, _, _, os, k, _) => mL os k) (tm, l, (ss, ns, dy, wf, t, m, b, ()), (b0, b1, b2, b3, ()), bf, i, os, k, ()) Q) =
  (fork (decide (k < (↑(os.length) : Int))) (req (decide ((0 : Int) ≤ k ∧ k < (↑(os.length) : Int))) (req (inR IntKind.i64 (b0 + (List.getD os (Int.toNat k) ((0 : Int), [], (0 : Int))).2.2)) (req (inR IntKind.i64 (k + 1))
 (req (decide (0 + ss.length ≤ ss.length)) (req (decide (0 + ns.length ≤ ns.length)) (Go.P7.mL os (k + 1) < Go.P7.mL os k ∧ LC2.spec Go.P7.lc10b (tm, l, (seg 0 (ss.length) ss, seg 0 (ns.length) ns, dy, wf, t, m, b, ()),
 (b0 + (List.getD os (Int.toNat k) ((0 : Int), [], (0 : Int))).2.2, b1, b2, b3, ()), bf, i, os, k + 1, ()) Q)))))) (req (decide (0 + ss.length ≤ ss.length)) (req (decide (0 + ns.length ≤ ns.length)) (Q (AX.exit 3) (stS 5
 Go.P7.sh10 (tm, l, (seg 0 (ss.length) ss, seg 0 (ns.length) ns, dy, wf, t, m, b, ()), (b0, b1, b2, b3, ()), bf, i, ())))))) := by kernel_rfl
structure booksOk (s : PS) (b0 b1 b2 b3 i : Int) : Prop where
  sum : b0 = b1 + waitsN s.2.2.2.1 + s.2.1 + b3
  passed : b2 = s.2.1 + b3
  pos : 0 ≤ b1 ∧ 0 ≤ b3
  room : b0 ≤ i * 536870912
def sameL (a b : List Su) : Prop := a = b
abbrev lc10 : LC2 := ⟨0, sh10, 5, fun (tm, l, (ss, ns, dy, wf, t, m, b, _), (b0, b1, b2, b3, _), bf, i, _) Q => (okP (dy, wf, t, ss, ns) ∧ b = true ∧ mapS m ss ∧ tm = t ∧ sameL bf ss ∧ booksOk (dy, wf, t, ss, ns) b0 b1 b2 b3 i ∧ okLA l ∧ 0 ≤ i ∧ i ≤ 60 ∧ (ns.length : Int) ≤ i) ∧
  Q (.exit 0) (stS 0 .nil ())⟩
theorem v10L (ss : List Su) (ns : List Nt) (dy wf t : Int) (m : List (Tx × Int)) (l : List Ac) (b0 b1 b2 b3 i : Int) (Q : AX → St → Prop) : (xloop2 Try.prog { nm := true, f := [(32, fcSteady), (23, fcSum)], f2 := [(30, fcDone), (31, fcSus), (33, fcHolds)], l2 := [(10, 1, lc10b)] } 5 10 0 lc10 (fun _ => some (.nil, 0)) (fun (_, _, _, _, _, i, _) => (60 - i).toNat) (t, l, (ss, ns, dy, wf, t, m, true, ()), (b0, b1, b2, b3, ()), ss, i, ()) Q) =
  (fork (decide (i < (↑(l.length) : Int))) (fork (decide (i < (60 : Int))) (req (decide ((0 : Int) ≤ i ∧ i < (↑(l.length) : Int))) (req (decide (0 + ss.length ≤ ss.length)) (req (decide (0 + ns.length ≤ ns.length))
 ((Go.P7.okP (dy, wf, t, seg 0 (ss.length) ss, seg 0 (ns.length) ns) ∧ true = true ∧ Go.P7.roomN (seg 0 (ns.length) ns) ∧ Go.P7.mapS m (seg 0 (ss.length) ss) ∧ Go.P7.okA (List.getD l (Int.toNat i) ((0 : Int), (0 : Int), (0
 : Int), [], [], []))) ∧ ∀ (ss1 : List Go.P7.Su) (ns1 : List Go.P7.Nt) (dy1 wf1 : Int) (m1 : List (Go.P7.Tx × Int)) (os : List Go.P7.Po) (l_1 : List Int) (e : Int), ((dy1, wf1, t, ss1, ns1), os, l_1, e) = Go.P7.actI (dy,
 wf, t, seg 0 (ss.length) ss, seg 0 (ns.length) ns) (List.getD l (Int.toNat i) ((0 : Int), (0 : Int), (0 : Int), [], [], [])) → Go.P7.mapS m1 ss1 → req (decide (0 + ss1.length ≤ ss1.length)) (req (decide (0 + ns1.length ≤
 ns1.length)) (List.length (seg 0 (ss1.length) ss1) ≤ 1000 ∧ ∀ (l_2 : List Go.P7.Su), l_2 = seg 0 (ss1.length) ss1 → fork (decide ((↑(l_2.length) : Int) < (↑(ss.length) : Int))) (Q AX.ret (stS 0 SV.nil ())) (req (decide
 ((0 : Int) ≤ i ∧ i < (↑(l.length) : Int))) (Go.P7.stepsS ss l_2 t ((List.getD l (Int.toNat i) ((0 : Int), (0 : Int), (0 : Int), [], [], [])).2.1) ∧ fork (e != (0 : Int)) (req (inR IntKind.i64 (i + 1)) (req (decide (0 +
 List.length (seg 0 (ss1.length) ss1) ≤ List.length (seg 0 (ss1.length) ss1))) (req (decide (0 + List.length (seg 0 (ns1.length) ns1) ≤ List.length (seg 0 (ns1.length) ns1))) (Int.toNat ((60 : SV.den (SV.slot 9 (SV.v
 Go.P7.I))) - (i + 1)) < Int.toNat ((60 : SV.den (SV.slot 9 (SV.v Go.P7.I))) - i) ∧ LC2.spec Go.P7.lc10 (t, l, (seg 0 (List.length (seg 0 (ss1.length) ss1)) (seg 0 (ss1.length) ss1), seg 0 (List.length (seg 0 (ns1.length)
 ns1)) (seg 0 (ns1.length) ns1), dy1, wf1, t, m1, true, ()), (b0, b1, b2, b3, ()), l_2, i + 1, ()) Q)))) (req (decide ((0 : Int) ≤ i ∧ i < (↑(l.length) : Int))) (fork ((List.getD l (Int.toNat i) ((0 : Int), (0 : Int), (0 :
 Int), [], [], [])).1 == (1 : Int)) (req (decide (0 + List.length (seg 0 (ss1.length) ss1) ≤ List.length (seg 0 (ss1.length) ss1))) (req (decide (0 + List.length (seg 0 (ns1.length) ns1) ≤ List.length (seg 0 (ns1.length)
 ns1))) (((0 : SV.den (SV.slot 14 (SV.v Go.P7.I))) ≤ (0 : Int) ∧ (0 : Int) ≤ (↑(os.length) : SV.den (SV.slot 14 (SV.v Go.P7.I))) ∧ os.length ≤ 8 ∧ (∀ (o : Ty.den Go.P7.TPo), o ∈ os → (0 : Ty.den Go.P7.I) ≤ o.2.2 ∧ o.2.2 ≤
 (67108864 : Ty.den Go.P7.I)) ∧ (0 : SV.den (SV.v Go.P7.I)) ≤ b0 ∧ b0 ≤ (68719476736 : SV.den (SV.v Go.P7.I)) + 0 * (67108864 : SV.den (SV.v Go.P7.I))) ∧ ∀ (b : Int), b = b0 + Go.P7.leftN (List.drop 0 os) → req (decide (0
 + List.length (seg 0 (List.length (seg 0 (ss1.length) ss1)) (seg 0 (ss1.length) ss1)) ≤ List.length (seg 0 (List.length (seg 0 (ss1.length) ss1)) (seg 0 (ss1.length) ss1)))) (req (decide (0 + List.length (seg 0
 (List.length (seg 0 (ns1.length) ns1)) (seg 0 (ns1.length) ns1)) ≤ List.length (seg 0 (List.length (seg 0 (ns1.length) ns1)) (seg 0 (ns1.length) ns1)))) ((Go.P7.okP (dy1, wf1, t, seg 0 (List.length (seg 0 (List.length
 (seg 0 (ss1.length) ss1)) (seg 0 (ss1.length) ss1))) (seg 0 (List.length (seg 0 (ss1.length) ss1)) (seg 0 (ss1.length) ss1)), seg 0 (List.length (seg 0 (List.length (seg 0 (ns1.length) ns1)) (seg 0 (ns1.length) ns1)))
 (seg 0 (List.length (seg 0 (ns1.length) ns1)) (seg 0 (ns1.length) ns1))) ∧ true = true) ∧ ∀ (w : Int), w = Go.P7.waitsN (seg 0 (List.length (seg 0 (List.length (seg 0 (ss1.length) ss1)) (seg 0 (ss1.length) ss1))) (seg 0
 (List.length (seg 0 (ss1.length) ss1)) (seg 0 (ss1.length) ss1))) → req (inR IntKind.i64 (b1 + w)) (req (inR IntKind.i64 (b1 + w + wf1)) (req (inR IntKind.i64 (b1 + w + wf1 + b3)) (fork (b != b1 + w + wf1 + b3) (Q AX.ret
 (stS 0 SV.nil ())) (req (inR IntKind.i64 (wf1 + b3)) (fork (b2 != wf1 + b3) (Q AX.ret (stS 0 SV.nil ())) (req (inR IntKind.i64 (i + 1)) (req (decide (0 + List.length (seg 0 (List.length (seg 0 (List.length (seg 0
 (ss1.length) ss1)) (seg 0 (ss1.length) ss1))) (seg 0 (List.length (seg 0 (ss1.length) ss1)) (seg 0 (ss1.length) ss1))) ≤ List.length (seg 0 (List.length (seg 0 (List.length (seg 0 (ss1.length) ss1)) (seg 0 (ss1.length)
 ss1))) (seg 0 (List.length (seg 0 (ss1.length) ss1)) (seg 0 (ss1.length) ss1))))) (req (decide (0 + List.length (seg 0 (List.length (seg 0 (List.length (seg 0 (ns1.length) ns1)) (seg 0 (ns1.length) ns1))) (seg 0
 (List.length (seg 0 (ns1.length) ns1)) (seg 0 (ns1.length) ns1))) ≤ List.length (seg 0 (List.length (seg 0 (List.length (seg 0 (ns1.length) ns1)) (seg 0 (ns1.length) ns1))) (seg 0 (List.length (seg 0 (ns1.length) ns1))
 (seg 0 (ns1.length) ns1))))) (Int.toNat ((60 : SV.den (SV.slot 9 (SV.v Go.P7.I))) - (i + 1)) < Int.toNat ((60 : SV.den (SV.slot 9 (SV.v Go.P7.I))) - i) ∧ LC2.spec Go.P7.lc10 (t, l, (seg 0 (List.length (seg 0 (List.length
 (seg 0 (List.length (seg 0 (ss1.length) ss1)) (seg 0 (ss1.length) ss1))) (seg 0 (List.length (seg 0 (ss1.length) ss1)) (seg 0 (ss1.length) ss1)))) (seg 0 (List.length (seg 0 (List.length (seg 0 (ss1.length) ss1)) (seg 0
 (ss1.length) ss1))) (seg 0 (List.length (seg 0 (ss1.length) ss1)) (seg 0 (ss1.length) ss1))), seg 0 (List.length (seg 0 (List.length (seg 0 (List.length (seg 0 (ns1.length) ns1)) (seg 0 (ns1.length) ns1))) (seg 0
 (List.length (seg 0 (ns1.length) ns1)) (seg 0 (ns1.length) ns1)))) (seg 0 (List.length (seg 0 (List.length (seg 0 (ns1.length) ns1)) (seg 0 (ns1.length) ns1))) (seg 0 (List.length (seg 0 (ns1.length) ns1)) (seg 0
 (ns1.length) ns1))), dy1, wf1, t, m1, true, ()), (b, b1, b2, b3, ()), l_2, i + 1, ()) Q)))))))))))))) (fork ((List.getD l (Int.toNat i) ((0 : Int), (0 : Int), (0 : Int), [], [], [])).1 == (2 : Int)) ((l_1.length ≤
 9223372036854775807 ∧ Go.P7.fitS (0 : Int) l_1) ∧ AV.int IntKind.i64 b1 = AV.int IntKind.i64 b1 ∧ req (inR IntKind.i64 (b1 + List.sum l_1)) (req (decide (0 + List.length (seg 0 (ss1.length) ss1) ≤ List.length (seg 0
 (ss1.length) ss1))) (req (decide (0 + List.length (seg 0 (ns1.length) ns1) ≤ List.length (seg 0 (ns1.length) ns1))) ((Go.P7.okP (dy1, wf1, t, seg 0 (List.length (seg 0 (ss1.length) ss1)) (seg 0 (ss1.length) ss1), seg 0
 (List.length (seg 0 (ns1.length) ns1)) (seg 0 (ns1.length) ns1)) ∧ true = true) ∧ ∀ (w : Int), w = Go.P7.waitsN (seg 0 (List.length (seg 0 (ss1.length) ss1)) (seg 0 (ss1.length) ss1)) → req (inR IntKind.i64 (b1 + List.sum
 l_1 + w)) (req (inR IntKind.i64 (b1 + List.sum l_1 + w + wf1)) (req (inR IntKind.i64 (b1 + List.sum l_1 + w + wf1 + b3)) (fork (b0 != b1 + List.sum l_1 + w + wf1 + b3) (Q AX.ret (stS 0 SV.nil ())) (req (inR IntKind.i64
 (wf1 + b3)) (fork (b2 != wf1 + b3) (Q AX.ret (stS 0 SV.nil ())) (req (inR IntKind.i64 (i + 1)) (req (decide (0 + List.length (seg 0 (List.length (seg 0 (ss1.length) ss1)) (seg 0 (ss1.length) ss1)) ≤ List.length (seg 0
 (List.length (seg 0 (ss1.length) ss1)) (seg 0 (ss1.length) ss1)))) (req (decide (0 + List.length (seg 0 (List.length (seg 0 (ns1.length) ns1)) (seg 0 (ns1.length) ns1)) ≤ List.length (seg 0 (List.length (seg 0
 (ns1.length) ns1)) (seg 0 (ns1.length) ns1)))) (Int.toNat ((60 : SV.den (SV.slot 9 (SV.v Go.P7.I))) - (i + 1)) < Int.toNat ((60 : SV.den (SV.slot 9 (SV.v Go.P7.I))) - i) ∧ LC2.spec Go.P7.lc10 (t, l, (seg 0 (List.length
 (seg 0 (List.length (seg 0 (ss1.length) ss1)) (seg 0 (ss1.length) ss1))) (seg 0 (List.length (seg 0 (ss1.length) ss1)) (seg 0 (ss1.length) ss1)), seg 0 (List.length (seg 0 (List.length (seg 0 (ns1.length) ns1)) (seg 0
 (ns1.length) ns1))) (seg 0 (List.length (seg 0 (ns1.length) ns1)) (seg 0 (ns1.length) ns1)), dy1, wf1, t, m1, true, ()), (b0, b1 + List.sum l_1, b2, b3, ()), l_2, i + 1, ()) Q))))))))))))) (fork ((List.getD l (Int.toNat
 i) ((0 : Int), (0 : Int), (0 : Int), [], [], [])).1 == (3 : Int)) ((l_1.length ≤ 9223372036854775807 ∧ Go.P7.fitS (0 : Int) l_1) ∧ AV.int IntKind.i64 b2 = AV.int IntKind.i64 b2 ∧ req (inR IntKind.i64 (b2 + List.sum l_1))
 (req (decide (0 + List.length (seg 0 (ss1.length) ss1) ≤ List.length (seg 0 (ss1.length) ss1))) (req (decide (0 + List.length (seg 0 (ns1.length) ns1) ≤ List.length (seg 0 (ns1.length) ns1))) ((Go.P7.okP (dy1, wf1, t, seg
 0 (List.length (seg 0 (ss1.length) ss1)) (seg 0 (ss1.length) ss1), seg 0 (List.length (seg 0 (ns1.length) ns1)) (seg 0 (ns1.length) ns1)) ∧ true = true) ∧ ∀ (w : Int), w = Go.P7.waitsN (seg 0 (List.length (seg 0
 (ss1.length) ss1)) (seg 0 (ss1.length) ss1)) → req (inR IntKind.i64 (b1 + w)) (req (inR IntKind.i64 (b1 + w + wf1)) (req (inR IntKind.i64 (b1 + w + wf1 + b3)) (fork (b0 != b1 + w + wf1 + b3) (Q AX.ret (stS 0 SV.nil ()))
 (req (inR IntKind.i64 (wf1 + b3)) (fork (b2 + List.sum l_1 != wf1 + b3) (Q AX.ret (stS 0 SV.nil ())) (req (inR IntKind.i64 (i + 1)) (req (decide (0 + List.length (seg 0 (List.length (seg 0 (ss1.length) ss1)) (seg 0
 (ss1.length) ss1)) ≤ List.length (seg 0 (List.length (seg 0 (ss1.length) ss1)) (seg 0 (ss1.length) ss1)))) (req (decide (0 + List.length (seg 0 (List.length (seg 0 (ns1.length) ns1)) (seg 0 (ns1.length) ns1)) ≤
 List.length (seg 0 (List.length (seg 0 (ns1.length) ns1)) (seg 0 (ns1.length) ns1)))) (Int.toNat ((60 : SV.den (SV.slot 9 (SV.v Go.P7.I))) - (i + 1)) < Int.toNat ((60 : SV.den (SV.slot 9 (SV.v Go.P7.I))) - i) ∧ LC2.spec
 Go.P7.lc10 (t, l, (seg 0 (List.length (seg 0 (List.length (seg 0 (ss1.length) ss1)) (seg 0 (ss1.length) ss1))) (seg 0 (List.length (seg 0 (ss1.length) ss1)) (seg 0 (ss1.length) ss1)), seg 0 (List.length (seg 0
 (List.length (seg 0 (ns1.length) ns1)) (seg 0 (ns1.length) ns1))) (seg 0 (List.length (seg 0 (ns1.length) ns1)) (seg 0 (ns1.length) ns1)), dy1, wf1, t, m1, true, ()), (b0, b1, b2 + List.sum l_1, b3, ()), l_2, i + 1, ())
 Q))))))))))))) ((l_1.length ≤ 9223372036854775807 ∧ Go.P7.fitS (0 : Int) l_1) ∧ AV.int IntKind.i64 b3 = AV.int IntKind.i64 b3 ∧ req (inR IntKind.i64 (b3 + List.sum l_1)) (req (decide (0 + List.length (seg 0 (ss1.length)
 ss1) ≤ List.length (seg 0 (ss1.length) ss1))) (req (decide (0 + List.length (seg 0 (ns1.length) ns1) ≤ List.length (seg 0 (ns1.length) ns1))) ((Go.P7.okP (dy1, wf1, t, seg 0 (List.length (seg 0 (ss1.length) ss1)) (seg 0
 (ss1.length) ss1), seg 0 (List.length (seg 0 (ns1.length) ns1)) (seg 0 (ns1.length) ns1)) ∧ true = true) ∧ ∀ (w : Int), w = Go.P7.waitsN (seg 0 (List.length (seg 0 (ss1.length) ss1)) (seg 0 (ss1.length) ss1)) → req (inR
 IntKind.i64 (b1 + w)) (req (inR IntKind.i64 (b1 + w + wf1)) (req (inR IntKind.i64 (b1 + w + wf1 + (b3 + List.sum l_1))) (fork (b0 != b1 + w + wf1 + (b3 + List.sum l_1)) (Q AX.ret (stS 0 SV.nil ())) (req (inR IntKind.i64
 (wf1 + (b3 + List.sum l_1))) (fork (b2 != wf1 + (b3 + List.sum l_1)) (Q AX.ret (stS 0 SV.nil ())) (req (inR IntKind.i64 (i + 1)) (req (decide (0 + List.length (seg 0 (List.length (seg 0 (ss1.length) ss1)) (seg 0
 (ss1.length) ss1)) ≤ List.length (seg 0 (List.length (seg 0 (ss1.length) ss1)) (seg 0 (ss1.length) ss1)))) (req (decide (0 + List.length (seg 0 (List.length (seg 0 (ns1.length) ns1)) (seg 0 (ns1.length) ns1)) ≤
 List.length (seg 0 (List.length (seg 0 (ns1.length) ns1)) (seg 0 (ns1.length) ns1)))) (Int.toNat ((60 : SV.den (SV.slot 9 (SV.v Go.P7.I))) - (i + 1)) < Int.toNat ((60 : SV.den (SV.slot 9 (SV.v Go.P7.I))) - i) ∧ LC2.spec
 Go.P7.lc10 (t, l, (seg 0 (List.length (seg 0 (List.length (seg 0 (ss1.length) ss1)) (seg 0 (ss1.length) ss1))) (seg 0 (List.length (seg 0 (ss1.length) ss1)) (seg 0 (ss1.length) ss1)), seg 0 (List.length (seg 0
 (List.length (seg 0 (ns1.length) ns1)) (seg 0 (ns1.length) ns1))) (seg 0 (List.length (seg 0 (ns1.length) ns1)) (seg 0 (ns1.length) ns1)), dy1, wf1, t, m1, true, ()), (b0, b1, b2, b3 + List.sum l_1, ()), l_2, i + 1, ())
 Q))))))))))))))))))))))))) (Q (AX.exit 0) (stS 0 SV.nil ()))) (Q (AX.exit 0) (stS 0 SV.nil ()))) := by kernel_rfl
abbrev fcOnce : FC := ⟨[.v I, .v LAc], [.b], fun x K => okLA x.2.1 ∧ K (true, ())⟩
theorem v10F (t : Int) (l : List Ac) (K : dens [.b] → Prop) : (xfn1 Try.prog { f := [(19, fcWorks)], l2 := [(10, 0, lc10)] } 6 10 fcOnce (t, l, ()) K) =
  (fork (decide (t ≥ (0 : Int))) (fork (!decide (t ≤ (12000 : Int))) (K (true, ())) ((Go.P7.okP ((0 : Int), (0 : Int), t, [], []) ∧ true = true ∧ Go.P7.mapS [] [] ∧ t = t ∧ Go.P7.sameL [] [] ∧ Go.P7.booksOk ((0 : Int), (0 :
 Int), t, [], []) (0 : Int) (0 : Int) (0 : Int) (0 : Int) (0 : Int) ∧ Go.P7.okLA l ∧ (0 : SV.den (SV.slot 9 (SV.v Go.P7.I))) ≤ (0 : Int) ∧ (0 : Int) ≤ (60 : SV.den (SV.slot 9 (SV.v Go.P7.I))) ∧ (0 : Int) ≤ (0 : Int)) ∧ K
 (true, ()))) (K (true, ()))) := by kernel_rfl
end Go.P7
