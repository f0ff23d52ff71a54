/- Purses: what can be asked of a purse, and acts of the statements: states and what is to be shown, reduced. No conditions. -/
import Derived.Test.YtnjaebjhfilljaaActS
set_option linter.unusedSimpArgs false
set_option linter.unusedVariables false
set_option linter.constructorNameAsVariable false
set_option maxRecDepth 100000
set_option maxHeartbeats 2000000
namespace Go.P7
open Go.Lom Go.Proofs Go

abbrev LSu : Ty := .sl TSu
abbrev LNt : Ty := .sl TNt
abbrev fcClS : FC2 := ⟨A [.lst 0 TSu], 1, A [.lst 0 TSu, .own 1 TSu], 2, fun x K => x.1.length ≤ 1000 ∧ K (x.1, x.1, ())⟩
theorem v62F (l : List Su) (K : fcClS.post.den → Prop) : (xfn2 Try.prog {} 5 62 fcClS (l, ()) K) =
  (∀ (b : Bool), (b = true → l.length = 0) → fork b (req (decide (l.length = l.length)) (K (l, [], ()))) (req (decide (0 + l.length ≤ l.length)) (req (fitsN (0 + List.length (seg 0 (l.length) l)) 48) (req (decide (l.length
 = l.length)) (req (decide (0 + (0 + List.length (seg 0 (l.length) l)) ≤ List.length ([] ++ seg 0 (l.length) l))) (K (l, seg 0 (0 + List.length (seg 0 (l.length) l)) ([] ++ seg 0 (l.length) l), ()))))))) := by kernel_rfl
abbrev fcClN : FC2 := ⟨A [.lst 0 TNt], 1, A [.lst 0 TNt, .own 1 TNt], 2, fun x K => x.1.length ≤ 1000 ∧ K (x.1, x.1, ())⟩
theorem v63F (l : List Nt) (K : fcClN.post.den → Prop) : (xfn2 Try.prog {} 5 63 fcClN (l, ()) K) =
  (∀ (b : Bool), (b = true → l.length = 0) → fork b (req (decide (l.length = l.length)) (K (l, [], ()))) (req (decide (0 + l.length ≤ l.length)) (req (fitsN (0 + List.length (seg 0 (l.length) l)) 24) (req (decide (l.length
 = l.length)) (req (decide (0 + (0 + List.length (seg 0 (l.length) l)) ≤ List.length ([] ++ seg 0 (l.length) l))) (K (l, seg 0 (0 + List.length (seg 0 (l.length) l)) ([] ++ seg 0 (l.length) l), ()))))))) := by kernel_rfl
abbrev fcSus : FC2 := ⟨A [.box 0 (purC 2 3)], 4, A [.box 0 (purC 4 5), .v LSu], 6, fun ((ss, ns, dy, wf, t, m, rdy, _), _) K => ss.length ≤ 1000 ∧
  ∀ l : List Su, l = ss → K ((ss, ns, dy, wf, t, m, rdy, ()), l, ())⟩
theorem v31F (ss : List Su) (ns : List Nt) (dy wf t : Int) (m : List (Tx × Int)) (b : Bool) (K : fcSus.post.den → Prop) : (xfn2 Try.prog { f2 := [(62, fcClS)] } 5 31 fcSus ((ss, ns, dy, wf, t, m, b, ()), ()) K) =
  (req (decide (ss.length = ss.length)) (ss.length ≤ 1000 ∧ req (decide (0 + ss.length ≤ ss.length)) (req (decide (0 + ns.length ≤ ns.length)) (req (decide (0 + ss.length ≤ ss.length)) (K ((seg 0 (ss.length) ss, seg 0
 (ns.length) ns, dy, wf, t, m, b, ()), seg 0 (ss.length) ss, ())))))) := by kernel_rfl
abbrev fcNts : FC2 := ⟨A [.box 0 (purC 2 3)], 4, A [.box 0 (purC 4 5), .v LNt], 6, fun ((ss, ns, dy, wf, t, m, rdy, _), _) K => ns.length ≤ 1000 ∧
  ∀ l : List Nt, l = ns → K ((ss, ns, dy, wf, t, m, rdy, ()), l, ())⟩
theorem v34F (ss : List Su) (ns : List Nt) (dy wf t : Int) (m : List (Tx × Int)) (b : Bool) (K : fcNts.post.den → Prop) : (xfn2 Try.prog { f2 := [(63, fcClN)] } 5 34 fcNts ((ss, ns, dy, wf, t, m, b, ()), ()) K) =
  (req (decide (ns.length = ns.length)) (ns.length ≤ 1000 ∧ req (decide (0 + ss.length ≤ ss.length)) (req (decide (0 + ns.length ≤ ns.length)) (req (decide (0 + ns.length ≤ ns.length)) (K ((seg 0 (ss.length) ss, seg 0
 (ns.length) ns, dy, wf, t, m, b, ()), seg 0 (ns.length) ns, ())))))) := by kernel_rfl
abbrev sh33 : SV := S [(0, .box 0 purL), (2, .v I), (20, .sls 2 5), (21, .v I), (22, .v I)]
abbrev sh33e : SV := S [(0, .box 0 purL), (2, .v I)]
abbrev lc33 : LC2 := ⟨4, sh33, 4, fun (pu, w, n, k, i, _) Q => (n = pu.1.length ∧ k = pu.1.length ∧ 0 ≤ i ∧ i ≤ pu.1.length ∧ pu.1.length ≤ 256 ∧ (∀ x ∈ pu.1, 0 ≤ x.2.1 ∧ x.2.1 ≤ 67108864) ∧ 0 ≤ w ∧ w ≤ i * 67108864) ∧
  ∀ r : Int, r = w + waitsN (pu.1.drop i.toNat) → Q (.exit 0) (stS 4 sh33e (pu, r, ()))⟩
theorem v33L (ss : List Su) (ns : List Nt) (dy wf t : Int) (m : List (Tx × Int)) (b : Bool) (w k i : Int) (Q : AX → St → Prop) : (xloop2 Try.prog {} 5 33 0 lc33 (fun _ => some (sh33e, 4)) (fun (pu, _, _, _, i, _) => mL pu.1 i) ((ss, ns, dy, wf, t, m, b, ()), w, ss.length, k, i, ()) Q) =
  (fork (decide (i < k)) (req (decide ((0 : Int) ≤ i ∧ i < (↑(ss.length) : Int))) (req (decide (Int.toNat i < ss.length)) (fork ((List.getD ss (Int.toNat i) ([], (0 : Int), (0 : Int), (0 : Int), (0 : Int))).2.2.2.1 == (1 :
 Int)) (req (inR IntKind.i64 (w + (List.getD ss (Int.toNat i) ([], (0 : Int), (0 : Int), (0 : Int), (0 : Int))).2.1)) (req (inR IntKind.i64 (i + 1)) (req (decide (ss.length = ss.length)) (req (decide (ns.length =
 ns.length)) (Go.P7.mL ss (i + 1) < Go.P7.mL ss i ∧ LC2.spec Go.P7.lc33 ((ss, ns, dy, wf, t, m, b, ()), w + (List.getD ss (Int.toNat i) ([], (0 : Int), (0 : Int), (0 : Int), (0 : Int))).2.1, ss.length, k, i + 1, ()) Q)))))
 (req (inR IntKind.i64 (i + 1)) (req (decide (ss.length = ss.length)) (req (decide (ns.length = ns.length)) (Go.P7.mL ss (i + 1) < Go.P7.mL ss i ∧ LC2.spec Go.P7.lc33 ((ss, ns, dy, wf, t, m, b, ()), w, ss.length, k, i + 1,
 ()) Q))))))) (req (decide (ss.length = ss.length)) (req (decide (ns.length = ns.length)) (Q (AX.exit 0) (stS 4 Go.P7.sh33e ((ss, ns, dy, wf, t, m, b, ()), w, ())))))) := by kernel_rfl
abbrev fcHolds : FC2 := ⟨A [.box 0 (purC 2 3)], 4, A [.box 0 (purC 4 5), .v I, .v I, .v E], 6, fun ((ss, ns, dy, wf, t, m, rdy, _), _) K => (okP (dy, wf, t, ss, ns) ∧ rdy = true) ∧
  ∀ w : Int, w = waitsN ss → K ((ss, ns, dy, wf, t, m, true, ()), w, wf, 0, ())⟩
theorem v33F (ss : List Su) (ns : List Nt) (dy wf t : Int) (m : List (Tx × Int)) (K : fcHolds.post.den → Prop) : (xfn2 Try.prog { l2 := [(33, 0, lc33)] } 5 33 fcHolds ((ss, ns, dy, wf, t, m, true, ()), ()) K) =
  (req (decide (ss.length = ss.length)) (req (decide (ns.length = ns.length)) ((ss.length = ss.length ∧ (↑(ss.length) : Int) = (↑(ss.length) : SV.den (SV.slot 21 (SV.v Go.P7.I))) ∧ (0 : SV.den (SV.slot 22 (SV.v Go.P7.I))) ≤
 (0 : Int) ∧ (0 : Int) ≤ (↑(ss.length) : SV.den (SV.slot 22 (SV.v Go.P7.I))) ∧ ss.length ≤ 256 ∧ (∀ (x : Ty.den Go.P7.TSu), x ∈ ss → (0 : Ty.den Go.P7.I) ≤ x.2.1 ∧ x.2.1 ≤ (67108864 : Ty.den Go.P7.I)) ∧ (0 : SV.den
 (SV.slot 2 (SV.v Go.P7.I))) ≤ (0 : Int) ∧ (0 : Int) ≤ (0 : Int) * (67108864 : SV.den (SV.slot 2 (SV.v Go.P7.I)))) ∧ ∀ (r : Int), r = (0 : Int) + Go.P7.waitsN (List.drop 0 ss) → AV.int IntKind.i64 wf = AV.int IntKind.i64
 wf ∧ req (decide (0 + ss.length ≤ ss.length)) (req (decide (0 + ns.length ≤ ns.length)) (K ((seg 0 (ss.length) ss, seg 0 (ns.length) ns, dy, wf, t, m, true, ()), r, wf, (0 : Int), ())))))) := by kernel_rfl
def owedI (ss : List Su) (p : Tx) : Su × Int := if ixS ss p < 0 then (U0, 73) else (ss.getD (ixS ss p).toNat U0, 0)
abbrev fcOwed : FC2 := ⟨A [.box 0 (purC 2 3), .v .s], 4, A [.box 0 (purC 4 5), .any, .v TSu, .v E], 6, fun ((ss, ns, dy, wf, t, m, rdy, _), p, _) K => (okP (dy, wf, t, ss, ns) ∧ rdy = true ∧ mapS m ss) ∧
  ∀ (x : Su) (e : Int), (x, e) = owedI ss p → K ((ss, ns, dy, wf, t, m, true, ()), (), x, e, ())⟩
theorem v39F (ss : List Su) (ns : List Nt) (dy wf t : Int) (m : List (Tx × Int)) (p : Tx) (K : fcOwed.post.den → Prop) : (xfn2 Try.prog {} 5 39 fcOwed ((ss, ns, dy, wf, t, m, true, ()), p, ()) K) =
  (fork (!Option.isSome (tmGet Ty.s m p)) (req (decide (0 + ss.length ≤ ss.length)) (req (decide (0 + ns.length ≤ ns.length)) (K ((seg 0 (ss.length) ss, seg 0 (ns.length) ns, dy, wf, t, m, true, ()), (), ([], (0 : Int), (0
 : Int), (0 : Int), (0 : Int)), (73 : Int), ())))) (req (decide ((0 : Int) ≤ Option.getD (tmGet Ty.s m p) (0 : Int) ∧ Option.getD (tmGet Ty.s m p) (0 : Int) < (↑(ss.length) : Int))) (req (decide (Int.toNat (Option.getD
 (tmGet Ty.s m p) (0 : Int)) < ss.length)) (req (decide (0 + ss.length ≤ ss.length)) (req (decide (0 + ns.length ≤ ns.length)) (K ((seg 0 (ss.length) ss, seg 0 (ns.length) ns, dy, wf, t, m, true, ()), (), List.getD ss
 (Int.toNat (Option.getD (tmGet Ty.s m p) (0 : Int))) ([], (0 : Int), (0 : Int), (0 : Int), (0 : Int)), (0 : Int), ()))))))) := by kernel_rfl
/-! acts of the statements -/
abbrev TAc : Ty := .pr I (.pr I (.pr I (.pr LPa (.pr .s L))))
structure okA (a : Ac) : Prop where
  parts : a.2.2.2.1.length ≤ big ∧ ∀ p ∈ a.2.2.2.1, p.1.length ≤ big ∧ p.2.2.length ≤ big
  weights : a.2.2.2.2.2.length ≤ big
abbrev fcDone : FC2 := ⟨A [.box 0 (purC 2 3), .v TAc], 4, A [.box 0 (purC 4 5), .any, .v LPo, .v L, .v E], 6, fun ((ss, ns, dy, wf, t, m, rdy, _), a, _) K => (okP (dy, wf, t, ss, ns) ∧ rdy = true ∧ roomN ns ∧ mapS m ss ∧ okA a) ∧
  ∀ (ss1 : List Su) (ns1 : List Nt) (dy1 wf1 : Int) (m1 : List (Tx × Int)) (os : List Po) (l : List Int) (e : Int), ((dy1, wf1, t, ss1, ns1), os, l, e) = actI (dy, wf, t, ss, ns) a → mapS m1 ss1 → K ((ss1, ns1, dy1, wf1, t, m1, true, ()), (), os, l, e, ())⟩
theorem v30F (ss : List Su) (ns : List Nt) (dy wf t : Int) (m : List (Tx × Int)) (k d pr : Int) (ps : List Pa) (p : Tx) (w : List Int) (K : fcDone.post.den → Prop) : (xfn2 Try.prog { nm := true, f2 := [(42, fcSell), (44, fcPay), (45, fcGive), (46, fcPass)] } 5 30 fcDone ((ss, ns, dy, wf, t, m, true, ()), (k, d, pr, ps, p, w), ()) K) =
  (fork (k == (1 : Int)) (req (decide (0 + ss.length ≤ ss.length)) (req (decide (0 + ns.length ≤ ns.length)) ((Go.P7.okP (dy, wf, t, seg 0 (ss.length) ss, seg 0 (ns.length) ns) ∧ true = true ∧ Go.P7.roomN (seg 0 (ns.length)
 ns) ∧ Go.P7.mapS m (seg 0 (ss.length) ss) ∧ ps.length ≤ 9223372036854775807 ∧ ∀ (p : Ty.den Go.P7.TPa), p ∈ ps → List.length (p.1) ≤ 9223372036854775807 ∧ List.length (p.2.2) ≤ 9223372036854775807) ∧ ∀ (ss1 : List
 Go.P7.Su) (ns1 : List Go.P7.Nt) (dy1 wf1 : Int) (m1 : List (Go.P7.Tx × Int)) (os : List Go.P7.Po) (e : Int), ((dy1, wf1, t, ss1, ns1), os, e) = Go.P7.sellI (dy, wf, t, seg 0 (ss.length) ss, seg 0 (ns.length) ns) d pr ps →
 Go.P7.mapS m1 ss1 → req (decide (0 + ss1.length ≤ ss1.length)) (req (decide (0 + ns1.length ≤ ns1.length)) (K ((seg 0 (ss1.length) ss1, seg 0 (ns1.length) ns1, dy1, wf1, t, m1, true, ()), (), os, [], e, ())))))) (fork (k
 == (2 : Int)) (req (decide (0 + ss.length ≤ ss.length)) (req (decide (0 + ns.length ≤ ns.length)) ((Go.P7.okP (dy, wf, t, seg 0 (ss.length) ss, seg 0 (ns.length) ns) ∧ true = true ∧ Go.P7.roomN (seg 0 (ns.length) ns) ∧
 Go.P7.mapS m (seg 0 (ss.length) ss)) ∧ ∀ (ss1 : List Go.P7.Su) (ns1 : List Go.P7.Nt) (dy1 wf1 n e : Int), ((dy1, wf1, t, ss1, ns1), n, e) = Go.P7.payI (dy, wf, t, seg 0 (ss.length) ss, seg 0 (ns.length) ns) d p → req
 (decide (0 + ss1.length ≤ ss1.length)) (req (decide (0 + ns1.length ≤ ns1.length)) (K ((seg 0 (ss1.length) ss1, seg 0 (ns1.length) ns1, dy1, wf1, t, m, true, ()), (), [], [n], e, ())))))) (fork (k == (3 : Int)) (req
 (decide (0 + ss.length ≤ ss.length)) (req (decide (0 + ns.length ≤ ns.length)) ((Go.P7.okP (dy, wf, t, seg 0 (ss.length) ss, seg 0 (ns.length) ns) ∧ true = true ∧ Go.P7.roomN (seg 0 (ns.length) ns)) ∧ ∀ (ss1 : List
 Go.P7.Su) (ns1 : List Go.P7.Nt) (dy1 wf1 n e : Int), ((dy1, wf1, t, ss1, ns1), n, e) = Go.P7.passI (dy, wf, t, seg 0 (ss.length) ss, seg 0 (ns.length) ns) d → req (decide (0 + ss1.length ≤ ss1.length)) (req (decide (0 +
 ns1.length ≤ ns1.length)) (K ((seg 0 (ss1.length) ss1, seg 0 (ns1.length) ns1, dy1, wf1, t, m, true, ()), (), [], [n], e, ())))))) (req (decide (0 + ss.length ≤ ss.length)) (req (decide (0 + ns.length ≤ ns.length))
 ((Go.P7.okP (dy, wf, t, seg 0 (ss.length) ss, seg 0 (ns.length) ns) ∧ true = true ∧ Go.P7.roomN (seg 0 (ns.length) ns) ∧ w.length ≤ 9223372036854775807) ∧ ∀ (ss1 : List Go.P7.Su) (ns1 : List Go.P7.Nt) (dy1 wf1 : Int) (l :
 List Int) (e : Int), ((dy1, wf1, t, ss1, ns1), l, e) = Go.P7.giveI (dy, wf, t, seg 0 (ss.length) ss, seg 0 (ns.length) ns) d w → req (decide (0 + ss1.length ≤ ss1.length)) (req (decide (0 + ns1.length ≤ ns1.length)) (K
 ((seg 0 (ss1.length) ss1, seg 0 (ns1.length) ns1, dy1, wf1, t, m, true, ()), (), [], l, e, ()))))))))) := by kernel_rfl
end Go.P7
