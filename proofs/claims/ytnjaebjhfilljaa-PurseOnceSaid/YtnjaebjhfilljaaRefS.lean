/- Purses of the reference: states and what is to be shown, reduced. No conditions. -/
import Derived.Test.YtnjaebjhfilljaaBookS
set_option linter.unusedSimpArgs false
set_option linter.unusedVariables false
set_option linter.constructorNameAsVariable false
set_option maxRecDepth 100000
set_option maxHeartbeats 2000000
namespace Go.P7
open Go.Lom Go.Proofs Go

abbrev refP (i j : Nat) : SV := A [.v I, .v I, .v I, .own i TSu, .own j TNt]
abbrev refL : SV := A [.v I, .v I, .v I, .lst 1 TSu, .lst 2 TNt]
abbrev sh68 : SV := S [(0, .box 0 refL), (1, .v .s), (5, .v I)]
abbrev sh68r : SV := SB [(4, .v I)] (A [.blk 0 refL])
abbrev sh68e : SV := SB [] (A [.blk 0 refL])
def ex68 : Ex2
  | .ret => some (sh68r, 3)
  | _ => some (sh68e, 3)
abbrev lc68 : LC2 := ⟨3, sh68, 3, fun (r, p, i, _) Q => (0 ≤ i ∧ i ≤ r.2.2.2.1.length ∧ r.2.2.2.1.length ≤ 256) ∧
  ((r.2.2.2.1.drop i.toNat).any (ofB p) = false → Q (.exit 0) (stS 3 sh68e (r, ()))) ∧ ((r.2.2.2.1.drop i.toNat).any (ofB p) = true → Q .ret (stS 3 sh68r (firstIx (ofB p) (r.2.2.2.1.drop i.toNat) i, r, ())))⟩
theorem v68L (t dy wf : Int) (ss : List Su) (ns : List Nt) (p : Tx) (i : Int) (Q : AX → St → Prop) : (xloop2 Try.prog {} 5 68 0 lc68 ex68 (fun (r, _, i, _) => mL r.2.2.2.1 i) ((t, dy, wf, ss, ns, ()), p, i, ()) Q) =
  (fork (decide (i < (↑(ss.length) : Int))) (req (decide ((0 : Int) ≤ i ∧ i < (↑(ss.length) : Int))) (req (decide (Int.toNat i < ss.length)) (fork ((List.getD ss (Int.toNat i) ([], (0 : Int), (0 : Int), (0 : Int), (0 :
 Int))).1 == p) (req (decide (ss.length = ss.length)) (req (decide (ns.length = ns.length)) (Q AX.ret (stS 3 Go.P7.sh68r (i, (t, dy, wf, ss, ns, ()), ()))))) (req (inR IntKind.i64 (i + 1)) (req (decide (ss.length =
 ss.length)) (req (decide (ns.length = ns.length)) (Go.P7.mL ss (i + 1) < Go.P7.mL ss i ∧ LC2.spec Go.P7.lc68 ((t, dy, wf, ss, ns, ()), p, i + 1, ()) Q))))))) (req (decide (ss.length = ss.length)) (req (decide (ns.length =
 ns.length)) (Q (AX.exit 0) (stS 3 Go.P7.sh68e ((t, dy, wf, ss, ns, ()), ())))))) := by kernel_rfl
abbrev fcAt : FC2 := ⟨A [.box 0 refL, .v .s], 3, A [.box 0 refL, .any, .v I], 3, fun (r, p, _) K => r.2.2.2.1.length ≤ 256 ∧ ∀ i : Int, i = ixS r.2.2.2.1 p → K (r, (), i, ())⟩
theorem v68F (t dy wf : Int) (ss : List Su) (ns : List Nt) (p : Tx) (K : fcAt.post.den → Prop) : (xfn2 Try.prog { l2 := [(68, 0, lc68)] } 5 68 fcAt ((t, dy, wf, ss, ns, ()), p, ()) K) =
  (req (decide (ss.length = ss.length)) (req (decide (ns.length = ns.length)) (((0 : SV.den (SV.slot 5 (SV.v Go.P7.I))) ≤ (0 : Int) ∧ (0 : Int) ≤ (↑(ss.length) : SV.den (SV.slot 5 (SV.v Go.P7.I))) ∧ ss.length ≤ 256) ∧
 (List.any (List.drop 0 ss) (Go.P7.ofB p) = false → req (decide (ss.length = ss.length)) (req (decide (ns.length = ns.length)) (K ((t, dy, wf, ss, ns, ()), (), (-1 : Int), ())))) ∧ (List.any (List.drop 0 ss) (Go.P7.ofB p)
 = true → req (decide (ss.length = ss.length)) (req (decide (ns.length = ns.length)) (K ((t, dy, wf, ss, ns, ()), (), Go.P7.firstIx (Go.P7.ofB p) (List.drop 0 ss) (0 : Int), ()))))))) := by kernel_rfl
/-! Sell -/
abbrev sh64 : SV := S [(0, .box 0 refL), (1, .v I), (2, .v I), (3, .v LPa), (11, .v LPo), (13, .own 3 TSu), (14, .v I)]
abbrev sh64e : SV := S [(0, .box 0 refL), (1, .v I), (2, .v I), (11, .v LPo), (13, .own 3 TSu)]
abbrev sh64r : SV := SB [(8, .v LPo), (9, .v E)] (A [.blk 0 refL])
def ex64 : Ex2
  | .ret => some (sh64r, 3)
  | _ => some (sh64e, 4)
abbrev lc64 : LC2 := ⟨3, sh64, 4, fun (r, d, pr, ps, os, o, i, _) Q => (0 ≤ i ∧ i ≤ ps.length ∧ ps.length ≤ 8 ∧ os.length = ps.length ∧ (o.length : Int) ≤ i ∧ r.2.2.2.1.length ≤ 256) ∧
  ((ps.drop i.toNat).any (fun p => r.2.2.2.1.any (ofB p.1)) = true → Q .ret (stS 3 sh64r ([], 33, r, ()))) ∧
  ((ps.drop i.toNat).any (fun p => r.2.2.2.1.any (ofB p.1)) = false → ∀ o1, o1 = o ++ newSu d (ps.drop i.toNat) (os.drop i.toNat) → Q (.exit 0) (stS 4 sh64e (r, d, pr, os, o1, ())))⟩
theorem v64L (t dy wf : Int) (ss : List Su) (ns : List Nt) (d pr : Int) (ps : List Pa) (os : List Po) (o : List Su) (i : Int) (Q : AX → St → Prop) : (xloop2 Try.prog { nm := true, f2 := [(68, fcAt)] } 5 64 0 lc64 ex64 (fun (_, _, _, ps, _, _, i, _) => mL ps i) ((t, dy, wf, ss, ns, ()), d, pr, ps, os, o, i, ()) Q) =
  (fork (decide (i < (↑(ps.length) : Int))) (req (decide ((0 : Int) ≤ i ∧ i < (↑(ps.length) : Int))) (req (decide (ss.length = ss.length)) (req (decide (ns.length = ns.length)) (ss.length ≤ 256 ∧ ∀ (i_1 : Int), i_1 =
 Go.P7.ixS ss ((List.getD ps (Int.toNat i) ([], (0 : Int), [])).1) → fork (decide (i_1 ≥ (0 : Int))) (req (decide (ss.length = ss.length)) (req (decide (ns.length = ns.length)) (Q AX.ret (stS 3 Go.P7.sh64r ([], (33 : Int),
 (t, dy, wf, ss, ns, ()), ()))))) (req (decide ((0 : Int) ≤ i ∧ i < (↑(os.length) : Int))) (fork (decide ((List.getD os (Int.toNat i) ((0 : Int), [], (0 : Int))).2.2 > (0 : Int))) (req (decide ((0 : Int) ≤ i ∧ i <
 (↑(ps.length) : Int))) (req (decide ((0 : Int) ≤ i ∧ i < (↑(os.length) : Int))) (req (decide (0 + o.length ≤ o.length)) (req (fitsN (o.length + 1) 48) (∀ (ys : List (Ty.den (Ty.pr Ty.s (Ty.pr (Ty.i IntKind.i64) (Ty.pr
 (Ty.i IntKind.i64) (Ty.pr (Ty.i IntKind.i64) (Ty.i IntKind.i64))))))), ys = seg 0 (o.length) o ++ [((List.getD ps (Int.toNat i) ([], (0 : Int), [])).1, (List.getD os (Int.toNat i) ((0 : Int), [], (0 : Int))).2.2, d, (1 :
 Int), (0 : Int))] → req (inR IntKind.i64 (i + 1)) (req (decide (ss.length = ss.length)) (req (decide (ns.length = ns.length)) (req (decide (0 + (o.length + 1) ≤ ys.length)) (Go.P7.mL ps (i + 1) < Go.P7.mL ps i ∧ LC2.spec
 Go.P7.lc64 ((t, dy, wf, ss, ns, ()), d, pr, ps, os, seg 0 (o.length + 1) ys, i + 1, ()) Q))))))))) (req (inR IntKind.i64 (i + 1)) (req (decide (ss.length = ss.length)) (req (decide (ns.length = ns.length)) (req (decide (0
 + o.length ≤ o.length)) (Go.P7.mL ps (i + 1) < Go.P7.mL ps i ∧ LC2.spec Go.P7.lc64 ((t, dy, wf, ss, ns, ()), d, pr, ps, os, seg 0 (o.length) o, i + 1, ()) Q))))))))))) (req (decide (ss.length = ss.length)) (req (decide
 (ns.length = ns.length)) (req (decide (0 + o.length ≤ o.length)) (Q (AX.exit 0) (stS 4 Go.P7.sh64e ((t, dy, wf, ss, ns, ()), d, pr, os, seg 0 (o.length) o, ()))))))) := by kernel_rfl
abbrev fcRSell : FC2 := ⟨A [.box 0 (refP 1 2), .v I, .v I, .v LPa], 3, A [.box 0 (refP 3 4), .any, .any, .any, .v LPo, .v E], 5, fun ((t, dy, wf, ss, ns, _), d, pr, ps, _) K => (okP (dy, wf, t, ss, ns) ∧ roomN ns ∧ ps.length ≤ big ∧ ∀ p ∈ ps, p.1.length ≤ big ∧ p.2.2.length ≤ big) ∧
  ∀ (ss1 : List Su) (ns1 : List Nt) (dy1 wf1 : Int) (os : List Po) (e : Int), ((dy1, wf1, t, ss1, ns1), os, e) = sellI (dy, wf, t, ss, ns) d pr ps → K ((t, dy1, wf1, ss1, ns1, ()), (), (), (), os, e, ())⟩
theorem v64F (t dy wf : Int) (ss : List Su) (ns : List Nt) (d pr : Int) (ps : List Pa) (K : fcRSell.post.den → Prop) : (xfn2 Try.prog { nm := true, f := [(24, fcFrom), (21, fcPort)], l2 := [(64, 0, lc64)] } 6 64 fcRSell ((t, dy, wf, ss, ns, ()), d, pr, ps, ()) K) =
  (fork (!decide (dy ≤ d ∧ d ≤ (36500 : Int))) (req (decide (0 + ss.length ≤ ss.length)) (req (decide (0 + ns.length ≤ ns.length)) (K ((t, dy, wf, seg 0 (ss.length) ss, seg 0 (ns.length) ns, ()), (), (), (), [], (34 : Int),
 ())))) ((ps.length ≤ 9223372036854775807 ∧ ∀ (p : Go.P7.Pa), p ∈ ps → List.length (p.1) ≤ 9223372036854775807 ∧ List.length (p.2.2) ≤ 9223372036854775807) ∧ ∀ (r : List Go.P7.Po) (e : Int), Go.P7.portR pr ps = (r, e) →
 fork (e != (0 : Int)) (req (decide (0 + ss.length ≤ ss.length)) (req (decide (0 + ns.length ≤ ns.length)) (K ((t, dy, wf, seg 0 (ss.length) ss, seg 0 (ns.length) ns, ()), (), (), (), [], e, ())))) (req (decide (ss.length
 = ss.length)) (req (decide (ns.length = ns.length)) (((0 : SV.den (SV.slot 14 (SV.v Go.P7.I))) ≤ (0 : Int) ∧ (0 : Int) ≤ (↑(ps.length) : SV.den (SV.slot 14 (SV.v Go.P7.I))) ∧ ps.length ≤ 8 ∧ r.length = ps.length ∧ (0 :
 Int) ≤ (0 : Int) ∧ ss.length ≤ 256) ∧ ((List.any (List.drop 0 ps) fun p => List.any ss (Go.P7.ofB (p.1))) = true → req (decide (0 + ss.length ≤ ss.length)) (req (decide (0 + ns.length ≤ ns.length)) (K ((t, dy, wf, seg 0
 (ss.length) ss, seg 0 (ns.length) ns, ()), (), (), (), [], (33 : SV.den (SV.slot 9 (SV.v Go.P7.E))), ())))) ∧ ((List.any (List.drop 0 ps) fun p => List.any ss (Go.P7.ofB (p.1))) = false → ∀ (o1 : SV.den (SV.slot ((13,
 SV.own 3 Go.P7.TSu).1) ((13, SV.own 3 Go.P7.TSu).2))), o1 = [] ++ Go.P7.newSu d (List.drop 0 ps) (List.drop 0 r) → req (inR IntKind.i64 ((↑(ss.length) : Int) + (↑(o1.length) : Int))) (fork (decide ((↑(ss.length) : Int) +
 (↑(o1.length) : Int) > (256 : Int))) (req (decide (0 + ss.length ≤ ss.length)) (req (decide (0 + ns.length ≤ ns.length)) (K ((t, dy, wf, seg 0 (ss.length) ss, seg 0 (ns.length) ns, ()), (), (), (), [], (6 : Int), ()))))
 (req (decide (0 + o1.length ≤ o1.length)) (req (decide (0 + ss.length ≤ ss.length)) (req (fitsN (ss.length + List.length (seg 0 (o1.length) o1)) 48) (∀ (ys : List (Ty.den (Ty.pr Ty.s (Ty.pr (Ty.i IntKind.i64) (Ty.pr (Ty.i
 IntKind.i64) (Ty.pr (Ty.i IntKind.i64) (Ty.i IntKind.i64))))))), ys = seg 0 (ss.length) ss ++ seg 0 (o1.length) o1 → req (decide (0 + ns.length ≤ ns.length)) (req (fitsN (ns.length + 1) 24) (∀ (ys_1 : List (Ty.den (Ty.pr
 (Ty.i IntKind.i64) (Ty.pr (Ty.i IntKind.i64) (Ty.i IntKind.i64))))), ys_1 = seg 0 (ns.length) ns ++ [((1 : Int), d, pr)] → req (decide (0 + (ss.length + List.length (seg 0 (o1.length) o1)) ≤ ys.length)) (req (decide (0 +
 (ns.length + 1) ≤ ys_1.length)) (K ((t, d, wf, seg 0 (ss.length + List.length (seg 0 (o1.length) o1)) ys, seg 0 (ns.length + 1) ys_1, ()), (), (), (), r, (0 : Int), ())))))))))))))))) := by kernel_rfl
/-! Pay -/
abbrev fcRPay : FC2 := ⟨A [.box 0 (refP 1 2), .v I, .v .s], 3, A [.box 0 (refP 3 4), .any, .any, .v I, .v E], 5, fun ((t, dy, wf, ss, ns, _), d, p, _) K => (okP (dy, wf, t, ss, ns) ∧ roomN ns) ∧
  ∀ (ss1 : List Su) (ns1 : List Nt) (dy1 wf1 n : Int) (e : Int), ((dy1, wf1, t, ss1, ns1), n, e) = payI (dy, wf, t, ss, ns) d p → K ((t, dy1, wf1, ss1, ns1, ()), (), (), n, e, ())⟩
theorem v65F (t dy wf : Int) (ss : List Su) (ns : List Nt) (d : Int) (p : Tx) (K : fcRPay.post.den → Prop) : (xfn2 Try.prog { nm := true, f := [(24, fcFrom)], f2 := [(68, fcAt)] } 6 65 fcRPay ((t, dy, wf, ss, ns, ()), d, p, ()) K) =
  (fork (!decide (dy ≤ d ∧ d ≤ (36500 : Int))) (req (decide (0 + ss.length ≤ ss.length)) (req (decide (0 + ns.length ≤ ns.length)) (K ((t, dy, wf, seg 0 (ss.length) ss, seg 0 (ns.length) ns, ()), (), (), (0 : Int), (34 :
 Int), ())))) (req (decide (ss.length = ss.length)) (req (decide (ns.length = ns.length)) (ss.length ≤ 256 ∧ ∀ (i : Int), i = Go.P7.ixS ss p → fork (decide (i < (0 : Int))) (req (decide (0 + ss.length ≤ ss.length)) (req
 (decide (0 + ns.length ≤ ns.length)) (K ((t, dy, wf, seg 0 (ss.length) ss, seg 0 (ns.length) ns, ()), (), (), (0 : Int), (73 : Int), ())))) (req (decide ((0 : Int) ≤ i ∧ i < (↑(ss.length) : Int))) (req (decide (Int.toNat
 i < ss.length)) (fork ((List.getD ss (Int.toNat i) ([], (0 : Int), (0 : Int), (0 : Int), (0 : Int))).2.2.2.1 != (1 : Int)) (req (decide (0 + ss.length ≤ ss.length)) (req (decide (0 + ns.length ≤ ns.length)) (K ((t, dy,
 wf, seg 0 (ss.length) ss, seg 0 (ns.length) ns, ()), (), (), (0 : Int), (73 : Int), ())))) (req (decide ((0 : Int) ≤ i ∧ i < (↑(ss.length) : Int))) (req (decide (Int.toNat i < ss.length)) (req (inR IntKind.i64 ((List.getD
 ss (Int.toNat i) ([], (0 : Int), (0 : Int), (0 : Int), (0 : Int))).2.2.1 + t)) (fork (decide (d ≥ (List.getD ss (Int.toNat i) ([], (0 : Int), (0 : Int), (0 : Int), (0 : Int))).2.2.1 + t)) (req (decide (0 + ss.length ≤
 ss.length)) (req (decide (0 + ns.length ≤ ns.length)) (K ((t, dy, wf, seg 0 (ss.length) ss, seg 0 (ns.length) ns, ()), (), (), (0 : Int), (73 : Int), ())))) (req (decide ((0 : Int) ≤ i ∧ i < (↑(ss.length) : Int))) (req
 (decide (Int.toNat i < ss.length)) (req (decide ((0 : Int) ≤ i ∧ i < (↑(ss.length) : Int))) (req (decide (Int.toNat i < ss.length)) (∀ (ys : List (Ty.den Go.P7.TSu)), ys = List.set ss (Int.toNat i) ((List.getD ss
 (Int.toNat i) ([], (0 : Int), (0 : Int), (0 : Int), (0 : Int))).1, (List.getD ss (Int.toNat i) ([], (0 : Int), (0 : Int), (0 : Int), (0 : Int))).2.1, (List.getD ss (Int.toNat i) ([], (0 : Int), (0 : Int), (0 : Int), (0 :
 Int))).2.2.1, (2 : Int), d) → req (decide ((0 : Int) ≤ i ∧ i < (↑(ss.length) : Int))) (req (decide (Int.toNat i < ys.length)) (req (decide (0 + ns.length ≤ ns.length)) (req (fitsN (ns.length + 1) 24) (∀ (ys_1 : List
 (Ty.den (Ty.pr (Ty.i IntKind.i64) (Ty.pr (Ty.i IntKind.i64) (Ty.i IntKind.i64))))), ys_1 = seg 0 (ns.length) ns ++ [((2 : Int), d, (List.getD ys (Int.toNat i) ([], (0 : Int), (0 : Int), (0 : Int), (0 : Int))).2.1)] → req
 (decide ((0 : Int) ≤ i ∧ i < (↑(ss.length) : Int))) (req (decide (Int.toNat i < ys.length)) (req (decide (0 + ss.length ≤ ys.length)) (req (decide (0 + (ns.length + 1) ≤ ys_1.length)) (K ((t, d, wf, seg 0 (ss.length) ys,
 seg 0 (ns.length + 1) ys_1, ()), (), (), (List.getD ys (Int.toNat i) ([], (0 : Int), (0 : Int), (0 : Int), (0 : Int))).2.1, (0 : Int), ()))))))))))))))))))))))))) := by kernel_rfl
/-! Pass -/
abbrev sh66 : SV := S [(0, .box 0 refL), (1, .v I), (7, .v I), (8, .v I)]
abbrev sh66e : SV := S [(0, .box 0 refL), (1, .v I), (7, .v I)]
abbrev lc66 : LC2 := ⟨3, sh66, 3, fun (r, d, n, i, _) Q => (0 ≤ i ∧ i ≤ r.2.2.2.1.length ∧ r.2.2.2.1.length ≤ 256 ∧ (∀ x ∈ r.2.2.2.1, (0 ≤ x.2.1 ∧ x.2.1 ≤ 67108864) ∧ 0 ≤ x.2.2.1 ∧ x.2.2.1 ≤ 36500) ∧ (0 ≤ r.1 ∧ r.1 ≤ 12000) ∧ 0 ≤ n ∧ n ≤ i * 67108864) ∧
  ∀ (s1 : List Su) (n1 : Int), s1 = r.2.2.2.1.take i.toNat ++ (r.2.2.2.1.drop i.toNat).map (passS r.1 d) → n1 = n + passN r.1 d (r.2.2.2.1.drop i.toNat) → Q (.exit 0) (stS 3 sh66e ((r.1, r.2.1, r.2.2.1, s1, r.2.2.2.2), d, n1, ()))⟩
theorem v66L (t dy wf : Int) (ss : List Su) (ns : List Nt) (d n i : Int) (Q : AX → St → Prop) : (xloop2 Try.prog { nm := true } 5 66 0 lc66 (fun _ => some (sh66e, 3)) (fun (r, _, _, i, _) => mL r.2.2.2.1 i) ((t, dy, wf, ss, ns, ()), d, n, i, ()) Q) =
  (fork (decide (i < (↑(ss.length) : Int))) (req (decide ((0 : Int) ≤ i ∧ i < (↑(ss.length) : Int))) (req (decide (Int.toNat i < ss.length)) (fork ((List.getD ss (Int.toNat i) ([], (0 : Int), (0 : Int), (0 : Int), (0 :
 Int))).2.2.2.1 == (1 : Int)) (req (inR IntKind.i64 ((List.getD ss (Int.toNat i) ([], (0 : Int), (0 : Int), (0 : Int), (0 : Int))).2.2.1 + t)) (fork (decide (d ≥ (List.getD ss (Int.toNat i) ([], (0 : Int), (0 : Int), (0 :
 Int), (0 : Int))).2.2.1 + t)) (req (inR IntKind.i64 (n + (List.getD ss (Int.toNat i) ([], (0 : Int), (0 : Int), (0 : Int), (0 : Int))).2.1)) (req (decide ((0 : Int) ≤ i ∧ i < (↑(ss.length) : Int))) (req (decide (Int.toNat
 i < ss.length)) (req (decide ((0 : Int) ≤ i ∧ i < (↑(ss.length) : Int))) (req (decide (Int.toNat i < ss.length)) (∀ (ys : List (Ty.den Go.P7.TSu)), ys = List.set ss (Int.toNat i) ((List.getD ss (Int.toNat i) ([], (0 :
 Int), (0 : Int), (0 : Int), (0 : Int))).1, (List.getD ss (Int.toNat i) ([], (0 : Int), (0 : Int), (0 : Int), (0 : Int))).2.1, (List.getD ss (Int.toNat i) ([], (0 : Int), (0 : Int), (0 : Int), (0 : Int))).2.2.1, (3 : Int),
 d) → req (inR IntKind.i64 (i + 1)) (req (decide (ss.length = ys.length)) (req (decide (ns.length = ns.length)) (Go.P7.mL ys (i + 1) < Go.P7.mL ss i ∧ LC2.spec Go.P7.lc66 ((t, dy, wf, ys, ns, ()), d, n + (List.getD ss
 (Int.toNat i) ([], (0 : Int), (0 : Int), (0 : Int), (0 : Int))).2.1, i + 1, ()) Q))))))))) (req (inR IntKind.i64 (i + 1)) (req (decide (ss.length = ss.length)) (req (decide (ns.length = ns.length)) (Go.P7.mL ss (i + 1) <
 Go.P7.mL ss i ∧ LC2.spec Go.P7.lc66 ((t, dy, wf, ss, ns, ()), d, n, i + 1, ()) Q)))))) (req (inR IntKind.i64 (i + 1)) (req (decide (ss.length = ss.length)) (req (decide (ns.length = ns.length)) (Go.P7.mL ss (i + 1) <
 Go.P7.mL ss i ∧ LC2.spec Go.P7.lc66 ((t, dy, wf, ss, ns, ()), d, n, i + 1, ()) Q))))))) (req (decide (ss.length = ss.length)) (req (decide (ns.length = ns.length)) (Q (AX.exit 0) (stS 3 Go.P7.sh66e ((t, dy, wf, ss, ns,
 ()), d, n, ())))))) := by kernel_rfl
abbrev fcRPass : FC2 := ⟨A [.box 0 (refP 1 2), .v I], 3, A [.box 0 (refP 3 4), .any, .v I, .v E], 5, fun ((t, dy, wf, ss, ns, _), d, _) K => (okP (dy, wf, t, ss, ns) ∧ roomN ns) ∧
  ∀ (ss1 : List Su) (ns1 : List Nt) (dy1 wf1 n : Int) (e : Int), ((dy1, wf1, t, ss1, ns1), n, e) = passI (dy, wf, t, ss, ns) d → K ((t, dy1, wf1, ss1, ns1, ()), (), n, e, ())⟩
theorem v66F (t dy wf : Int) (ss : List Su) (ns : List Nt) (d : Int) (K : fcRPass.post.den → Prop) : (xfn2 Try.prog { nm := true, f := [(24, fcFrom)], l2 := [(66, 0, lc66)] } 6 66 fcRPass ((t, dy, wf, ss, ns, ()), d, ()) K) =
  (fork (!decide (dy ≤ d ∧ d ≤ (36500 : Int))) (req (decide (0 + ss.length ≤ ss.length)) (req (decide (0 + ns.length ≤ ns.length)) (K ((t, dy, wf, seg 0 (ss.length) ss, seg 0 (ns.length) ns, ()), (), (0 : Int), (34 : Int),
 ())))) (req (decide (ss.length = ss.length)) (req (decide (ns.length = ns.length)) (((0 : SV.den (SV.slot 8 (SV.v Go.P7.I))) ≤ (0 : Int) ∧ (0 : Int) ≤ (↑(ss.length) : SV.den (SV.slot 8 (SV.v Go.P7.I))) ∧ ss.length ≤ 256 ∧
 (∀ (x : Ty.den Go.P7.TSu), x ∈ ss → ((0 : Ty.den Go.P7.I) ≤ x.2.1 ∧ x.2.1 ≤ (67108864 : Ty.den Go.P7.I)) ∧ (0 : Ty.den Go.P7.I) ≤ x.2.2.1 ∧ x.2.2.1 ≤ (36500 : Ty.den Go.P7.I)) ∧ ((0 : SV.den (SV.v Go.P7.I)) ≤ t ∧ t ≤
 (12000 : SV.den (SV.v Go.P7.I))) ∧ (0 : SV.den (SV.slot 7 (SV.v Go.P7.I))) ≤ (0 : Int) ∧ (0 : Int) ≤ (0 : Int) * (67108864 : SV.den (SV.slot 7 (SV.v Go.P7.I)))) ∧ ∀ (s1 : List Go.P7.Su) (n1 : Int), s1 = List.take 0 ss ++
 List.map (Go.P7.passS t d) (List.drop 0 ss) → n1 = (0 : Int) + Go.P7.passN t d (List.drop 0 ss) → req (inR IntKind.i64 (wf + n1)) (req (decide (0 + ns.length ≤ ns.length)) (req (fitsN (ns.length + 1) 24) (∀ (ys : List
 (Ty.den (Ty.pr (Ty.i IntKind.i64) (Ty.pr (Ty.i IntKind.i64) (Ty.i IntKind.i64))))), ys = seg 0 (ns.length) ns ++ [((3 : Int), d, n1)] → req (decide (0 + s1.length ≤ s1.length)) (req (decide (0 + (ns.length + 1) ≤
 ys.length)) (K ((t, d, wf + n1, seg 0 (s1.length) s1, seg 0 (ns.length + 1) ys, ()), (), n1, (0 : Int), ())))))))))) := by kernel_rfl
/-! Give -/
abbrev fcRGive : FC2 := ⟨A [.box 0 (refP 1 2), .v I, .v L], 3, A [.box 0 (refP 3 4), .any, .any, .v L, .v E], 5, fun ((t, dy, wf, ss, ns, _), d, w, _) K => (okP (dy, wf, t, ss, ns) ∧ roomN ns ∧ w.length ≤ big) ∧
  ∀ (ss1 : List Su) (ns1 : List Nt) (dy1 wf1 : Int) (l : List Int) (e : Int), ((dy1, wf1, t, ss1, ns1), l, e) = giveI (dy, wf, t, ss, ns) d w → K ((t, dy1, wf1, ss1, ns1, ()), (), (), l, e, ())⟩
theorem v67F (t dy wf : Int) (ss : List Su) (ns : List Nt) (d : Int) (w : List Int) (K : fcRGive.post.den → Prop) : (xfn2 Try.prog { nm := true, f := [(24, fcFrom), (50, fc47'), (51, fcShare')] } 6 67 fcRGive ((t, dy, wf, ss, ns, ()), d, w, ()) K) =
  (fork (!decide (dy ≤ d ∧ d ≤ (36500 : Int))) (req (decide (0 + ss.length ≤ ss.length)) (req (decide (0 + ns.length ≤ ns.length)) (K ((t, dy, wf, seg 0 (ss.length) ss, seg 0 (ns.length) ns, ()), (), (), [], (34 : Int),
 ())))) (w.length ≤ 9223372036854775807 ∧ ∀ (b : Bool), b = Go.P7.validW w → fork (!b) (req (decide (0 + ss.length ≤ ss.length)) (req (decide (0 + ns.length ≤ ns.length)) (K ((t, dy, wf, seg 0 (ss.length) ss, seg 0
 (ns.length) ns, ()), (), (), [], (70 : Int), ())))) ((Go.P7.validW w = true ∧ (0 : AT.den (AT.v Go.P7.I)) ≤ wf ∧ wf ≤ (34359738368 : AT.den (AT.v Go.P7.I))) ∧ ∀ (r : List Int), r = Go.P7.shareL w wf → req (decide (0 +
 ns.length ≤ ns.length)) (req (fitsN (ns.length + 1) 24) (∀ (ys : List (Ty.den (Ty.pr (Ty.i IntKind.i64) (Ty.pr (Ty.i IntKind.i64) (Ty.i IntKind.i64))))), ys = seg 0 (ns.length) ns ++ [((4 : Int), d, wf)] → req (decide (0
 + ss.length ≤ ss.length)) (req (decide (0 + (ns.length + 1) ≤ ys.length)) (K ((t, d, (0 : Int), seg 0 (ss.length) ss, seg 0 (ns.length + 1) ys, ()), (), (), r, (0 : Int), ())))))))) := by kernel_rfl
/-! acts, what can be asked -/
abbrev fcDue : FC2 := ⟨A [.box 0 (refP 1 2), .v TAc], 3, A [.box 0 (refP 3 4), .any, .v LPo, .v L, .v E], 5, fun ((t, dy, wf, ss, ns, _), a, _) K => (okP (dy, wf, t, ss, ns) ∧ roomN ns ∧ okA a) ∧
  ∀ (ss1 : List Su) (ns1 : List Nt) (dy1 wf1 : Int) (os : List Po) (l : List Int) (e : Int), ((dy1, wf1, t, ss1, ns1), os, l, e) = actI (dy, wf, t, ss, ns) a → K ((t, dy1, wf1, ss1, ns1, ()), (), os, l, e, ())⟩
theorem v38F (t dy wf : Int) (ss : List Su) (ns : List Nt) (k d pr : Int) (ps : List Pa) (p : Tx) (w : List Int) (K : fcDue.post.den → Prop) : (xfn2 Try.prog { nm := true, f2 := [(64, fcRSell), (65, fcRPay), (66, fcRPass), (67, fcRGive)] } 5 38 fcDue ((t, dy, wf, ss, ns, ()), (k, d, pr, ps, p, w), ()) K) =
  (fork (k == (1 : Int)) (req (decide (0 + ss.length ≤ ss.length)) (req (decide (0 + ns.length ≤ ns.length)) ((Go.P7.okP (dy, wf, t, seg 0 (ss.length) ss, seg 0 (ns.length) ns) ∧ Go.P7.roomN (seg 0 (ns.length) ns) ∧
 ps.length ≤ 9223372036854775807 ∧ ∀ (p : Ty.den Go.P7.TPa), p ∈ ps → List.length (p.1) ≤ 9223372036854775807 ∧ List.length (p.2.2) ≤ 9223372036854775807) ∧ ∀ (ss1 : List Go.P7.Su) (ns1 : List Go.P7.Nt) (dy1 wf1 : Int) (os
 : List Go.P7.Po) (e : Int), ((dy1, wf1, t, ss1, ns1), os, e) = Go.P7.sellI (dy, wf, t, seg 0 (ss.length) ss, seg 0 (ns.length) ns) d pr ps → req (decide (0 + ss1.length ≤ ss1.length)) (req (decide (0 + ns1.length ≤
 ns1.length)) (K ((t, dy1, wf1, seg 0 (ss1.length) ss1, seg 0 (ns1.length) ns1, ()), (), os, [], e, ())))))) (fork (k == (2 : Int)) (req (decide (0 + ss.length ≤ ss.length)) (req (decide (0 + ns.length ≤ ns.length))
 ((Go.P7.okP (dy, wf, t, seg 0 (ss.length) ss, seg 0 (ns.length) ns) ∧ Go.P7.roomN (seg 0 (ns.length) ns)) ∧ ∀ (ss1 : List Go.P7.Su) (ns1 : List Go.P7.Nt) (dy1 wf1 n e : Int), ((dy1, wf1, t, ss1, ns1), n, e) = Go.P7.payI
 (dy, wf, t, seg 0 (ss.length) ss, seg 0 (ns.length) ns) d p → req (decide (0 + ss1.length ≤ ss1.length)) (req (decide (0 + ns1.length ≤ ns1.length)) (K ((t, dy1, wf1, seg 0 (ss1.length) ss1, seg 0 (ns1.length) ns1, ()),
 (), [], [n], e, ())))))) (fork (k == (3 : Int)) (req (decide (0 + ss.length ≤ ss.length)) (req (decide (0 + ns.length ≤ ns.length)) ((Go.P7.okP (dy, wf, t, seg 0 (ss.length) ss, seg 0 (ns.length) ns) ∧ Go.P7.roomN (seg 0
 (ns.length) ns)) ∧ ∀ (ss1 : List Go.P7.Su) (ns1 : List Go.P7.Nt) (dy1 wf1 n e : Int), ((dy1, wf1, t, ss1, ns1), n, e) = Go.P7.passI (dy, wf, t, seg 0 (ss.length) ss, seg 0 (ns.length) ns) d → req (decide (0 + ss1.length ≤
 ss1.length)) (req (decide (0 + ns1.length ≤ ns1.length)) (K ((t, dy1, wf1, seg 0 (ss1.length) ss1, seg 0 (ns1.length) ns1, ()), (), [], [n], e, ())))))) (req (decide (0 + ss.length ≤ ss.length)) (req (decide (0 +
 ns.length ≤ ns.length)) ((Go.P7.okP (dy, wf, t, seg 0 (ss.length) ss, seg 0 (ns.length) ns) ∧ Go.P7.roomN (seg 0 (ns.length) ns) ∧ w.length ≤ 9223372036854775807) ∧ ∀ (ss1 : List Go.P7.Su) (ns1 : List Go.P7.Nt) (dy1 wf1 :
 Int) (l : List Int) (e : Int), ((dy1, wf1, t, ss1, ns1), l, e) = Go.P7.giveI (dy, wf, t, seg 0 (ss.length) ss, seg 0 (ns.length) ns) d w → req (decide (0 + ss1.length ≤ ss1.length)) (req (decide (0 + ns1.length ≤
 ns1.length)) (K ((t, dy1, wf1, seg 0 (ss1.length) ss1, seg 0 (ns1.length) ns1, ()), (), [], l, e, ()))))))))) := by kernel_rfl
abbrev sh41 : SV := S [(0, .box 0 refL), (3, .v I), (4, .v I)]
abbrev sh41e : SV := S [(0, .box 0 refL), (3, .v I)]
abbrev lc41 : LC2 := ⟨3, sh41, 3, fun (r, n, i, _) Q => (0 ≤ i ∧ i ≤ r.2.2.2.1.length ∧ r.2.2.2.1.length ≤ 256 ∧ (∀ x ∈ r.2.2.2.1, 0 ≤ x.2.1 ∧ x.2.1 ≤ 67108864) ∧ 0 ≤ n ∧ n ≤ i * 67108864) ∧
  ∀ n1 : Int, n1 = n + waitsN (r.2.2.2.1.drop i.toNat) → Q (.exit 0) (stS 3 sh41e (r, n1, ()))⟩
theorem v41L (t dy wf : Int) (ss : List Su) (ns : List Nt) (n i : Int) (Q : AX → St → Prop) : (xloop2 Try.prog {} 5 41 0 lc41 (fun _ => some (sh41e, 3)) (fun (r, _, i, _) => mL r.2.2.2.1 i) ((t, dy, wf, ss, ns, ()), n, i, ()) Q) =
  (fork (decide (i < (↑(ss.length) : Int))) (req (decide ((0 : Int) ≤ i ∧ i < (↑(ss.length) : Int))) (req (decide (Int.toNat i < ss.length)) (fork ((List.getD ss (Int.toNat i) ([], (0 : Int), (0 : Int), (0 : Int), (0 :
 Int))).2.2.2.1 == (1 : Int)) (req (decide ((0 : Int) ≤ i ∧ i < (↑(ss.length) : Int))) (req (decide (Int.toNat i < ss.length)) (req (inR IntKind.i64 (n + (List.getD ss (Int.toNat i) ([], (0 : Int), (0 : Int), (0 : Int), (0
 : Int))).2.1)) (req (inR IntKind.i64 (i + 1)) (req (decide (ss.length = ss.length)) (req (decide (ns.length = ns.length)) (Go.P7.mL ss (i + 1) < Go.P7.mL ss i ∧ LC2.spec Go.P7.lc41 ((t, dy, wf, ss, ns, ()), n + (List.getD
 ss (Int.toNat i) ([], (0 : Int), (0 : Int), (0 : Int), (0 : Int))).2.1, i + 1, ()) Q))))))) (req (inR IntKind.i64 (i + 1)) (req (decide (ss.length = ss.length)) (req (decide (ns.length = ns.length)) (Go.P7.mL ss (i + 1) <
 Go.P7.mL ss i ∧ LC2.spec Go.P7.lc41 ((t, dy, wf, ss, ns, ()), n, i + 1, ()) Q))))))) (req (decide (ss.length = ss.length)) (req (decide (ns.length = ns.length)) (Q (AX.exit 0) (stS 3 Go.P7.sh41e ((t, dy, wf, ss, ns, ()),
 n, ())))))) := by kernel_rfl
abbrev fcRWaits : FC2 := ⟨A [.box 0 (refP 1 2)], 3, A [.box 0 (refP 3 4), .v I], 5, fun ((t, dy, wf, ss, ns, _), _) K => okP (dy, wf, t, ss, ns) ∧ ∀ n : Int, n = waitsN ss → K ((t, dy, wf, ss, ns, ()), n, ())⟩
theorem v41F (t dy wf : Int) (ss : List Su) (ns : List Nt) (K : fcRWaits.post.den → Prop) : (xfn2 Try.prog { l2 := [(41, 0, lc41)] } 5 41 fcRWaits ((t, dy, wf, ss, ns, ()), ()) K) =
  (req (decide (ss.length = ss.length)) (req (decide (ns.length = ns.length)) (((0 : SV.den (SV.slot 4 (SV.v Go.P7.I))) ≤ (0 : Int) ∧ (0 : Int) ≤ (↑(ss.length) : SV.den (SV.slot 4 (SV.v Go.P7.I))) ∧ ss.length ≤ 256 ∧ (∀ (x
 : Ty.den Go.P7.TSu), x ∈ ss → (0 : Ty.den Go.P7.I) ≤ x.2.1 ∧ x.2.1 ≤ (67108864 : Ty.den Go.P7.I)) ∧ (0 : SV.den (SV.slot 3 (SV.v Go.P7.I))) ≤ (0 : Int) ∧ (0 : Int) ≤ (0 : Int) * (67108864 : SV.den (SV.slot 3 (SV.v
 Go.P7.I)))) ∧ ∀ (n1 : Int), n1 = (0 : Int) + Go.P7.waitsN (List.drop 0 ss) → req (decide (0 + ss.length ≤ ss.length)) (req (decide (0 + ns.length ≤ ns.length)) (K ((t, dy, wf, seg 0 (ss.length) ss, seg 0 (ns.length) ns,
 ()), n1, ())))))) := by kernel_rfl
abbrev fcROwed : FC2 := ⟨A [.box 0 (refP 1 2), .v .s], 3, A [.box 0 (refP 3 4), .any, .v TSu, .v E], 5, fun ((t, dy, wf, ss, ns, _), p, _) K => okP (dy, wf, t, ss, ns) ∧ ∀ (x : Su) (e : Int), (x, e) = owedI ss p → K ((t, dy, wf, ss, ns, ()), (), x, e, ())⟩
theorem v40F (t dy wf : Int) (ss : List Su) (ns : List Nt) (p : Tx) (K : fcROwed.post.den → Prop) : (xfn2 Try.prog { f2 := [(68, fcAt)] } 5 40 fcROwed ((t, dy, wf, ss, ns, ()), p, ()) K) =
  (req (decide (ss.length = ss.length)) (req (decide (ns.length = ns.length)) (ss.length ≤ 256 ∧ ∀ (i : Int), i = Go.P7.ixS ss p → fork (decide (i < (0 : Int))) (req (decide (0 + ss.length ≤ ss.length)) (req (decide (0 +
 ns.length ≤ ns.length)) (K ((t, dy, wf, seg 0 (ss.length) ss, seg 0 (ns.length) ns, ()), (), ([], (0 : Int), (0 : Int), (0 : Int), (0 : Int)), (73 : Int), ())))) (req (decide ((0 : Int) ≤ i ∧ i < (↑(ss.length) : Int)))
 (req (decide (Int.toNat i < ss.length)) (req (decide (0 + ss.length ≤ ss.length)) (req (decide (0 + ns.length ≤ ns.length)) (K ((t, dy, wf, seg 0 (ss.length) ss, seg 0 (ns.length) ns, ()), (), List.getD ss (Int.toNat i)
 ([], (0 : Int), (0 : Int), (0 : Int), (0 : Int)), (0 : Int), ()))))))))) := by kernel_rfl
end Go.P7
