/- Purses: acts of the program: states and what is to be shown, reduced. No conditions. -/
import Derived.Test.YtnjaebjhfilljaaActL
import Derived.Test.YtnjaebjhfilljaaLibD
set_option linter.unusedSimpArgs false
set_option linter.unusedVariables false
set_option linter.constructorNameAsVariable false
set_option maxRecDepth 100000
set_option maxHeartbeats 2000000
namespace Go.P7
open Go.Lom Go.Proofs Go

@[reducible] def S : List (Nat × SV) → SV
  | [] => .nil
  | p :: l => .cons (.slot p.1 p.2) (S l)
@[reducible] def A : List SV → SV
  | [] => .nil
  | p :: l => .cons p (A l)
@[reducible] def SB : List (Nat × SV) → SV → SV
  | [], t => t
  | p :: l, t => .cons (.slot p.1 p.2) (SB l t)
abbrev TSu : Ty := .pr .s (.pr I (.pr I (.pr I I)))
abbrev TNt : Ty := .pr I (.pr I I)
abbrev purK (i j k : Nat) : SV := A [.own i TSu, .own j TNt, .v I, .v I, .v I, .map k .s I, .v .b]
abbrev purC (i j : Nat) : SV := purK i j 1
abbrev roomN (ns : List Nt) : Prop := ns.length ≤ 1000
abbrev fc47' : FC := ⟨[.v L], [.b], fun x K => x.1.length ≤ big ∧ ∀ b : Bool, b = validW x.1 → K (b, ())⟩
abbrev fcShare' : FC := ⟨[.v L, .v I], [L], fun x K => (validW x.1 = true ∧ 0 ≤ x.2.1 ∧ x.2.1 ≤ 34359738368) ∧ ∀ r, r = shareL x.1 x.2.1 → K (r, ())⟩
/-! Give -/
abbrev fcGive : FC2 := ⟨A [.box 0 (purC 2 3), .v I, .v L], 4, A [.box 0 (purC 4 5), .any, .any, .v L, .v E], 6, fun ((ss, ns, dy, wf, t, m, rdy, _), d, w, _) K => (okP (dy, wf, t, ss, ns) ∧ rdy = true ∧ roomN ns ∧ w.length ≤ big) ∧
  ∀ (ss1 : List Su) (ns1 : List Nt) (dy1 wf1 : Int) (l : List Int) (e : Int), ((dy1, wf1, t, ss1, ns1), l, e) = giveI (dy, wf, t, ss, ns) d w → K ((ss1, ns1, dy1, wf1, t, m, true, ()), (), (), l, e, ())⟩
theorem v45F (ss : List Su) (ns : List Nt) (dy wf t : Int) (m : List (Tx × Int)) (d : Int) (w : List Int) (K : fcGive.post.den → Prop) : (xfn2 Try.prog { nm := true, f := [(47, fc47'), (49, fcShare')] } 8 45 fcGive ((ss, ns, dy, wf, t, m, true, ()), d, w, ()) K) =
  (fork (decide (d ≥ (0 : Int))) (fork (decide (d ≤ (36500 : Int))) (fork (!decide (d ≥ dy)) (req (decide (0 + ss.length ≤ ss.length)) (req (decide (0 + ns.length ≤ ns.length)) (K ((seg 0 (ss.length) ss, seg 0 (ns.length)
 ns, dy, wf, t, m, true, ()), (), (), [], (34 : Int), ())))) (w.length ≤ 9223372036854775807 ∧ ∀ (b : Bool), b = Go.P7.validW w → fork (!b) (req (decide (0 + ss.length ≤ ss.length)) (req (decide (0 + ns.length ≤
 ns.length)) (K ((seg 0 (ss.length) ss, seg 0 (ns.length) ns, dy, wf, t, m, true, ()), (), (), [], (70 : Int), ())))) ((Go.P7.validW w = true ∧ (0 : AT.den (AT.v Go.P7.I)) ≤ wf ∧ wf ≤ (34359738368 : AT.den (AT.v Go.P7.I)))
 ∧ ∀ (r : List Int), r = Go.P7.shareL w wf → req (decide (0 + ns.length ≤ ns.length)) (req (fitsN (ns.length + 1) 24) (∀ (ys : List (Ty.den (Ty.pr (Ty.i IntKind.i64) (Ty.pr (Ty.i IntKind.i64) (Ty.i IntKind.i64))))), ys =
 seg 0 (ns.length) ns ++ [((4 : Int), d, wf)] → req (decide (0 + ss.length ≤ ss.length)) (req (decide (0 + (ns.length + 1) ≤ ys.length)) (K ((seg 0 (ss.length) ss, seg 0 (ns.length + 1) ys, d, (0 : Int), t, m, true, ()),
 (), (), r, (0 : Int), ())))))))) (req (decide (0 + ss.length ≤ ss.length)) (req (decide (0 + ns.length ≤ ns.length)) (K ((seg 0 (ss.length) ss, seg 0 (ns.length) ns, dy, wf, t, m, true, ()), (), (), [], (34 : Int),
 ()))))) (req (decide (0 + ss.length ≤ ss.length)) (req (decide (0 + ns.length ≤ ns.length)) (K ((seg 0 (ss.length) ss, seg 0 (ns.length) ns, dy, wf, t, m, true, ()), (), (), [], (34 : Int), ()))))) := by kernel_rfl
/-! Pay -/
abbrev fcPay : FC2 := ⟨A [.box 0 (purC 2 3), .v I, .v .s], 4, A [.box 0 (purC 4 5), .any, .any, .v I, .v E], 6, fun ((ss, ns, dy, wf, t, m, rdy, _), d, p, _) K => (okP (dy, wf, t, ss, ns) ∧ rdy = true ∧ roomN ns ∧ mapS m ss) ∧
  ∀ (ss1 : List Su) (ns1 : List Nt) (dy1 wf1 : Int) (n e : Int), ((dy1, wf1, t, ss1, ns1), n, e) = payI (dy, wf, t, ss, ns) d p → K ((ss1, ns1, dy1, wf1, t, m, true, ()), (), (), n, e, ())⟩
theorem v44F (ss : List Su) (ns : List Nt) (dy wf t : Int) (m : List (Tx × Int)) (d : Int) (p : Tx) (K : fcPay.post.den → Prop) : (xfn2 Try.prog { nm := true } 8 44 fcPay ((ss, ns, dy, wf, t, m, true, ()), d, p, ()) K) =
  (fork (decide (d ≥ (0 : Int))) (fork (decide (d ≤ (36500 : Int))) (fork (!decide (d ≥ dy)) (req (decide (0 + ss.length ≤ ss.length)) (req (decide (0 + ns.length ≤ ns.length)) (K ((seg 0 (ss.length) ss, seg 0 (ns.length)
 ns, dy, wf, t, m, true, ()), (), (), (0 : Int), (34 : Int), ())))) (fork (!Option.isSome (tmGet Ty.s m p)) (req (decide (0 + ss.length ≤ ss.length)) (req (decide (0 + ns.length ≤ ns.length)) (K ((seg 0 (ss.length) ss, seg
 0 (ns.length) ns, dy, wf, t, m, true, ()), (), (), (0 : Int), (73 : Int), ())))) (req (decide ((0 : Int) ≤ Option.getD (tmGet Ty.s m p) (0 : Int) ∧ Option.getD (tmGet Ty.s m p) (0 : Int) < (↑(ss.length) : Int))) (req
 (decide (Int.toNat (Option.getD (tmGet Ty.s m p) (0 : Int)) < ss.length)) (fork (((((List.getD ss (Int.toNat (Option.getD (tmGet Ty.s m p) (0 : Int))) ([], (0 : Int), (0 : Int), (0 : Int), (0 : Int))).2).2).2).1 == (1 :
 Int)) (req (decide (Int.toNat (Option.getD (tmGet Ty.s m p) (0 : Int)) < ss.length)) (req (inR IntKind.i64 ((((List.getD ss (Int.toNat (Option.getD (tmGet Ty.s m p) (0 : Int))) ([], (0 : Int), (0 : Int), (0 : Int), (0 :
 Int))).2).2).1 + t)) (fork (!!decide (d ≥ (((List.getD ss (Int.toNat (Option.getD (tmGet Ty.s m p) (0 : Int))) ([], (0 : Int), (0 : Int), (0 : Int), (0 : Int))).2).2).1 + t)) (req (decide (0 + ss.length ≤ ss.length)) (req
 (decide (0 + ns.length ≤ ns.length)) (K ((seg 0 (ss.length) ss, seg 0 (ns.length) ns, dy, wf, t, m, true, ()), (), (), (0 : Int), (73 : Int), ())))) (req (decide (Int.toNat (Option.getD (tmGet Ty.s m p) (0 : Int)) <
 ss.length)) (∀ (ys : List (Ty.den Go.P7.TSu)), ys = List.set ss (Int.toNat (Option.getD (tmGet Ty.s m p) (0 : Int))) ((List.getD ss (Int.toNat (Option.getD (tmGet Ty.s m p) (0 : Int))) ([], (0 : Int), (0 : Int), (0 :
 Int), (0 : Int))).1, ((List.getD ss (Int.toNat (Option.getD (tmGet Ty.s m p) (0 : Int))) ([], (0 : Int), (0 : Int), (0 : Int), (0 : Int))).2).1, (((List.getD ss (Int.toNat (Option.getD (tmGet Ty.s m p) (0 : Int))) ([], (0
 : Int), (0 : Int), (0 : Int), (0 : Int))).2).2).1, (2 : Int), ((((List.getD ss (Int.toNat (Option.getD (tmGet Ty.s m p) (0 : Int))) ([], (0 : Int), (0 : Int), (0 : Int), (0 : Int))).2).2).2).2) → req (decide (Int.toNat
 (Option.getD (tmGet Ty.s m p) (0 : Int)) < ys.length)) (∀ (ys_1 : List (Ty.den Go.P7.TSu)), ys_1 = List.set ys (Int.toNat (Option.getD (tmGet Ty.s m p) (0 : Int))) ((List.getD ys (Int.toNat (Option.getD (tmGet Ty.s m p)
 (0 : Int))) ([], (0 : Int), (0 : Int), (0 : Int), (0 : Int))).1, ((List.getD ys (Int.toNat (Option.getD (tmGet Ty.s m p) (0 : Int))) ([], (0 : Int), (0 : Int), (0 : Int), (0 : Int))).2).1, (((List.getD ys (Int.toNat
 (Option.getD (tmGet Ty.s m p) (0 : Int))) ([], (0 : Int), (0 : Int), (0 : Int), (0 : Int))).2).2).1, ((((List.getD ys (Int.toNat (Option.getD (tmGet Ty.s m p) (0 : Int))) ([], (0 : Int), (0 : Int), (0 : Int), (0 :
 Int))).2).2).2).1, d) → req (decide (Int.toNat (Option.getD (tmGet Ty.s m p) (0 : Int)) < ys_1.length)) (req (decide (0 + ns.length ≤ ns.length)) (req (fitsN (ns.length + 1) 24) (∀ (ys : List (Ty.den (Ty.pr (Ty.i
 IntKind.i64) (Ty.pr (Ty.i IntKind.i64) (Ty.i IntKind.i64))))), ys = seg 0 (ns.length) ns ++ [((2 : Int), d, ((List.getD ys_1 (Int.toNat (Option.getD (tmGet Ty.s m p) (0 : Int))) ([], (0 : Int), (0 : Int), (0 : Int), (0 :
 Int))).2).1)] → req (decide (0 + ss.length ≤ ys_1.length)) (req (decide (0 + (ns.length + 1) ≤ ys.length)) (K ((seg 0 (ss.length) ys_1, seg 0 (ns.length + 1) ys, d, wf, t, m, true, ()), (), (), ((List.getD ys_1 (Int.toNat
 (Option.getD (tmGet Ty.s m p) (0 : Int))) ([], (0 : Int), (0 : Int), (0 : Int), (0 : Int))).2).1, (0 : Int), ())))))))))))) (req (decide (0 + ss.length ≤ ss.length)) (req (decide (0 + ns.length ≤ ns.length)) (K ((seg 0
 (ss.length) ss, seg 0 (ns.length) ns, dy, wf, t, m, true, ()), (), (), (0 : Int), (73 : Int), ()))))))))) (req (decide (0 + ss.length ≤ ss.length)) (req (decide (0 + ns.length ≤ ns.length)) (K ((seg 0 (ss.length) ss, seg
 0 (ns.length) ns, dy, wf, t, m, true, ()), (), (), (0 : Int), (34 : Int), ()))))) (req (decide (0 + ss.length ≤ ss.length)) (req (decide (0 + ns.length ≤ ns.length)) (K ((seg 0 (ss.length) ss, seg 0 (ns.length) ns, dy,
 wf, t, m, true, ()), (), (), (0 : Int), (34 : Int), ()))))) := by kernel_rfl
/-! Pass -/
def chosenI {α : Type} (f : α → Bool) : List α → Int → List Int
  | [], _ => []
  | x :: l, i => if f x = true then i :: chosenI f l (i + 1) else chosenI f l (i + 1)
abbrev purL : SV := A [.lst 2 TSu, .lst 3 TNt, .v I, .v I, .v I, .map 1 .s I, .v .b]
abbrev bkP : List SV := [.blk 0 purL, .blk 4 (A [.ref 0]), .blk 5 (A [.v I]), .blk 6 (A [.v I]), .blk 7 (A [.v E])]
abbrev sh78 : SV := SB [(1, .fn 79 (A []) (A [.ref 4, .ref 5])), (5, .own 8 I), (8, .sls 2 5), (9, .v I), (10, .v I)] (A bkP)
abbrev sh78e : SV := SB [(5, .own 8 I)] (A bkP)
abbrev lc78 : LC2 := ⟨8, sh78, 9, fun (f, o, n, m, i, pu, u, d, z, e, _) Q => (n = pu.1.length ∧ m = pu.1.length ∧ 0 ≤ i ∧ i ≤ pu.1.length ∧ pu.1.length ≤ 256 ∧ (o.length : Int) ≤ i ∧ (0 ≤ pu.2.2.2.2.1 ∧ pu.2.2.2.2.1 ≤ 12000) ∧ ∀ x ∈ pu.1, 0 ≤ x.2.2.1 ∧ x.2.2.1 ≤ 36500) ∧
  ∀ r : List Int, r = o ++ chosenI (goB pu.2.2.2.2.1 d.1) (pu.1.drop i.toNat) i → Q (.exit 0) (stS 9 sh78e (r, pu, u, d, z, e, ()))⟩
theorem v78L (ss : List Su) (ns : List Nt) (dy wf t : Int) (m : List (Tx × Int)) (b : Bool) (o : List Int) (k i d z e : Int) (Q : AX → St → Prop) : (xloop2 Try.prog { nm := true } 5 78 0 lc78 (fun _ => some (sh78e, 9)) (fun (_, _, _, _, i, pu, _) => mL pu.1 i) (((), ((), (), ())), o, ss.length, k, i, (ss, ns, dy, wf, t, m, b, ()), ((), ()), (d, ()), (z, ()), (e, ()), ()) Q) =
  (fork (decide (i < k)) (req (decide ((0 : Int) ≤ i ∧ i < (↑(ss.length) : Int))) (req (decide (Int.toNat i < ss.length)) (fork ((List.getD ss (Int.toNat i) ([], (0 : Int), (0 : Int), (0 : Int), (0 : Int))).2.2.2.1 == (1 :
 Int)) (req (inR IntKind.i64 ((List.getD ss (Int.toNat i) ([], (0 : Int), (0 : Int), (0 : Int), (0 : Int))).2.2.1 + t)) (fork (decide (d ≥ (List.getD ss (Int.toNat i) ([], (0 : Int), (0 : Int), (0 : Int), (0 : Int))).2.2.1
 + t)) (req (decide (0 + o.length ≤ o.length)) (req (fitsN (o.length + 1) 8) (∀ (ys : List (Ty.den (Ty.i IntKind.i64))), ys = seg 0 (o.length) o ++ [i] → req (inR IntKind.i64 (i + 1)) (req (decide (0 + (o.length + 1) ≤
 ys.length)) (req (decide (ss.length = ss.length)) (req (decide (ns.length = ns.length)) (Go.P7.mL ss (i + 1) < Go.P7.mL ss i ∧ LC2.spec Go.P7.lc78 (((), (), (), ()), seg 0 (o.length + 1) ys, ss.length, k, i + 1, (ss, ns,
 dy, wf, t, m, b, ()), ((), ()), (d, ()), (z, ()), (e, ()), ()) Q))))))) (req (inR IntKind.i64 (i + 1)) (req (decide (0 + o.length ≤ o.length)) (req (decide (ss.length = ss.length)) (req (decide (ns.length = ns.length))
 (Go.P7.mL ss (i + 1) < Go.P7.mL ss i ∧ LC2.spec Go.P7.lc78 (((), (), (), ()), seg 0 (o.length) o, ss.length, k, i + 1, (ss, ns, dy, wf, t, m, b, ()), ((), ()), (d, ()), (z, ()), (e, ()), ()) Q))))))) (req (inR IntKind.i64
 (i + 1)) (req (decide (0 + o.length ≤ o.length)) (req (decide (ss.length = ss.length)) (req (decide (ns.length = ns.length)) (Go.P7.mL ss (i + 1) < Go.P7.mL ss i ∧ LC2.spec Go.P7.lc78 (((), (), (), ()), seg 0 (o.length)
 o, ss.length, k, i + 1, (ss, ns, dy, wf, t, m, b, ()), ((), ()), (d, ()), (z, ()), (e, ()), ()) Q)))))))) (req (decide (0 + o.length ≤ o.length)) (req (decide (ss.length = ss.length)) (req (decide (ns.length = ns.length))
 (Q (AX.exit 0) (stS 9 Go.P7.sh78e (seg 0 (o.length) o, (ss, ns, dy, wf, t, m, b, ()), ((), ()), (d, ()), (z, ()), (e, ()), ()))))))) := by kernel_rfl
def goAll (d : Int) (ss : List Su) (js : List Int) : List Su := js.foldl (fun ss j => ss.set j.toNat (overI (ss.getD j.toNat U0) 3 d)) ss
def goSum (ss : List Su) (js : List Int) : Int := (js.map fun j => (ss.getD j.toNat U0).2.1).sum
abbrev sh77 : SV := SB [(0, .ref 4), (1, .ref 5), (2, .ref 6), (13, .lst 8 I), (14, .v I), (15, .v I)] (A bkP)
abbrev sh77e : SV := SB [(0, .ref 4), (1, .ref 5), (2, .ref 6)] (A bkP)
abbrev lc77 : LC2 := ⟨8, sh77, 9, fun (_, _, _, js, k, i, pu, u, d, z, e, _) Q => (k = js.length ∧ 0 ≤ i ∧ i ≤ js.length ∧ js.length ≤ 256 ∧ (∀ j ∈ js, 0 ≤ j ∧ j < pu.1.length) ∧ (∀ x ∈ pu.1, 0 ≤ x.2.1 ∧ x.2.1 ≤ 67108864) ∧ 0 ≤ z.1 ∧ z.1 ≤ i * 67108864) ∧
  ∀ (s1 : List Su) (z1 : Int), s1 = goAll d.1 pu.1 (js.drop i.toNat) → z1 = z.1 + goSum pu.1 (js.drop i.toNat) → Q (.exit 0) (stS 9 sh77e ((), (), (), (s1, pu.2), u, d, (z1, ()), e, ()))⟩
theorem v77L (ss : List Su) (ns : List Nt) (dy wf t : Int) (m : List (Tx × Int)) (b : Bool) (js : List Int) (k i d z e : Int) (Q : AX → St → Prop) : (xloop2 Try.prog { nm := true, f := [(80, fcSum)] } 5 77 0 lc77 (fun _ => some (sh77e, 9)) (fun (_, _, _, js, _, i, _) => mL js i) ((), (), (), js, k, i, (ss, ns, dy, wf, t, m, b, ()), ((), ()), (d, ()), (z, ()), (e, ()), ()) Q) =
  (fork (decide (i < k)) (req (decide ((0 : Int) ≤ i ∧ i < (↑(js.length) : Int))) (req (decide (Int.toNat i + 0 < js.length)) (req (decide ((0 : Int) ≤ List.getD js (Int.toNat i + 0) (0 : Int) ∧ List.getD js (Int.toNat i +
 0) (0 : Int) < (↑(ss.length) : Int))) (req (decide (Int.toNat (List.getD js (Int.toNat i + 0) (0 : Int)) < ss.length)) (∀ (ys : List (Ty.den Go.P7.TSu)), ys = List.set ss (Int.toNat (List.getD js (Int.toNat i + 0) (0 :
 Int))) ((List.getD ss (Int.toNat (List.getD js (Int.toNat i + 0) (0 : Int))) ([], (0 : Int), (0 : Int), (0 : Int), (0 : Int))).1, ((List.getD ss (Int.toNat (List.getD js (Int.toNat i + 0) (0 : Int))) ([], (0 : Int), (0 :
 Int), (0 : Int), (0 : Int))).2).1, (((List.getD ss (Int.toNat (List.getD js (Int.toNat i + 0) (0 : Int))) ([], (0 : Int), (0 : Int), (0 : Int), (0 : Int))).2).2).1, (3 : Int), ((((List.getD ss (Int.toNat (List.getD js
 (Int.toNat i + 0) (0 : Int))) ([], (0 : Int), (0 : Int), (0 : Int), (0 : Int))).2).2).2).2) → req (decide (Int.toNat (List.getD js (Int.toNat i + 0) (0 : Int)) < ys.length)) (∀ (ys_1 : List (Ty.den Go.P7.TSu)), ys_1 =
 List.set ys (Int.toNat (List.getD js (Int.toNat i + 0) (0 : Int))) ((List.getD ys (Int.toNat (List.getD js (Int.toNat i + 0) (0 : Int))) ([], (0 : Int), (0 : Int), (0 : Int), (0 : Int))).1, ((List.getD ys (Int.toNat
 (List.getD js (Int.toNat i + 0) (0 : Int))) ([], (0 : Int), (0 : Int), (0 : Int), (0 : Int))).2).1, (((List.getD ys (Int.toNat (List.getD js (Int.toNat i + 0) (0 : Int))) ([], (0 : Int), (0 : Int), (0 : Int), (0 :
 Int))).2).2).1, ((((List.getD ys (Int.toNat (List.getD js (Int.toNat i + 0) (0 : Int))) ([], (0 : Int), (0 : Int), (0 : Int), (0 : Int))).2).2).2).1, d) → req (decide (Int.toNat (List.getD js (Int.toNat i + 0) (0 : Int))
 < ys_1.length)) ((2 ≤ 9223372036854775807 ∧ Go.P7.fitS (0 : Int) [z, ((List.getD ys_1 (Int.toNat (List.getD js (Int.toNat i + 0) (0 : Int))) ([], (0 : Int), (0 : Int), (0 : Int), (0 : Int))).2).1]) ∧ req (inR IntKind.i64
 (i + 1)) (req (decide (js.length = js.length)) (req (decide (ss.length = ys_1.length)) (req (decide (ns.length = ns.length)) (Go.P7.mL js (i + 1) < Go.P7.mL js i ∧ LC2.spec Go.P7.lc77 ((), (), (), js, k, i + 1, (ys_1, ns,
 dy, wf, t, m, b, ()), ((), ()), (d, ()), (List.sum [z, ((List.getD ys_1 (Int.toNat (List.getD js (Int.toNat i + 0) (0 : Int))) ([], (0 : Int), (0 : Int), (0 : Int), (0 : Int))).2).1], ()), (e, ()), ()) Q))))))))))) (req
 (decide (ss.length = ss.length)) (req (decide (ns.length = ns.length)) (Q (AX.exit 0) (stS 9 Go.P7.sh77e ((), (), (), (ss, ns, dy, wf, t, m, b, ()), ((), ()), (d, ()), (z, ()), (e, ()), ())))))) := by kernel_rfl
abbrev fcPass : FC2 := ⟨A [.box 0 (purC 2 3), .v I], 4, A [.box 0 (purC 4 5), .any, .v I, .v E], 6, fun ((ss, ns, dy, wf, t, m, rdy, _), d, _) K => (okP (dy, wf, t, ss, ns) ∧ rdy = true ∧ roomN ns) ∧
  ∀ (ss1 : List Su) (ns1 : List Nt) (dy1 wf1 : Int) (n e : Int), ((dy1, wf1, t, ss1, ns1), n, e) = passI (dy, wf, t, ss, ns) d → K ((ss1, ns1, dy1, wf1, t, m, true, ()), (), n, e, ())⟩
theorem v46F (ss : List Su) (ns : List Nt) (dy wf t : Int) (m : List (Tx × Int)) (d : Int) (K : fcPass.post.den → Prop) : (xfn2 Try.prog { nm := true, f := [(80, fcSum)], l2 := [(78, 0, lc78), (77, 0, lc77)] } 8 46 fcPass ((ss, ns, dy, wf, t, m, true, ()), d, ()) K) =
  (fork (decide (d ≥ (0 : Int))) (fork (decide (d ≤ (36500 : Int))) (fork (!decide (d ≥ dy)) (req (decide (0 + ss.length ≤ ss.length)) (req (decide (0 + ns.length ≤ ns.length)) (K ((seg 0 (ss.length) ss, seg 0 (ns.length)
 ns, dy, wf, t, m, true, ()), (), (0 : Int), (34 : Int), ())))) (req (decide (ss.length = ss.length)) (req (decide (ns.length = ns.length)) ((ss.length = ss.length ∧ (↑(ss.length) : Int) = (↑(ss.length) : SV.den (SV.slot 9
 (SV.v Go.P7.I))) ∧ (0 : SV.den (SV.slot 10 (SV.v Go.P7.I))) ≤ (0 : Int) ∧ (0 : Int) ≤ (↑(ss.length) : SV.den (SV.slot 10 (SV.v Go.P7.I))) ∧ ss.length ≤ 256 ∧ (0 : Int) ≤ (0 : Int) ∧ ((0 : SV.den (SV.v Go.P7.I)) ≤ t ∧ t ≤
 (12000 : SV.den (SV.v Go.P7.I))) ∧ ∀ (x : Ty.den Go.P7.TSu), x ∈ ss → (0 : Ty.den Go.P7.I) ≤ x.2.2.1 ∧ x.2.2.1 ≤ (36500 : Ty.den Go.P7.I)) ∧ ∀ (r : List Int), r = [] ++ Go.P7.chosenI (Go.P7.goB t d) (List.drop 0 ss) (0 :
 Int) → req (decide (r.length = r.length)) (req (decide (ss.length = ss.length)) (req (decide (ns.length = ns.length)) (((↑(r.length) : Int) = (↑(r.length) : SV.den (SV.slot 14 (SV.v Go.P7.I))) ∧ (0 : SV.den (SV.slot 15
 (SV.v Go.P7.I))) ≤ (0 : Int) ∧ (0 : Int) ≤ (↑(r.length) : SV.den (SV.slot 15 (SV.v Go.P7.I))) ∧ r.length ≤ 256 ∧ (∀ (j : Ty.den Go.P7.I), j ∈ r → (0 : Ty.den Go.P7.I) ≤ j ∧ j < (↑(ss.length) : Ty.den Go.P7.I)) ∧ (∀ (x :
 Ty.den Go.P7.TSu), x ∈ ss → (0 : Ty.den Go.P7.I) ≤ x.2.1 ∧ x.2.1 ≤ (67108864 : Ty.den Go.P7.I)) ∧ (0 : SV.den (SV.v Go.P7.I)) ≤ (0 : Int) ∧ (0 : Int) ≤ (0 : Int) * (67108864 : SV.den (SV.v Go.P7.I))) ∧ ∀ (s1 : List
 Go.P7.Su) (z1 : Int), s1 = Go.P7.goAll d ss (List.drop 0 r) → z1 = (0 : Int) + Go.P7.goSum ss (List.drop 0 r) → req (inR IntKind.i64 (wf + z1)) (req (decide (0 + ns.length ≤ ns.length)) (req (fitsN (ns.length + 1) 24) (∀
 (ys : List (Ty.den (Ty.pr (Ty.i IntKind.i64) (Ty.pr (Ty.i IntKind.i64) (Ty.i IntKind.i64))))), ys = seg 0 (ns.length) ns ++ [((3 : Int), d, z1)] → req (decide (0 + s1.length ≤ s1.length)) (req (decide (0 + (ns.length + 1)
 ≤ ys.length)) (K ((seg 0 (s1.length) s1, seg 0 (ns.length + 1) ys, d, wf + z1, t, m, true, ()), (), z1, (0 : Int), ()))))))))))))) (req (decide (0 + ss.length ≤ ss.length)) (req (decide (0 + ns.length ≤ ns.length)) (K
 ((seg 0 (ss.length) ss, seg 0 (ns.length) ns, dy, wf, t, m, true, ()), (), (0 : Int), (34 : Int), ()))))) (req (decide (0 + ss.length ≤ ss.length)) (req (decide (0 + ns.length ≤ ns.length)) (K ((seg 0 (ss.length) ss, seg
 0 (ns.length) ns, dy, wf, t, m, true, ()), (), (0 : Int), (34 : Int), ()))))) := by kernel_rfl
/-! Sell -/
def leftB (o : Po) : Bool := decide (0 < o.2.2)
abbrev sh72 : SV := S [(1, .a (.clo 73 [] [])), (5, .own 0 I), (8, .v LPo), (9, .v I), (10, .v I)]
abbrev sh72e : SV := S [(5, .own 0 I)]
abbrev lc72 : LC2 := ⟨0, sh72, 1, fun (_, o, l, m, i, _) Q => (0 ≤ i ∧ i ≤ l.length ∧ m = l.length ∧ l.length ≤ 256 ∧ (o.length : Int) ≤ i) ∧ ∀ r, r = o ++ chosenI leftB (l.drop i.toNat) i → Q (.exit 0) (stS 1 sh72e (r, ()))⟩
theorem v72L (o : List Int) (l : List Po) (m i : Int) (Q : AX → St → Prop) : (xloop2 Try.prog { nm := true } 5 72 0 lc72 (fun _ => some (sh72e, 1)) (fun (_, _, l, _, i, _) => mL l i) (((), ()), o, l, m, i, ()) Q) =
  (fork (decide (i < m)) (req (decide ((0 : Int) ≤ i ∧ i < (↑(l.length) : Int))) (fork (decide ((List.getD l (Int.toNat i) ((0 : Int), [], (0 : Int))).2.2 > (0 : Int))) (req (decide (0 + o.length ≤ o.length)) (req (fitsN
 (o.length + 1) 8) (∀ (ys : List (Ty.den (Ty.i IntKind.i64))), ys = seg 0 (o.length) o ++ [i] → req (inR IntKind.i64 (i + 1)) (req (decide (0 + (o.length + 1) ≤ ys.length)) (Go.P7.mL l (i + 1) < Go.P7.mL l i ∧ LC2.spec
 Go.P7.lc72 (((), ()), seg 0 (o.length + 1) ys, l, m, i + 1, ()) Q))))) (req (inR IntKind.i64 (i + 1)) (req (decide (0 + o.length ≤ o.length)) (Go.P7.mL l (i + 1) < Go.P7.mL l i ∧ LC2.spec Go.P7.lc72 (((), ()), seg 0
 (o.length) o, l, m, i + 1, ()) Q))))) (req (decide (0 + o.length ≤ o.length)) (Q (AX.exit 0) (stS 1 Go.P7.sh72e (seg 0 (o.length) o, ()))))) := by kernel_rfl
abbrev fc72 : FC := ⟨[.v LPo, .clo 73 [] []], [L], fun x K => x.1.length ≤ 256 ∧ ∀ r, r = chosenI leftB x.1 0 → K (r, ())⟩
theorem v72F (l : List Po) (K : dens [L] → Prop) : (xfn1 Try.prog { nm := true, l2 := [(72, 0, lc72)] } 5 72 fc72 (l, ((), ()), ()) K) =
  (((0 : SV.den (SV.slot 10 (SV.v Go.P7.I))) ≤ (0 : Int) ∧ (0 : Int) ≤ (↑(l.length) : SV.den (SV.slot 10 (SV.v Go.P7.I))) ∧ (↑(l.length) : Int) = (↑(l.length) : SV.den (SV.slot 9 (SV.v Go.P7.I))) ∧ l.length ≤ 256 ∧ (0 :
 Int) ≤ (0 : Int)) ∧ ∀ (r : SV.den (SV.slot ((5, SV.own 0 Go.P7.I).1) ((5, SV.own 0 Go.P7.I).2))), r = [] ++ Go.P7.chosenI Go.P7.leftB (List.drop 0 l) (0 : Int) → req (decide (0 + r.length ≤ r.length)) (K (seg 0 (r.length)
 r, ()))) := by kernel_rfl
abbrev bkS (pu : SV) : List SV := [.blk 0 pu, .blk 4 (A [.ref 0]), .blk 5 (A [.v I]), .blk 6 (A [.v I]), .blk 7 (A [.v LPa]), .blk 8 (A [.v LPo]), .blk 9 (A [.v E])]
abbrev caps : List (Nat × SV) := [(0, .ref 6), (1, .ref 7), (2, .ref 4), (3, .ref 5), (4, .ref 8), (6, .v LPo)]
abbrev sh70a : SV := SB [(0, .ref 6), (1, .ref 7), (2, .ref 4), (3, .ref 5), (4, .ref 8), (6, .v LPo), (25, .v LPa), (26, .v I), (27, .v I)] (A (bkS purL))
abbrev sh70ae : SV := SB [(0, .ref 6), (1, .ref 7), (2, .ref 4), (3, .ref 5), (4, .ref 8), (6, .v LPo)] (A (bkS purL))
abbrev sh70ap : SV := SB [] (A [.blk 0 purL, .blk 8 (A [.v LPo]), .blk 9 (A [.v E])])
def ex70a : Ex2
  | .panic _ => some (sh70ap, 10)
  | _ => some (sh70ae, 10)
abbrev refu (e : Int) : AV := .iface 133 (.agg [.int .i64 e])
abbrev lc70a : LC2 := ⟨10, sh70a, 10, fun (_, _, _, _, _, os, l, k, i, pu, u, d, pr, ps, ot, e, _) Q => (k = l.length ∧ 0 ≤ i ∧ i ≤ l.length ∧ l.length ≤ 8 ∧ mapS pu.2.2.2.2.2.1 pu.1) ∧
  (((l.drop i.toNat).any fun p => pu.1.any (ofB p.1)) = true → Q (.panic (refu 33)) (stS 10 sh70ap (pu, ot, e, ()))) ∧
  (((l.drop i.toNat).any fun p => pu.1.any (ofB p.1)) = false → Q (.exit 0) (stS 10 sh70ae ((), (), (), (), (), os, pu, u, d, pr, ps, ot, e, ())))⟩
theorem v70A (ss : List Su) (ns : List Nt) (dy wf t : Int) (m : List (Tx × Int)) (b : Bool) (os ot : List Po) (l ps : List Pa) (k i d pr e : Int) (Q : AX → St → Prop) : (xloop2 Try.prog { nm := true } 5 70 0 lc70a ex70a (fun (_, _, _, _, _, _, l, _, i, _) => mL l i) ((), (), (), (), (), os, l, k, i, (ss, ns, dy, wf, t, m, b, ()), ((), ()), (d, ()), (pr, ()), (ps, ()), (ot, ()), (e, ()), ()) Q) =
  (fork (decide (i < k)) (req (decide ((0 : Int) ≤ i ∧ i < (↑(l.length) : Int))) (fork (!!Option.isSome (tmGet Ty.s m ((List.getD l (Int.toNat i) ([], (0 : Int), [])).1))) (req (decide (ss.length = ss.length)) (req (decide
 (ns.length = ns.length)) (Q (AX.panic (AV.iface 133 (AV.agg [AV.int IntKind.i64 (33 : Int)]))) (stS 10 Go.P7.sh70ap ((ss, ns, dy, wf, t, m, b, ()), (ot, ()), (e, ()), ()))))) (req (inR IntKind.i64 (i + 1)) (req (decide
 (ss.length = ss.length)) (req (decide (ns.length = ns.length)) (Go.P7.mL l (i + 1) < Go.P7.mL l i ∧ LC2.spec Go.P7.lc70a ((), (), (), (), (), os, l, k, i + 1, (ss, ns, dy, wf, t, m, b, ()), ((), ()), (d, ()), (pr, ()),
 (ps, ()), (ot, ()), (e, ()), ()) Q)))))) (req (decide (ss.length = ss.length)) (req (decide (ns.length = ns.length)) (Q (AX.exit 0) (stS 10 Go.P7.sh70ae ((), (), (), (), (), os, (ss, ns, dy, wf, t, m, b, ()), ((), ()),
 (d, ()), (pr, ()), (ps, ()), (ot, ()), (e, ()), ())))))) := by kernel_rfl
def addS (d : Int) (ps : List Pa) (os : List Po) (js : List Int) : List Su := js.map fun j => ((ps.getD j.toNat ([], 0, [])).1, (os.getD j.toNat (0, [], 0)).2.2, d, 1, 0)
abbrev purD : SV := A [.own 10 TSu, .lst 3 TNt, .v I, .v I, .v I, .map 1 .s I, .v .b]
abbrev sh70b : SV := SB [(0, .ref 6), (1, .ref 7), (2, .ref 4), (3, .ref 5), (4, .ref 8), (6, .v LPo), (58, .v L), (59, .v I), (60, .v I)] (A (bkS purD))
abbrev sh70be : SV := SB [(0, .ref 6), (1, .ref 7), (2, .ref 4), (3, .ref 5), (4, .ref 8), (6, .v LPo)] (A (bkS purD))
abbrev lc70b : LC2 := ⟨10, sh70b, 11, fun (_, _, _, _, _, os, js, k, i, pu, u, d, pr, ps, ot, e, _) Q => (k = js.length ∧ 0 ≤ i ∧ i ≤ js.length ∧ js.length ≤ 8 ∧ pu.1.length + (js.length - i) ≤ 256 ∧ (∀ j ∈ js, 0 ≤ j ∧ j < ps.1.length ∧ j < os.length) ∧ mapS pu.2.2.2.2.2.1 pu.1 ∧ (∀ x ∈ addS d.1 ps.1 os (js.drop i.toNat), pu.1.any (ofB x.1) = false) ∧ ((addS d.1 ps.1 os (js.drop i.toNat)).map (·.1)).Nodup) ∧
  ∀ (s1 : List Su) (m1 : List (Tx × Int)), s1 = pu.1 ++ addS d.1 ps.1 os (js.drop i.toNat) → mapS m1 s1 → Q (.exit 2) (stS 11 sh70be ((), (), (), (), (), os, (s1, pu.2.1, pu.2.2.1, pu.2.2.2.1, pu.2.2.2.2.1, m1, pu.2.2.2.2.2.2), u, d, pr, ps, ot, e, ()))⟩
theorem v70B (ss : List Su) (ns : List Nt) (dy wf t : Int) (m : List (Tx × Int)) (b : Bool) (os ot : List Po) (js : List Int) (ps : List Pa) (k i d pr e : Int) (Q : AX → St → Prop) : (xloop2 Try.prog { nm := true } 5 70 1 lc70b (fun _ => some (sh70be, 11)) (fun (_, _, _, _, _, _, js, _, i, _) => mL js i) ((), (), (), (), (), os, js, k, i, (ss, ns, dy, wf, t, m, b, ()), ((), ()), (d, ()), (pr, ()), (ps, ()), (ot, ()), (e, ()), ()) Q) =
  (fork (decide (i < k)) (req (decide ((0 : Int) ≤ i ∧ i < (↑(js.length) : Int))) (req (decide ((0 : Int) ≤ List.getD js (Int.toNat i) (0 : Int) ∧ List.getD js (Int.toNat i) (0 : Int) < (↑(ps.length) : Int))) (req (decide
 ((0 : Int) ≤ List.getD js (Int.toNat i) (0 : Int) ∧ List.getD js (Int.toNat i) (0 : Int) < (↑(ps.length) : Int))) (req (decide ((0 : Int) ≤ List.getD js (Int.toNat i) (0 : Int) ∧ List.getD js (Int.toNat i) (0 : Int) <
 (↑(os.length) : Int))) (AV.sl 10 5 0 (ss.length) none = AV.sl 10 5 0 (ss.length) none ∧ AV.ptr 0 0 0 = AV.ptr 0 0 0 ∧ AV.ptr 0 0 0 = AV.ptr 0 0 0 ∧ req (decide (0 + ss.length ≤ ss.length)) (req (fitsN (ss.length + 1) 48)
 (∀ (ys : List (Ty.den (Ty.pr Ty.s (Ty.pr (Ty.i IntKind.i64) (Ty.pr (Ty.i IntKind.i64) (Ty.pr (Ty.i IntKind.i64) (Ty.i IntKind.i64))))))), ys = seg 0 (ss.length) ss ++ [((List.getD ps (Int.toNat (List.getD js (Int.toNat i)
 (0 : Int))) ([], (0 : Int), [])).1, ((List.getD os (Int.toNat (List.getD js (Int.toNat i) (0 : Int))) ((0 : Int), [], (0 : Int))).2).2, d, (1 : Int), (0 : Int))] → AV.ptr 0 0 0 = AV.ptr 0 0 0 ∧ req (inR IntKind.i64 (i +
 1)) (req (decide (0 + (ss.length + 1) ≤ ys.length)) (req (decide (ns.length = ns.length)) (Go.P7.mL js (i + 1) < Go.P7.mL js i ∧ LC2.spec Go.P7.lc70b ((), (), (), (), (), os, js, k, i + 1, (seg 0 (ss.length + 1) ys, ns,
 dy, wf, t, tmPut Ty.s m ((List.getD ps (Int.toNat (List.getD js (Int.toNat i) (0 : Int))) ([], (0 : Int), [])).1) (↑(ss.length) : Int), b, ()), ((), ()), (d, ()), (pr, ()), (ps, ()), (ot, ()), (e, ()), ()) Q))))))))))
 (req (decide (0 + ss.length ≤ ss.length)) (req (decide (ns.length = ns.length)) (Q (AX.exit 2) (stS 11 Go.P7.sh70be ((), (), (), (), (), os, (seg 0 (ss.length) ss, ns, dy, wf, t, m, b, ()), ((), ()), (d, ()), (pr, ()),
 (ps, ()), (ot, ()), (e, ()), ())))))) := by kernel_rfl
abbrev fcSell : FC2 := ⟨A [.box 0 (purC 2 3), .v I, .v I, .v LPa], 4, A [.box 0 (purC 4 5), .any, .any, .any, .v LPo, .v E], 6, fun ((ss, ns, dy, wf, t, m, rdy, _), d, pr, ps, _) K => (okP (dy, wf, t, ss, ns) ∧ rdy = true ∧ roomN ns ∧ mapS m ss ∧ ps.length ≤ big ∧ ∀ p ∈ ps, p.1.length ≤ big ∧ p.2.2.length ≤ big) ∧
  ∀ (ss1 : List Su) (ns1 : List Nt) (dy1 wf1 : Int) (m1 : List (Tx × Int)) (os : List Po) (e : Int), ((dy1, wf1, t, ss1, ns1), os, e) = sellI (dy, wf, t, ss, ns) d pr ps → mapS m1 ss1 → K ((ss1, ns1, dy1, wf1, t, m1, true, ()), (), (), (), os, e, ())⟩
theorem v42F (ss : List Su) (ns : List Nt) (dy wf t : Int) (m : List (Tx × Int)) (d pr : Int) (ps : List Pa) (K : fcSell.post.den → Prop) : (xfn2 Try.prog { nm := true, f := [(20, fcPort), (72, fc72)], l2 := [(70, 0, lc70a), (70, 1, lc70b)] } 8 42 fcSell ((ss, ns, dy, wf, t, m, true, ()), d, pr, ps, ()) K) =
  (fork (decide (d ≥ (0 : Int))) (fork (decide (d ≤ (36500 : Int))) (fork (!decide (d ≥ dy)) (req (decide (0 + ss.length ≤ ss.length)) (req (decide (0 + ns.length ≤ ns.length)) (K ((seg 0 (ss.length) ss, seg 0 (ns.length)
 ns, dy, wf, t, m, true, ()), (), (), (), [], (34 : Int), ())))) ((ps.length ≤ 9223372036854775807 ∧ ∀ (p : Go.P7.Pa), p ∈ ps → List.length (p.1) ≤ 9223372036854775807 ∧ List.length (p.2.2) ≤ 9223372036854775807) ∧ ∀ (r :
 List Go.P7.Po) (e : Int), Go.P7.portR pr ps = (r, e) → fork (!e == (0 : Int)) (req (decide (0 + ss.length ≤ ss.length)) (req (decide (0 + ns.length ≤ ns.length)) (K ((seg 0 (ss.length) ss, seg 0 (ns.length) ns, dy, wf, t,
 m, true, ()), (), (), (), [], e, ())))) (req (decide (ss.length = ss.length)) (req (decide (ns.length = ns.length)) (((↑(ps.length) : Int) = (↑(ps.length) : SV.den (SV.slot 26 (SV.v Go.P7.I))) ∧ (0 : SV.den (SV.slot 27
 (SV.v Go.P7.I))) ≤ (0 : Int) ∧ (0 : Int) ≤ (↑(ps.length) : SV.den (SV.slot 27 (SV.v Go.P7.I))) ∧ ps.length ≤ 8 ∧ Go.P7.mapS m ss) ∧ ((List.any (List.drop 0 ps) fun p => List.any ss (Go.P7.ofB (p.1))) = true → req (decide
 (0 + ss.length ≤ ss.length)) (req (decide (0 + ns.length ≤ ns.length)) (K ((seg 0 (ss.length) ss, seg 0 (ns.length) ns, dy, wf, t, m, true, ()), (), (), (), [], (33 : Int), ())))) ∧ ((List.any (List.drop 0 ps) fun p =>
 List.any ss (Go.P7.ofB (p.1))) = false → r.length ≤ 256 ∧ ∀ (r_1 : List Int), r_1 = Go.P7.chosenI Go.P7.leftB r (0 : Int) → req (inR IntKind.i64 ((↑(ss.length) : Int) + (↑(r_1.length) : Int))) (fork (!decide
 ((↑(ss.length) : Int) + (↑(r_1.length) : Int) ≤ (256 : Int))) (req (decide (0 + ss.length ≤ ss.length)) (req (decide (0 + ns.length ≤ ns.length)) (K ((seg 0 (ss.length) ss, seg 0 (ns.length) ns, dy, wf, t, m, true, ()),
 (), (), (), [], (6 : Int), ())))) (req (decide (0 + ss.length ≤ ss.length)) (req (decide (ns.length = ns.length)) (((↑(r_1.length) : Int) = (↑(r_1.length) : SV.den (SV.slot 59 (SV.v Go.P7.I))) ∧ (0 : SV.den (SV.slot 60
 (SV.v Go.P7.I))) ≤ (0 : Int) ∧ (0 : Int) ≤ (↑(r_1.length) : SV.den (SV.slot 60 (SV.v Go.P7.I))) ∧ r_1.length ≤ 8 ∧ (↑(List.length (seg 0 (ss.length) ss)) : SV.den (SV.slot 60 (SV.v Go.P7.I))) + ((↑(r_1.length) : SV.den
 (SV.slot 60 (SV.v Go.P7.I))) - 0) ≤ (256 : SV.den (SV.slot 60 (SV.v Go.P7.I))) ∧ (∀ (j : Ty.den Go.P7.I), j ∈ r_1 → (0 : Ty.den Go.P7.I) ≤ j ∧ j < (↑(ps.length) : Ty.den Go.P7.I) ∧ j < (↑(r.length) : Ty.den Go.P7.I)) ∧
 Go.P7.mapS m (seg 0 (ss.length) ss) ∧ (∀ (x : Go.P7.Su), x ∈ Go.P7.addS d ps r (List.drop 0 r_1) → List.any (seg 0 (ss.length) ss) (Go.P7.ofB (x.1)) = false) ∧ List.Nodup (List.map (fun x => x.1) (Go.P7.addS d ps r
 (List.drop 0 r_1)))) ∧ ∀ (s1 : List Go.P7.Su) (m1 : List (Go.P7.Tx × Int)), s1 = seg 0 (ss.length) ss ++ Go.P7.addS d ps r (List.drop 0 r_1) → Go.P7.mapS m1 s1 → req (decide (0 + ns.length ≤ ns.length)) (req (fitsN
 (ns.length + 1) 24) (∀ (ys : List (Ty.den (Ty.pr (Ty.i IntKind.i64) (Ty.pr (Ty.i IntKind.i64) (Ty.i IntKind.i64))))), ys = seg 0 (ns.length) ns ++ [((1 : Int), d, pr)] → req (decide (0 + s1.length ≤ s1.length)) (req
 (decide (0 + (ns.length + 1) ≤ ys.length)) (K ((seg 0 (s1.length) s1, seg 0 (ns.length + 1) ys, d, wf, t, m1, true, ()), (), (), (), r, (0 : Int), ()))))))))))))))) (req (decide (0 + ss.length ≤ ss.length)) (req (decide
 (0 + ns.length ≤ ns.length)) (K ((seg 0 (ss.length) ss, seg 0 (ns.length) ns, dy, wf, t, m, true, ()), (), (), (), [], (34 : Int), ()))))) (req (decide (0 + ss.length ≤ ss.length)) (req (decide (0 + ns.length ≤
 ns.length)) (K ((seg 0 (ss.length) ss, seg 0 (ns.length) ns, dy, wf, t, m, true, ()), (), (), (), [], (34 : Int), ()))))) := by kernel_rfl
end Go.P7
