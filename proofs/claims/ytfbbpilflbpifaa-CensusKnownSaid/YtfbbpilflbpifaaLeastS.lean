/- The cheapest sample: states and what is to be shown, reduced. No conditions. -/
import Derived.Test.YtfbbpilflbpifaaAudP
set_option linter.unusedSimpArgs false
set_option linter.unusedVariables false
set_option linter.constructorNameAsVariable false
set_option maxRecDepth 100000
set_option maxHeartbeats 2000000
namespace Go.P10
open Go.Lom Go.Proofs Go
def badC (n : Int) : Bool := !decide (0 ≤ n ∧ n ≤ 1000)
theorem v96L73 (l : List Int) (m i : Int) (Q : AX → St → Prop) : (xloop2 Try.prog {} 5 96 0 (lc96 73 badC) ex96 (fun (l, _, m, i, _) => mL l i) (l, ((), ()), m, i, ()) Q) =
  (fork (decide (i < m)) (req (decide ((0 : Int) ≤ i ∧ i < (↑(l.length) : Int))) (fork (decide (List.getD l (Int.toNat i) (0 : Int) ≥ (0 : Int))) (fork (!decide (List.getD l (Int.toNat i) (0 : Int) ≤ (1000 : Int))) (Q
 AX.ret (stS 0 shR4i (i, ()))) (req (inR IntKind.i64 (i + 1)) (mL l (i + 1) < mL l i ∧ LC2.spec (lc96 73 badC) (l, ((), ()), m, i + 1, ()) Q))) (Q AX.ret (stS 0 shR4i (i, ()))))) (Q (AX.exit 0) (stS 0 SV.nil ()))) := by kernel_rfl
theorem v96F73 (l : List Int) (K : dens [I] → Prop) : (xfn1 Try.prog { l2 := [(96, 0, lc96 73 badC)] } 5 96 (fc96 73 badC) (l, ((), ()), ()) K) =
  (((0 : SV.den (SV.slot 8 (SV.v I))) ≤ (0 : Int) ∧ (0 : Int) ≤ (↑(l.length) : SV.den (SV.slot 8 (SV.v I))) ∧ (↑(l.length) : Int) = (↑(l.length) : SV.den (SV.slot 7 (SV.v I))) ∧ l.length ≤ 9223372036854775807) ∧ (idxF badC
 (List.drop 0 l) (0 : Int) < (0 : Int) → K ((-1 : Int), ())) ∧ ((0 : Int) ≤ idxF badC (List.drop 0 l) (0 : Int) → K (idxF badC (List.drop 0 l) (0 : Int), ()))) := by kernel_rfl
theorem v72F73 (l : List Int) (K : dens [.b] → Prop) : (xfn1 Try.prog { f := [(96, fc96 73 badC)] } 5 72 (fc72 73 badC) (l, ((), ()), ()) K) =
  (l.length ≤ 9223372036854775807 ∧ K (decide (idxF badC l (0 : Int) ≥ (0 : Int)), ())) := by kernel_rfl
def okA (a : Au) : Prop := okSt a.1 ∧ a.2.1.length = a.1.length ∧ (∀ n ∈ a.2.1, 0 ≤ n ∧ n ≤ 1000) ∧ (1 ≤ a.2.2.1 ∧ a.2.2.1 ≤ a.1.sum) ∧ (0 ≤ a.2.2.2 ∧ a.2.2.2 ≤ 1000)
abbrev TAb : SV := .box 0 (.v TA)
abbrev sh28 : SV := S [(1, TAb), (3, .v I), (8, .v L), (9, .v I), (10, .v I)]
abbrev sh28e : SV := S [(1, TAb), (3, .v I)]
abbrev shE2 : SV := S [(2, .v E)]
def ex28 : Ex2
  | .ret => some (shE2, 0)
  | _ => some (sh28e, 1)
def okN (n : Int) : Bool := decide (1 ≤ n ∧ n ≤ 8)
abbrev lc28 : LC2 := ⟨0, sh28, 1, fun (a, s, l, m, i, _) Q => ((0 ≤ i ∧ i ≤ l.length ∧ m = l.length ∧ l.length ≤ big) ∧ l = a.1 ∧ (l.length ≤ 4 → 0 ≤ s ∧ s ≤ 8 * i)) ∧ ((l.drop i.toNat).all okN = true → ∀ z, (l.length ≤ 4 → z = s + (l.drop i.toNat).sum) → Q (.exit 0) (stS 1 sh28e (a, z, ()))) ∧ ((l.drop i.toNat).all okN = false → Q .ret (stS 0 shE2 (100, ())))⟩
theorem v28L (a : Au) (s : Int) (l : List Int) (m i : Int) (Q : AX → St → Prop) : (xloop2 Try.prog { wr := true } 5 28 0 lc28 ex28 (fun (_, _, l, m, i, _) => mL l i) (a, s, l, m, i, ()) Q) =
  (fork (decide (i < m)) (req (decide ((0 : Int) ≤ i ∧ i < (↑(l.length) : Int))) (fork (decide (List.getD l (Int.toNat i) (0 : Int) ≥ (1 : Int))) (fork (!decide (List.getD l (Int.toNat i) (0 : Int) ≤ (8 : Int))) (Q AX.ret
 (stS 0 shE2 ((100 : Int), ()))) (mL l (wrapA IntKind.i64 (i + 1)) < mL l i ∧ LC2.spec lc28 (a, wrapA IntKind.i64 (s + List.getD l (Int.toNat i) (0 : Int)), l, m, wrapA IntKind.i64 (i + 1), ()) Q)) (Q AX.ret (stS 0 shE2
 ((100 : Int), ()))))) (Q (AX.exit 0) (stS 1 sh28e (a, s, ())))) := by kernel_rfl
abbrev fc28 : FC := ⟨[.v TA], [E], fun x K => (x.1.1.length ≤ big ∧ x.1.2.1.length ≤ big) ∧ ∀ e, (okA x.1 → e = 0) → (¬ okA x.1 → e = 100) → K (e, ())⟩
theorem v28F (a : Au) (K : dens [E] → Prop) : (xfn1 Try.prog { f := [(72, fc72 73 badC)], l2 := [(28, 0, lc28)] } 5 28 fc28 (a, ()) K) =
  ((((0 : SV.den (SV.slot 10 (SV.v I))) ≤ (0 : Int) ∧ (0 : Int) ≤ (↑(List.length (a.1)) : SV.den (SV.slot 10 (SV.v I))) ∧ (↑(List.length (a.1)) : Int) = (↑(List.length (a.1)) : SV.den (SV.slot 9 (SV.v I))) ∧ List.length
 (a.1) ≤ 9223372036854775807) ∧ a.1 = a.1 ∧ (List.length (a.1) ≤ 4 → (0 : SV.den (SV.slot 3 (SV.v I))) ≤ (0 : Int) ∧ (0 : Int) ≤ (8 : SV.den (SV.slot 3 (SV.v I))) * (0 : Int))) ∧ (List.all (List.drop 0 (a.1)) okN = true →
 ∀ (z : SV.den (SV.slot ((3, SV.v I).1) ((3, SV.v I).2))), (List.length (a.1) ≤ 4 → z = (0 : Int) + List.sum (List.drop 0 (a.1))) → List.length (a.2.1) ≤ 9223372036854775807 ∧ ∀ (b : Bool), b = List.any (a.2.1) badC → fork
 b (K ((100 : Int), ())) (fork (decide ((↑(List.length (a.1)) : Int) ≥ (1 : Int))) (fork (!decide ((↑(List.length (a.1)) : Int) ≤ (4 : Int))) (K ((100 : Int), ())) (fork ((↑(List.length (a.2.1)) : Int) != (↑(List.length
 (a.1)) : Int)) (K ((100 : Int), ())) (fork (decide (a.2.2.1 ≥ (1 : Int))) (fork (!decide (a.2.2.1 ≤ z)) (K ((100 : Int), ())) (fork (decide (a.2.2.2 ≥ (0 : Int))) (fork (!decide (a.2.2.2 ≤ (1000 : Int))) (K ((100 : Int),
 ())) (K ((0 : Int), ()))) (K ((100 : Int), ())))) (K ((100 : Int), ()))))) (K ((100 : Int), ())))) ∧ (List.all (List.drop 0 (a.1)) okN = false → K ((100 : SV.den (SV.slot 2 (SV.v E))), ()))) := by kernel_rfl
abbrev fc55 : FC := ⟨[], [.ar 81 I], fun x K => x = () ∧ K (triC, ())⟩
def findsF (a : Au) (l : List Int) : Bool := decide (1000 * (worstF a l).2.1 ≤ (worstF a l).2.2 * (1000 - a.2.2.2))
abbrev fc57 : FC := ⟨[.v TS, .v L], [.b], fun x K => (okA x.1.1 ∧ x.1.2 = triC ∧ eachB x.1.1.1 x.2.1 = true) ∧ ∀ r, r = findsF x.1.1 x.2.1 → K (r, ())⟩
theorem v57F (a : Au) (sa : List Int) (K : dens [.b] → Prop) : (xfn1 Try.prog { nm := true, f := [(67, fc67)] } 5 57 fc57 ((a, triC), sa, ()) K) =
  ((okSt (a.1) ∧ triC = triC ∧ eachB (a.1) sa = true ∧ (0 : Ty.den I) ≤ a.2.2.1 ∧ a.2.2.1 ≤ (1000 : Ty.den I)) ∧ ∀ (b : List Int) (mo al : Int), (b, mo, al) = worstF a sa → req (inR IntKind.i64 ((1000 : Int) * mo)) (req
 (inR IntKind.i64 ((1000 : Int) - selI ([AV.rl I (a.1)] ++ ([AV.rl I (a.2.1)] ++ ([AV.int IntKind.i64 (a.2.2.1)] ++ [AV.int IntKind.i64 (a.2.2.2)])) ++ List.flatMap (fun x => [AV.int IntKind.i64 x]) (padL 81 (0 : Int)
 triC)) 3)) (req (inR IntKind.i64 (al * ((1000 : Int) - selI ([AV.rl I (a.1)] ++ ([AV.rl I (a.2.1)] ++ ([AV.int IntKind.i64 (a.2.2.1)] ++ [AV.int IntKind.i64 (a.2.2.2)])) ++ List.flatMap (fun x => [AV.int IntKind.i64 x])
 (padL 81 (0 : Int) triC)) 3))) (K (decide ((1000 : Int) * mo ≤ al * ((1000 : Int) - selI ([AV.rl I (a.1)] ++ ([AV.rl I (a.2.1)] ++ ([AV.int IntKind.i64 (a.2.2.1)] ++ [AV.int IntKind.i64 (a.2.2.2)])) ++ List.flatMap (fun x
 => [AV.int IntKind.i64 x]) (padL 81 (0 : Int) triC)) 3)), ()))))) := by kernel_rfl
def gA : List Int → List Int → List (List Int)
  | [], l => [l]
  | n :: st, l => (List.range (n.toNat + 1)).flatMap fun k : Nat => gA st (l ++ [(k : Int)])
def gAs (n : Int) (st l : List Int) (i : Int) : List (List Int) := (List.range' i.toNat (n.toNat + 1 - i.toNat)).flatMap fun k : Nat => gA st (l ++ [(k : Int)])
def costF : List Int → List Int → Int
  | x :: l, c :: cs => x * c + costF l cs
  | _, _ => 0
abbrev L2 : Type := List Int × Int
def updL (a : Au) (x : L2) (l : List Int) : L2 := if (x.1.isEmpty || decide (costF l a.2.1 < x.2)) && findsF a l then (l, costF l a.2.1) else x
def runL (a : Au) (x : L2) (ls : List (List Int)) : L2 := ls.foldl (updL a) x
abbrev FL : SV := S [(1, .box 3 (.v TA)), (2, .box 4 (.v (.so I))), (3, .box 5 (.v I)), (6, .box 6 (.v TS))]
abbrev clL : SV := .fn 94 .nil (A [.ref 0, .ref 1, .ref 7, .ref 8])
abbrev sh94b : SV := S [(0, .pre 9 I), (1, .v I), (2, .box 0 (.v TS)), (3, .box 1 (.yf 2 FL)), (4, .box 7 (.v I)), (5, .box 8 clL), (38, .v I), (39, .v I)]
abbrev sh94be : SV := S [(0, .pre 9 I), (2, .box 0 (.v TS)), (3, .box 1 (.yf 2 FL)), (4, .box 7 (.v I)), (5, .box 8 clL)]
abbrev lc94b (c : Nat) : LC2 := ⟨10, sh94b, 10, fun (z, left, s, w, sum, u, m, i, _) Q => (okA s.1 ∧ s.2 = triC ∧ w.1.1 = s.1 ∧ w.1.2.2.2.1 = s ∧ w.2 = (rngOf Try.prog 16 0) ∧ okP s.1.1 z.1 z.2 ∧ z.2 < s.1.1.length ∧ s.1.1.length - z.2 ≤ c ∧ (-1 - 8 * z.2 ≤ left ∧ left < 0) ∧ sum = -1 ∧ m = s.1.1.getD z.2 0 + 1 ∧ (0 ≤ i ∧ i ≤ m)) ∧
  ∀ (z' b1 : List Int) (c1 : Int), z'.take z.2 = z.1.take z.2 → z.2 ≤ z'.length → (b1, c1) = runL s.1 (w.1.2.1, w.1.2.2.1) (gAs (s.1.1.getD z.2 0) (s.1.1.drop (z.2 + 1)) (z.1.take z.2) i) → Q (.exit 0) (stS 10 sh94be ((z', z.2), s, ((s.1, b1, c1, s, ()), (rngOf Try.prog 16 0)), sum, u, ()))⟩
abbrev pre94b : SV := A [.pre 9 I, .v I, .box 0 (.v TS), .box 1 (.yf 2 FL), .box 7 (.v I), .box 8 clL]
abbrev post94b : SV := A [.pre 9 I, .any, .box 0 (.v TS), .box 1 (.yf 2 FL), .box 7 (.v I), .box 8 clL, .v .b]
abbrev fc94b (c : Nat) : FC2 := ⟨pre94b, 10, post94b, 10, fun (z, left, s, w, sum, u, _) K => (okA s.1 ∧ s.2 = triC ∧ w.1.1 = s.1 ∧ w.1.2.2.2.1 = s ∧ w.2 = (rngOf Try.prog 16 0) ∧ okP s.1.1 z.1 z.2 ∧ s.1.1.length - z.2 < c ∧ (-1 - 8 * z.2 ≤ left ∧ left < 0) ∧ sum = -1) ∧
  ∀ (z' b1 : List Int) (c1 : Int), z'.take z.2 = z.1.take z.2 → z.2 ≤ z'.length → (b1, c1) = runL s.1 (w.1.2.1, w.1.2.2.1) (gA (s.1.1.drop z.2) (z.1.take z.2)) → K ((z', z.2), (), s, ((s.1, b1, c1, s, ()), (rngOf Try.prog 16 0)), sum, u, true, ())⟩
theorem v94bL (c : Nat) (z : List Int) (n : Nat) (left : Int) (a : Au) (b : List Int) (co sum m i : Int) (Q : AX → St → Prop) : (xloop2 Try.prog { nm := true, ip := true, f2 := [(94, fc94b c)] } 5 94 0 (lc94b c) (fun _ => some (sh94be, 10)) (fun (_, _, _, _, _, _, m, i, _) => (m - i).toNat) ((z, n), left, (a, triC), ((a, b, co, (a, triC), ()), (rngOf Try.prog 16 0)), sum, ((), (), (), (), (), ()), m, i, ()) Q) =
  (fork (decide (i < m)) (req (inR IntKind.i64 (left - i)) (AV.fn (Go.Fn.func 94) [] [AV.ptr 0 0 0, AV.ptr 1 0 0, AV.ptr 7 0 0, AV.ptr 8 0 0] = AV.fn (Go.Fn.func 94) [] [AV.ptr 0 0 0, AV.ptr 1 0 0, AV.ptr 7 0 0, AV.ptr 8 0
 0] ∧ req (decide (0 + n ≤ z.length)) (req (fitsN (n + 1) 8) ((∀ (ys : List (Ty.den (Ty.i IntKind.i64))), ys = List.take (0 + n) z ++ [i] ++ List.drop (0 + n + 1) z → AV.fn (Go.Fn.func 94) [] [AV.ptr 0 0 0, AV.ptr 1 0 0,
 AV.ptr 7 0 0, AV.ptr 8 0 0] = AV.fn (Go.Fn.func 94) [] [AV.ptr 0 0 0, AV.ptr 1 0 0, AV.ptr 7 0 0, AV.ptr 8 0 0] ∧ req (Nat.ble (n + 1) (ys.length)) ((okA a ∧ triC = triC ∧ a = a ∧ (a, triC) = (a, triC) ∧ rngOf
 Go.Proofs.Try.prog 16 0 = rngOf Go.Proofs.Try.prog 16 0 ∧ okP (a.1) ys (n + 1) ∧ List.length (a.1) - (n + 1) < c ∧ ((-1 : SV.den (SV.v I)) - (8 : SV.den (SV.v I)) * (↑(n + 1) : SV.den (SV.v I)) ≤ left - i ∧ left - i < (0
 : SV.den (SV.v I))) ∧ sum = (-1 : SV.den (SV.box 7 (SV.v I)))) ∧ ∀ (z' b1 : List Int) (c1 : Int), List.take (n + 1) z' = List.take (n + 1) ys → n + 1 ≤ z'.length → (b1, c1) = runL a (b, co) (gA (List.drop (n + 1) (a.1))
 (List.take (n + 1) ys)) → req (inR IntKind.i64 (i + 1)) (req (Nat.ble n (z'.length)) (Int.toNat (m - (i + 1)) < Int.toNat (m - i) ∧ LC2.spec (lc94b c) ((z', n), left, (a, triC), ((a, b1, c1, (a, triC), ()), rngOf
 Go.Proofs.Try.prog 16 0), sum, ((), (), (), (), (), ()), m, i + 1, ()) Q)))) ∧ ∀ (ys : List (Ty.den (Ty.i IntKind.i64))), ys = seg 0 n z ++ [i] → AV.fn (Go.Fn.func 94) [] [AV.ptr 0 0 0, AV.ptr 1 0 0, AV.ptr 7 0 0, AV.ptr
 8 0 0] = AV.fn (Go.Fn.func 94) [] [AV.ptr 0 0 0, AV.ptr 1 0 0, AV.ptr 7 0 0, AV.ptr 8 0 0] ∧ req (Nat.ble (n + 1) (ys.length)) ((okA a ∧ triC = triC ∧ a = a ∧ (a, triC) = (a, triC) ∧ rngOf Go.Proofs.Try.prog 16 0 = rngOf
 Go.Proofs.Try.prog 16 0 ∧ okP (a.1) ys (n + 1) ∧ List.length (a.1) - (n + 1) < c ∧ ((-1 : SV.den (SV.v I)) - (8 : SV.den (SV.v I)) * (↑(n + 1) : SV.den (SV.v I)) ≤ left - i ∧ left - i < (0 : SV.den (SV.v I))) ∧ sum = (-1
 : SV.den (SV.box 7 (SV.v I)))) ∧ ∀ (z' b1 : List Int) (c1 : Int), List.take (n + 1) z' = List.take (n + 1) ys → n + 1 ≤ z'.length → (b1, c1) = runL a (b, co) (gA (List.drop (n + 1) (a.1)) (List.take (n + 1) ys)) → req
 (inR IntKind.i64 (i + 1)) (req (Nat.ble n (z.length)) (Int.toNat (m - (i + 1)) < Int.toNat (m - i) ∧ LC2.spec (lc94b c) ((z, n), left, (a, triC), ((a, b1, c1, (a, triC), ()), rngOf Go.Proofs.Try.prog 16 0), sum, ((), (),
 (), (), (), ()), m, i + 1, ()) Q))))))) (req (Nat.ble n (z.length)) (Q (AX.exit 0) (stS 10 sh94be ((z, n), (a, triC), ((a, b, co, (a, triC), ()), rngOf Go.Proofs.Try.prog 16 0), sum, ((), (), (), (), (), ()), ()))))) := by kernel_rfl
theorem v94bF (c : Nat) (z : List Int) (n : Nat) (left : Int) (a : Au) (b : List Int) (co sum : Int) (K : post94b.den → Prop) : (xfn2 Try.prog { nm := true, ip := true, un := 5, f := [(57, fc57)], f2 := [(58, fc58)], l2 := [(94, 0, lc94b c)] } 5 94 (fc94b (c + 1)) ((z, n), left, (a, triC), ((a, b, co, (a, triC), ()), (rngOf Try.prog 16 0)), sum, ((), (), (), (), (), ()), ()) K) =
  (fork ((↑n : Int) == (↑(List.length (a.1)) : Int)) (fork (decide (left > (0 : Int))) (req (Nat.ble n (z.length)) (K ((z, n), (), (a, triC), ((a, b, co, (a, triC), ()), rngOf Go.Proofs.Try.prog 16 0), sum, ((), (), (), (),
 (), ()), true, ()))) (fork (decide ((0 : Int) < (↑n : Int))) (req (decide ((0 : Int) ≤ (0 : Int) ∧ (0 : Int) < (↑n : Int))) (req (decide (0 < z.length)) (req (decide ((0 : Int) ≤ (0 : Int) ∧ (0 : Int) < (↑(List.length
 (a.2.1)) : Int))) (req (inR IntKind.i64 (List.getD z 0 (0 : Int) * List.getD (a.2.1) 0 (0 : Int))) (req (inR IntKind.i64 ((0 : Int) + List.getD z 0 (0 : Int) * List.getD (a.2.1) 0 (0 : Int))) (fork (decide ((1 : Int) <
 (↑n : Int))) (req (decide ((0 : Int) ≤ (1 : Int) ∧ (1 : Int) < (↑n : Int))) (req (decide (1 < z.length)) (req (decide ((0 : Int) ≤ (1 : Int) ∧ (1 : Int) < (↑(List.length (a.2.1)) : Int))) (req (inR IntKind.i64 (List.getD
 z 1 (0 : Int) * List.getD (a.2.1) 1 (0 : Int))) (req (inR IntKind.i64 ((0 : Int) + List.getD z 0 (0 : Int) * List.getD (a.2.1) 0 (0 : Int) + List.getD z 1 (0 : Int) * List.getD (a.2.1) 1 (0 : Int))) (fork (decide ((2 :
 Int) < (↑n : Int))) (req (decide ((0 : Int) ≤ (2 : Int) ∧ (2 : Int) < (↑n : Int))) (req (decide (2 < z.length)) (req (decide ((0 : Int) ≤ (2 : Int) ∧ (2 : Int) < (↑(List.length (a.2.1)) : Int))) (req (inR IntKind.i64
 (List.getD z 2 (0 : Int) * List.getD (a.2.1) 2 (0 : Int))) (req (inR IntKind.i64 ((0 : Int) + List.getD z 0 (0 : Int) * List.getD (a.2.1) 0 (0 : Int) + List.getD z 1 (0 : Int) * List.getD (a.2.1) 1 (0 : Int) + List.getD z
 2 (0 : Int) * List.getD (a.2.1) 2 (0 : Int))) (fork (decide ((3 : Int) < (↑n : Int))) (req (decide ((0 : Int) ≤ (3 : Int) ∧ (3 : Int) < (↑n : Int))) (req (decide (3 < z.length)) (req (decide ((0 : Int) ≤ (3 : Int) ∧ (3 :
 Int) < (↑(List.length (a.2.1)) : Int))) (req (inR IntKind.i64 (List.getD z 3 (0 : Int) * List.getD (a.2.1) 3 (0 : Int))) (req (inR IntKind.i64 ((0 : Int) + List.getD z 0 (0 : Int) * List.getD (a.2.1) 0 (0 : Int) +
 List.getD z 1 (0 : Int) * List.getD (a.2.1) 1 (0 : Int) + List.getD z 2 (0 : Int) * List.getD (a.2.1) 2 (0 : Int) + List.getD z 3 (0 : Int) * List.getD (a.2.1) 3 (0 : Int))) (fork (decide ((4 : Int) < (↑n : Int))) (req
 (decide ((0 : Int) ≤ (4 : Int) ∧ (4 : Int) < (↑n : Int))) (req (decide (4 < z.length)) (req (decide ((0 : Int) ≤ (4 : Int) ∧ (4 : Int) < (↑(List.length (a.2.1)) : Int))) (req (inR IntKind.i64 (List.getD z 4 (0 : Int) *
 List.getD (a.2.1) 4 (0 : Int))) (req (inR IntKind.i64 ((0 : Int) + List.getD z 0 (0 : Int) * List.getD (a.2.1) 0 (0 : Int) + List.getD z 1 (0 : Int) * List.getD (a.2.1) 1 (0 : Int) + List.getD z 2 (0 : Int) * List.getD
 (a.2.1) 2 (0 : Int) + List.getD z 3 (0 : Int) * List.getD (a.2.1) 3 (0 : Int) + List.getD z 4 (0 : Int) * List.getD (a.2.1) 4 (0 : Int))) False))))) (fork (List.isEmpty b) (req (decide (0 + n ≤ z.length)) ((okA a ∧ triC =
 triC ∧ eachB (a.1) (seg 0 n z) = true) ∧ ∀ (r : Bool), r = findsF a (seg 0 n z) → fork r (req (decide (0 + n ≤ z.length)) (List.length (seg 0 n z) ≤ 1000 ∧ ∀ (r : List Int), r = seg 0 n z → req (Nat.ble n (z.length)) (req
 (decide (0 + r.length ≤ r.length)) (req (decide (0 < List.length (seg 0 (r.length) r))) (K ((z, n), (), (a, triC), ((a, seg 0 (r.length) r, (0 : Int) + List.getD z 0 (0 : Int) * List.getD (a.2.1) 0 (0 : Int) + List.getD z
 1 (0 : Int) * List.getD (a.2.1) 1 (0 : Int) + List.getD z 2 (0 : Int) * List.getD (a.2.1) 2 (0 : Int) + List.getD z 3 (0 : Int) * List.getD (a.2.1) 3 (0 : Int), (a, triC), ()), rngOf Go.Proofs.Try.prog 16 0), sum, ((),
 (), (), (), (), ()), true, ())))))) (req (Nat.ble n (z.length)) (K ((z, n), (), (a, triC), ((a, b, co, (a, triC), ()), rngOf Go.Proofs.Try.prog 16 0), sum, ((), (), (), (), (), ()), true, ()))))) (fork (decide ((0 : Int)
 + List.getD z 0 (0 : Int) * List.getD (a.2.1) 0 (0 : Int) + List.getD z 1 (0 : Int) * List.getD (a.2.1) 1 (0 : Int) + List.getD z 2 (0 : Int) * List.getD (a.2.1) 2 (0 : Int) + List.getD z 3 (0 : Int) * List.getD (a.2.1) 3
 (0 : Int) < co)) (req (decide (0 + n ≤ z.length)) ((okA a ∧ triC = triC ∧ eachB (a.1) (seg 0 n z) = true) ∧ ∀ (r : Bool), r = findsF a (seg 0 n z) → fork r (req (decide (0 + n ≤ z.length)) (List.length (seg 0 n z) ≤ 1000
 ∧ ∀ (r : List Int), r = seg 0 n z → req (Nat.ble n (z.length)) (req (decide (0 + r.length ≤ r.length)) (req (decide (0 < List.length (seg 0 (r.length) r))) (K ((z, n), (), (a, triC), ((a, seg 0 (r.length) r, (0 : Int) +
 List.getD z 0 (0 : Int) * List.getD (a.2.1) 0 (0 : Int) + List.getD z 1 (0 : Int) * List.getD (a.2.1) 1 (0 : Int) + List.getD z 2 (0 : Int) * List.getD (a.2.1) 2 (0 : Int) + List.getD z 3 (0 : Int) * List.getD (a.2.1) 3
 (0 : Int), (a, triC), ()), rngOf Go.Proofs.Try.prog 16 0), sum, ((), (), (), (), (), ()), true, ())))))) (req (Nat.ble n (z.length)) (K ((z, n), (), (a, triC), ((a, b, co, (a, triC), ()), rngOf Go.Proofs.Try.prog 16 0),
 sum, ((), (), (), (), (), ()), true, ()))))) (req (Nat.ble n (z.length)) (K ((z, n), (), (a, triC), ((a, b, co, (a, triC), ()), rngOf Go.Proofs.Try.prog 16 0), sum, ((), (), (), (), (), ()), true, ()))))))))))) (fork
 (List.isEmpty b) (req (decide (0 + n ≤ z.length)) ((okA a ∧ triC = triC ∧ eachB (a.1) (seg 0 n z) = true) ∧ ∀ (r : Bool), r = findsF a (seg 0 n z) → fork r (req (decide (0 + n ≤ z.length)) (List.length (seg 0 n z) ≤ 1000
 ∧ ∀ (r : List Int), r = seg 0 n z → req (Nat.ble n (z.length)) (req (decide (0 + r.length ≤ r.length)) (req (decide (0 < List.length (seg 0 (r.length) r))) (K ((z, n), (), (a, triC), ((a, seg 0 (r.length) r, (0 : Int) +
 List.getD z 0 (0 : Int) * List.getD (a.2.1) 0 (0 : Int) + List.getD z 1 (0 : Int) * List.getD (a.2.1) 1 (0 : Int) + List.getD z 2 (0 : Int) * List.getD (a.2.1) 2 (0 : Int), (a, triC), ()), rngOf Go.Proofs.Try.prog 16 0),
 sum, ((), (), (), (), (), ()), true, ())))))) (req (Nat.ble n (z.length)) (K ((z, n), (), (a, triC), ((a, b, co, (a, triC), ()), rngOf Go.Proofs.Try.prog 16 0), sum, ((), (), (), (), (), ()), true, ()))))) (fork (decide
 ((0 : Int) + List.getD z 0 (0 : Int) * List.getD (a.2.1) 0 (0 : Int) + List.getD z 1 (0 : Int) * List.getD (a.2.1) 1 (0 : Int) + List.getD z 2 (0 : Int) * List.getD (a.2.1) 2 (0 : Int) < co)) (req (decide (0 + n ≤
 z.length)) ((okA a ∧ triC = triC ∧ eachB (a.1) (seg 0 n z) = true) ∧ ∀ (r : Bool), r = findsF a (seg 0 n z) → fork r (req (decide (0 + n ≤ z.length)) (List.length (seg 0 n z) ≤ 1000 ∧ ∀ (r : List Int), r = seg 0 n z → req
 (Nat.ble n (z.length)) (req (decide (0 + r.length ≤ r.length)) (req (decide (0 < List.length (seg 0 (r.length) r))) (K ((z, n), (), (a, triC), ((a, seg 0 (r.length) r, (0 : Int) + List.getD z 0 (0 : Int) * List.getD
 (a.2.1) 0 (0 : Int) + List.getD z 1 (0 : Int) * List.getD (a.2.1) 1 (0 : Int) + List.getD z 2 (0 : Int) * List.getD (a.2.1) 2 (0 : Int), (a, triC), ()), rngOf Go.Proofs.Try.prog 16 0), sum, ((), (), (), (), (), ()), true,
 ())))))) (req (Nat.ble n (z.length)) (K ((z, n), (), (a, triC), ((a, b, co, (a, triC), ()), rngOf Go.Proofs.Try.prog 16 0), sum, ((), (), (), (), (), ()), true, ()))))) (req (Nat.ble n (z.length)) (K ((z, n), (), (a,
 triC), ((a, b, co, (a, triC), ()), rngOf Go.Proofs.Try.prog 16 0), sum, ((), (), (), (), (), ()), true, ()))))))))))) (fork (List.isEmpty b) (req (decide (0 + n ≤ z.length)) ((okA a ∧ triC = triC ∧ eachB (a.1) (seg 0 n z)
 = true) ∧ ∀ (r : Bool), r = findsF a (seg 0 n z) → fork r (req (decide (0 + n ≤ z.length)) (List.length (seg 0 n z) ≤ 1000 ∧ ∀ (r : List Int), r = seg 0 n z → req (Nat.ble n (z.length)) (req (decide (0 + r.length ≤
 r.length)) (req (decide (0 < List.length (seg 0 (r.length) r))) (K ((z, n), (), (a, triC), ((a, seg 0 (r.length) r, (0 : Int) + List.getD z 0 (0 : Int) * List.getD (a.2.1) 0 (0 : Int) + List.getD z 1 (0 : Int) * List.getD
 (a.2.1) 1 (0 : Int), (a, triC), ()), rngOf Go.Proofs.Try.prog 16 0), sum, ((), (), (), (), (), ()), true, ())))))) (req (Nat.ble n (z.length)) (K ((z, n), (), (a, triC), ((a, b, co, (a, triC), ()), rngOf
 Go.Proofs.Try.prog 16 0), sum, ((), (), (), (), (), ()), true, ()))))) (fork (decide ((0 : Int) + List.getD z 0 (0 : Int) * List.getD (a.2.1) 0 (0 : Int) + List.getD z 1 (0 : Int) * List.getD (a.2.1) 1 (0 : Int) < co))
 (req (decide (0 + n ≤ z.length)) ((okA a ∧ triC = triC ∧ eachB (a.1) (seg 0 n z) = true) ∧ ∀ (r : Bool), r = findsF a (seg 0 n z) → fork r (req (decide (0 + n ≤ z.length)) (List.length (seg 0 n z) ≤ 1000 ∧ ∀ (r : List
 Int), r = seg 0 n z → req (Nat.ble n (z.length)) (req (decide (0 + r.length ≤ r.length)) (req (decide (0 < List.length (seg 0 (r.length) r))) (K ((z, n), (), (a, triC), ((a, seg 0 (r.length) r, (0 : Int) + List.getD z 0
 (0 : Int) * List.getD (a.2.1) 0 (0 : Int) + List.getD z 1 (0 : Int) * List.getD (a.2.1) 1 (0 : Int), (a, triC), ()), rngOf Go.Proofs.Try.prog 16 0), sum, ((), (), (), (), (), ()), true, ())))))) (req (Nat.ble n
 (z.length)) (K ((z, n), (), (a, triC), ((a, b, co, (a, triC), ()), rngOf Go.Proofs.Try.prog 16 0), sum, ((), (), (), (), (), ()), true, ()))))) (req (Nat.ble n (z.length)) (K ((z, n), (), (a, triC), ((a, b, co, (a, triC),
 ()), rngOf Go.Proofs.Try.prog 16 0), sum, ((), (), (), (), (), ()), true, ()))))))))))) (fork (List.isEmpty b) (req (decide (0 + n ≤ z.length)) ((okA a ∧ triC = triC ∧ eachB (a.1) (seg 0 n z) = true) ∧ ∀ (r : Bool), r =
 findsF a (seg 0 n z) → fork r (req (decide (0 + n ≤ z.length)) (List.length (seg 0 n z) ≤ 1000 ∧ ∀ (r : List Int), r = seg 0 n z → req (Nat.ble n (z.length)) (req (decide (0 + r.length ≤ r.length)) (req (decide (0 <
 List.length (seg 0 (r.length) r))) (K ((z, n), (), (a, triC), ((a, seg 0 (r.length) r, (0 : Int) + List.getD z 0 (0 : Int) * List.getD (a.2.1) 0 (0 : Int), (a, triC), ()), rngOf Go.Proofs.Try.prog 16 0), sum, ((), (), (),
 (), (), ()), true, ())))))) (req (Nat.ble n (z.length)) (K ((z, n), (), (a, triC), ((a, b, co, (a, triC), ()), rngOf Go.Proofs.Try.prog 16 0), sum, ((), (), (), (), (), ()), true, ()))))) (fork (decide ((0 : Int) +
 List.getD z 0 (0 : Int) * List.getD (a.2.1) 0 (0 : Int) < co)) (req (decide (0 + n ≤ z.length)) ((okA a ∧ triC = triC ∧ eachB (a.1) (seg 0 n z) = true) ∧ ∀ (r : Bool), r = findsF a (seg 0 n z) → fork r (req (decide (0 + n
 ≤ z.length)) (List.length (seg 0 n z) ≤ 1000 ∧ ∀ (r : List Int), r = seg 0 n z → req (Nat.ble n (z.length)) (req (decide (0 + r.length ≤ r.length)) (req (decide (0 < List.length (seg 0 (r.length) r))) (K ((z, n), (), (a,
 triC), ((a, seg 0 (r.length) r, (0 : Int) + List.getD z 0 (0 : Int) * List.getD (a.2.1) 0 (0 : Int), (a, triC), ()), rngOf Go.Proofs.Try.prog 16 0), sum, ((), (), (), (), (), ()), true, ())))))) (req (Nat.ble n
 (z.length)) (K ((z, n), (), (a, triC), ((a, b, co, (a, triC), ()), rngOf Go.Proofs.Try.prog 16 0), sum, ((), (), (), (), (), ()), true, ()))))) (req (Nat.ble n (z.length)) (K ((z, n), (), (a, triC), ((a, b, co, (a, triC),
 ()), rngOf Go.Proofs.Try.prog 16 0), sum, ((), (), (), (), (), ()), true, ()))))))))))) (fork (List.isEmpty b) (req (decide (0 + n ≤ z.length)) ((okA a ∧ triC = triC ∧ eachB (a.1) (seg 0 n z) = true) ∧ ∀ (r : Bool), r =
 findsF a (seg 0 n z) → fork r (req (decide (0 + n ≤ z.length)) (List.length (seg 0 n z) ≤ 1000 ∧ ∀ (r : List Int), r = seg 0 n z → req (Nat.ble n (z.length)) (req (decide (0 + r.length ≤ r.length)) (req (decide (0 <
 List.length (seg 0 (r.length) r))) (K ((z, n), (), (a, triC), ((a, seg 0 (r.length) r, (0 : Int), (a, triC), ()), rngOf Go.Proofs.Try.prog 16 0), sum, ((), (), (), (), (), ()), true, ())))))) (req (Nat.ble n (z.length))
 (K ((z, n), (), (a, triC), ((a, b, co, (a, triC), ()), rngOf Go.Proofs.Try.prog 16 0), sum, ((), (), (), (), (), ()), true, ()))))) (fork (decide ((0 : Int) < co)) (req (decide (0 + n ≤ z.length)) ((okA a ∧ triC = triC ∧
 eachB (a.1) (seg 0 n z) = true) ∧ ∀ (r : Bool), r = findsF a (seg 0 n z) → fork r (req (decide (0 + n ≤ z.length)) (List.length (seg 0 n z) ≤ 1000 ∧ ∀ (r : List Int), r = seg 0 n z → req (Nat.ble n (z.length)) (req
 (decide (0 + r.length ≤ r.length)) (req (decide (0 < List.length (seg 0 (r.length) r))) (K ((z, n), (), (a, triC), ((a, seg 0 (r.length) r, (0 : Int), (a, triC), ()), rngOf Go.Proofs.Try.prog 16 0), sum, ((), (), (), (),
 (), ()), true, ())))))) (req (Nat.ble n (z.length)) (K ((z, n), (), (a, triC), ((a, b, co, (a, triC), ()), rngOf Go.Proofs.Try.prog 16 0), sum, ((), (), (), (), (), ()), true, ()))))) (req (Nat.ble n (z.length)) (K ((z,
 n), (), (a, triC), ((a, b, co, (a, triC), ()), rngOf Go.Proofs.Try.prog 16 0), sum, ((), (), (), (), (), ()), true, ()))))))) (req (decide ((0 : Int) ≤ (↑n : Int) ∧ (↑n : Int) < (↑(List.length (a.1)) : Int))) (fork
 (decide (sum ≥ (0 : Int))) (req (inR IntKind.i64 ((if left < List.getD (a.1) n (0 : Int) then left else List.getD (a.1) n (0 : Int)) + 1)) (req (Nat.ble n (z.length)) ((okA a ∧ triC = triC ∧ a = a ∧ (a, triC) = (a, triC)
 ∧ rngOf Go.Proofs.Try.prog 16 0 = rngOf Go.Proofs.Try.prog 16 0 ∧ okP (a.1) z n ∧ n < List.length (a.1) ∧ List.length (a.1) - n ≤ c ∧ ((-1 : SV.den (SV.slot 1 (SV.v I))) - (8 : SV.den (SV.slot 1 (SV.v I))) * (↑n : SV.den
 (SV.slot 1 (SV.v I))) ≤ left ∧ left < (0 : SV.den (SV.slot 1 (SV.v I)))) ∧ sum = (-1 : SV.den (SV.slot 4 (SV.box 7 (SV.v I)))) ∧ (if left < List.getD (a.1) n (0 : Int) then left else List.getD (a.1) n (0 : Int)) + 1 =
 List.getD (a.1) n (0 : Ty.den I) + (1 : SV.den (SV.slot 38 (SV.v I))) ∧ (0 : SV.den (SV.slot 39 (SV.v I))) ≤ (0 : Int) ∧ (0 : Int) ≤ (if left < List.getD (a.1) n (0 : Int) then left else List.getD (a.1) n (0 : Int)) + 1)
 ∧ ∀ (z' b1 : List Int) (c1 : Int), List.take n z' = List.take n z → n ≤ z'.length → (b1, c1) = runL a (b, co) (gAs (List.getD (a.1) n (0 : Ty.den I)) (List.drop (n + 1) (a.1)) (List.take n z) (0 : Int)) → req (Nat.ble n
 (z'.length)) (K ((z', n), (), (a, triC), ((a, b1, c1, (a, triC), ()), rngOf Go.Proofs.Try.prog 16 0), sum, ((), (), (), (), (), ()), true, ()))))) (req (inR IntKind.i64 (List.getD (a.1) n (0 : Int) + 1)) (req (Nat.ble n
 (z.length)) ((okA a ∧ triC = triC ∧ a = a ∧ (a, triC) = (a, triC) ∧ rngOf Go.Proofs.Try.prog 16 0 = rngOf Go.Proofs.Try.prog 16 0 ∧ okP (a.1) z n ∧ n < List.length (a.1) ∧ List.length (a.1) - n ≤ c ∧ ((-1 : SV.den
 (SV.slot 1 (SV.v I))) - (8 : SV.den (SV.slot 1 (SV.v I))) * (↑n : SV.den (SV.slot 1 (SV.v I))) ≤ left ∧ left < (0 : SV.den (SV.slot 1 (SV.v I)))) ∧ sum = (-1 : SV.den (SV.slot 4 (SV.box 7 (SV.v I)))) ∧ List.getD (a.1) n
 (0 : Int) + 1 = List.getD (a.1) n (0 : Ty.den I) + (1 : SV.den (SV.slot 38 (SV.v I))) ∧ (0 : SV.den (SV.slot 39 (SV.v I))) ≤ (0 : Int) ∧ (0 : Int) ≤ List.getD (a.1) n (0 : Int) + 1) ∧ ∀ (z' b1 : List Int) (c1 : Int),
 List.take n z' = List.take n z → n ≤ z'.length → (b1, c1) = runL a (b, co) (gAs (List.getD (a.1) n (0 : Ty.den I)) (List.drop (n + 1) (a.1)) (List.take n z) (0 : Int)) → req (Nat.ble n (z'.length)) (K ((z', n), (), (a,
 triC), ((a, b1, c1, (a, triC), ()), rngOf Go.Proofs.Try.prog 16 0), sum, ((), (), (), (), (), ()), true, ())))))))) := by kernel_rfl
def LeastR (a : Au) (s : List Int) (c e : Int) : Prop := (okA a ∧ (s, c) = runL a ([], 0) (gA a.1 []) ∧ e = 0) ∨ (¬ okA a ∧ s = [] ∧ c = 0 ∧ e = 100)
abbrev fc16 : FC := ⟨[.v TA], [L, I, E], fun x K => (x.1.1.length ≤ big ∧ x.1.2.1.length ≤ big) ∧ ∀ s c e, LeastR x.1 s c e → K (s, c, e, ())⟩
theorem v16F (a : Au) (K : dens [L, I, E] → Prop) : (xfn1 Try.prog { nm := true, ip := true, f := [(28, fc28), (55, fc55)], f2 := [(94, fc94b 10)] } 5 16 fc16 (a, ()) K) =
  ((List.length (a.1) ≤ 9223372036854775807 ∧ List.length (a.2.1) ≤ 9223372036854775807) ∧ ∀ (e : Ty.den E), (okA a → e = (0 : Ty.den E)) → (¬okA a → e = (100 : Ty.den E)) → fork (e != (0 : Int)) (K ([], (0 : Int), e, ()))
 (() = () ∧ AV.agg [AV.rl I (a.1), AV.rl I (a.2.1), AV.int IntKind.i64 (a.2.2.1), AV.int IntKind.i64 (a.2.2.2)] = AV.agg [AV.rl I (a.1), AV.rl I (a.2.1), AV.int IntKind.i64 (a.2.2.1), AV.int IntKind.i64 (a.2.2.2)] ∧ AV.agg
 [AV.rl I (a.1), AV.rl I (a.2.1), AV.int IntKind.i64 (a.2.2.1), AV.int IntKind.i64 (a.2.2.2)] = AV.agg [AV.rl I (a.1), AV.rl I (a.2.1), AV.int IntKind.i64 (a.2.2.1), AV.int IntKind.i64 (a.2.2.2)] ∧ (okA a ∧ triC = triC ∧ a
 = a ∧ (a, triC) = (a, triC) ∧ rngOf Go.Proofs.Try.prog 16 0 = rngOf Go.Proofs.Try.prog 16 0 ∧ okP (a.1) [] 0 ∧ List.length (a.1) < 10 ∧ ((-1 : SV.den (SV.v I)) - (8 : SV.den (SV.v I)) * (↑0 : SV.den (SV.v I)) ≤ (-1 : Int)
 ∧ (-1 : Int) < (0 : SV.den (SV.v I))) ∧ (-1 : Int) = (-1 : SV.den (SV.box 7 (SV.v I)))) ∧ ∀ (z' b1 : List Int) (c1 : Int), List.take 0 z' = List.take 0 [] → 0 ≤ z'.length → (b1, c1) = runL a ([], (0 : Int)) (gA (List.drop
 0 (a.1)) (List.take 0 [])) → AV.int IntKind.i64 c1 = AV.int IntKind.i64 c1 ∧ K (b1, c1, (0 : Int), ()))) := by kernel_rfl
end Go.P10
