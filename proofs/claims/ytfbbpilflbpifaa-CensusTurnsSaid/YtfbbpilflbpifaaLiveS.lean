/- Turns: the reference: states and what is to be shown, reduced. No conditions. -/
import Derived.Test.YtfbbpilflbpifaaKeepP
import Derived.Test.YtfbbpilflbpifaaOrdS
set_option linter.unusedSimpArgs false
set_option linter.unusedVariables false
set_option linter.constructorNameAsVariable false
set_option maxRecDepth 100000
set_option maxHeartbeats 2000000
namespace Go.P10
open Go.Lom Go.Proofs Go
def okP8 (n : Int) : Bool := decide (1 ≤ n ∧ n ≤ 8)
abbrev sh83 : SV := S [(0, .v L), (3, .v .b), (4, .v I)]
abbrev lc83 : LC2 := ⟨0, sh83, 0, fun (l, ok, i, _) Q => (l.length ≤ big ∧ (0 ≤ i ∧ i ≤ l.length)) ∧ ∀ b, b = (ok && (l.drop i.toNat).all okP8) → Q (.exit 0) (stS 0 (S [(3, .v .b)]) (b, ()))⟩
theorem v83L (l : List Int) (ok : Bool) (i : Int) (Q : AX → St → Prop) : (xloop2 Try.prog { nm := true } 5 83 0 lc83 (fun _ => some (S [(3, .v .b)], 0)) (fun (l, _, i, _) => mL l i) (l, ok, i, ()) Q) =
  (fork (decide (i < (↑(l.length) : Int))) (fork ok (req (decide ((0 : Int) ≤ i ∧ i < (↑(l.length) : Int))) (fork (decide ((1 : Int) ≤ List.getD l (Int.toNat i) (0 : Int))) (req (inR IntKind.i64 (i + 1)) (mL l (i + 1) < mL
 l i ∧ LC2.spec lc83 (l, decide (List.getD l (Int.toNat i) (0 : Int) ≤ (8 : Int)), i + 1, ()) Q)) (req (inR IntKind.i64 (i + 1)) (mL l (i + 1) < mL l i ∧ LC2.spec lc83 (l, false, i + 1, ()) Q)))) (req (inR IntKind.i64 (i +
 1)) (mL l (i + 1) < mL l i ∧ LC2.spec lc83 (l, false, i + 1, ()) Q))) (Q (AX.exit 0) (stS 0 (S [(3, SV.v Ty.b)]) (ok, ())))) := by kernel_rfl
instance (ps : List Int) : Decidable (okPs ps) := by unfold okPs; infer_instance
abbrev fc83 : FC := ⟨[.v L], [.b], fun x K => x.1.length ≤ big ∧ ∀ b, b = decide (okPs x.1) → K (b, ())⟩
theorem v83F (l : List Int) (K : dens [.b] → Prop) : (xfn1 Try.prog { nm := true, l2 := [(83, 0, lc83)] } 5 83 fc83 (l, ()) K) =
  (fork (decide ((1 : Int) ≤ (↑(l.length) : Int))) ((l.length ≤ 9223372036854775807 ∧ (0 : SV.den (SV.slot 4 (SV.v I))) ≤ (0 : Int) ∧ (0 : Int) ≤ (↑(l.length) : SV.den (SV.slot 4 (SV.v I)))) ∧ ∀ (b : Bool), b = (decide
 ((↑(l.length) : Int) ≤ (5 : Int)) && List.all (List.drop 0 l) okP8) → K (b, ())) ((l.length ≤ 9223372036854775807 ∧ (0 : SV.den (SV.slot 4 (SV.v I))) ≤ (0 : Int) ∧ (0 : Int) ≤ (↑(l.length) : SV.den (SV.slot 4 (SV.v I))))
 ∧ ∀ (b : Bool), b = (false && List.all (List.drop 0 l) okP8) → K (b, ()))) := by kernel_rfl
def afterL (r : Int) : List Int → List Int → Int → Option (List Int)
  | p :: ps, x :: xs, i => if stepI x i r ≥ p then none else (afterL r ps xs (i + 1)).map (stepI x i r :: ·)
  | _, _, _ => some []
def smX (xs : List Int) : Prop := xs.length ≤ 5 ∧ ∀ x ∈ xs, 0 ≤ x ∧ x ≤ 100
abbrev sh84 : SV := S [(0, .v L), (1, .v L), (2, .v I), (8, .own 0 I), (9, .v I)]
def ex84 : Ex2
  | .ret => some (S [(6, .v L), (7, .v .b)], 0)
  | _ => some (S [(8, .own 0 I)], 1)
abbrev lc84 : LC2 := ⟨0, sh84, 1, fun (ps, xs, r, o, i, _) Q => (ps.length = xs.length ∧ smX xs ∧ (0 ≤ i ∧ i ≤ xs.length) ∧ (o.length : Int) = i) ∧ ∀ y, y = afterL r (ps.drop i.toNat) (xs.drop i.toNat) i → (∀ ys, y = some ys → Q (.exit 0) (stS 1 (S [(8, .own 0 I)]) (o ++ ys, ()))) ∧ (y = none → Q .ret (stS 0 (S [(6, .v L), (7, .v .b)]) ([], false, ())))⟩
theorem v84L (ps xs : List Int) (r : Int) (o : List Int) (i : Int) (Q : AX → St → Prop) : (xloop2 Try.prog { nm := true } 5 84 0 lc84 ex84 (fun (_, xs, _, _, i, _) => mL xs i) (ps, xs, r, o, i, ()) Q) =
  (fork (decide (i < (↑(xs.length) : Int))) (req (decide ((0 : Int) ≤ i ∧ i < (↑(xs.length) : Int))) (req (inR IntKind.i64 (List.getD xs (Int.toNat i) (0 : Int) + 1)) (fork (i == r) (req (decide ((0 : Int) ≤ i ∧ i <
 (↑(ps.length) : Int))) (fork (decide ((0 : Int) ≥ List.getD ps (Int.toNat i) (0 : Int))) (Q AX.ret (stS 0 (S [(6, SV.v L), (7, SV.v Ty.b)]) ([], false, ()))) (req (decide (0 + o.length ≤ o.length)) (req (fitsN (o.length +
 1) 8) (∀ (ys : List (Ty.den (Ty.i IntKind.i64))), ys = seg 0 (o.length) o ++ [(0 : Int)] → req (inR IntKind.i64 (i + 1)) (req (decide (0 + (o.length + 1) ≤ ys.length)) (mL xs (i + 1) < mL xs i ∧ LC2.spec lc84 (ps, xs, r,
 seg 0 (o.length + 1) ys, i + 1, ()) Q))))))) (req (decide ((0 : Int) ≤ i ∧ i < (↑(ps.length) : Int))) (fork (decide (List.getD xs (Int.toNat i) (0 : Int) + 1 ≥ List.getD ps (Int.toNat i) (0 : Int))) (Q AX.ret (stS 0 (S
 [(6, SV.v L), (7, SV.v Ty.b)]) ([], false, ()))) (req (decide (0 + o.length ≤ o.length)) (req (fitsN (o.length + 1) 8) (∀ (ys : List (Ty.den (Ty.i IntKind.i64))), ys = seg 0 (o.length) o ++ [List.getD xs (Int.toNat i) (0
 : Int) + 1] → req (inR IntKind.i64 (i + 1)) (req (decide (0 + (o.length + 1) ≤ ys.length)) (mL xs (i + 1) < mL xs i ∧ LC2.spec lc84 (ps, xs, r, seg 0 (o.length + 1) ys, i + 1, ()) Q)))))))))) (req (decide (0 + o.length ≤
 o.length)) (Q (AX.exit 0) (stS 1 (S [(8, SV.own 0 I)]) (seg 0 (o.length) o, ()))))) := by kernel_rfl
abbrev fc84 : FC := ⟨[.v L, .v L, .v I], [L, .b], fun x K => (x.1.length = x.2.1.length ∧ smX x.2.1) ∧ ∀ l b, (if b = true then some l else none) = afterL x.2.2.1 x.1 x.2.1 0 → (b = false → l = []) → K (l, b, ())⟩
theorem v84F (ps xs : List Int) (r : Int) (K : dens [L, .b] → Prop) : (xfn1 Try.prog { nm := true, l2 := [(84, 0, lc84)] } 5 84 fc84 (ps, xs, r, ()) K) =
  ((ps.length = xs.length ∧ smX xs ∧ ((0 : SV.den (SV.slot 9 (SV.v I))) ≤ (0 : Int) ∧ (0 : Int) ≤ (↑(xs.length) : SV.den (SV.slot 9 (SV.v I)))) ∧ (0 : Int) = (0 : Int)) ∧ ∀ (y : Option (List Int)), y = afterL r (List.drop 0
 ps) (List.drop 0 xs) (0 : Int) → (∀ (ys : List Int), y = Option.some ys → req (decide (0 + List.length ([] ++ ys) ≤ List.length ([] ++ ys))) (K (seg 0 (List.length ([] ++ ys)) ([] ++ ys), true, ()))) ∧ (y = none → K ([],
 false, ()))) := by kernel_rfl
def walkL (ps : List Int) : List Int → List Int → Bool
  | _, [] => true
  | xs, r :: ts => match afterL r ps xs 0 with
    | some ys => walkL ps ys ts
    | none => false
def vldL (ps xs : List Int) : Prop := xs.length = ps.length ∧ ∀ k : Nat, k < ps.length → 0 ≤ xs.getD k 0 ∧ xs.getD k 0 < ps.getD k 0
abbrev sh43a : SV := S [(0, .v L), (1, .v L), (6, .v .b), (7, .v I)]
abbrev sh43ae : SV := S [(0, .v L), (1, .v L), (6, .v .b)]
abbrev lc43a : LC2 := ⟨0, sh43a, 0, fun (ps, ts, ok, i, _) Q => ((ps.length ≤ big ∧ ts.length ≤ big) ∧ (0 ≤ i ∧ i ≤ ts.length)) ∧ ∀ b, b = (ok && !(ts.drop i.toNat).any (roomB ps)) → Q (.exit 0) (stS 0 sh43ae (ps, ts, b, ()))⟩
theorem v43A (ps ts : List Int) (ok : Bool) (i : Int) (Q : AX → St → Prop) : (xloop2 Try.prog { nm := true } 5 43 0 lc43a (fun _ => some (sh43ae, 0)) (fun (_, ts, _, i, _) => mL ts i) (ps, ts, ok, i, ()) Q) =
  (fork (decide (i < (↑(ts.length) : Int))) (fork ok (req (decide ((0 : Int) ≤ i ∧ i < (↑(ts.length) : Int))) (req (inR IntKind.i64 ((↑(ps.length) : Int) - 1)) (fork (decide ((0 : Int) ≤ List.getD ts (Int.toNat i) (0 :
 Int))) (req (inR IntKind.i64 (i + 1)) (mL ts (i + 1) < mL ts i ∧ LC2.spec lc43a (ps, ts, decide (List.getD ts (Int.toNat i) (0 : Int) ≤ (↑(ps.length) : Int) - 1), i + 1, ()) Q)) (req (inR IntKind.i64 (i + 1)) (mL ts (i +
 1) < mL ts i ∧ LC2.spec lc43a (ps, ts, false, i + 1, ()) Q))))) (req (inR IntKind.i64 (i + 1)) (mL ts (i + 1) < mL ts i ∧ LC2.spec lc43a (ps, ts, false, i + 1, ()) Q))) (Q (AX.exit 0) (stS 0 sh43ae (ps, ts, ok, ())))) := by kernel_rfl
abbrev sh43b : SV := S [(0, .v L), (1, .v L), (8, .v L), (9, .v I)]
def ex43b : Ex2
  | .ret => some (S [(4, .v .b), (5, .v I)], 0)
  | _ => some (.nil, 0)
abbrev lc43b : LC2 := ⟨0, sh43b, 0, fun (ps, ts, xs, i, _) Q => (okPs ps ∧ vldL ps xs ∧ ts.length ≤ 64 ∧ (0 ≤ i ∧ i ≤ ts.length)) ∧ (walkL ps xs (ts.drop i.toNat) = true → Q (.exit 2) (stS 0 .nil ())) ∧ (walkL ps xs (ts.drop i.toNat) = false → Q .ret (stS 0 (S [(4, .v .b), (5, .v I)]) (false, 0, ())))⟩
theorem v43B (ps ts xs : List Int) (i : Int) (Q : AX → St → Prop) : (xloop2 Try.prog { nm := true, f := [(84, fc84)] } 5 43 1 lc43b ex43b (fun (_, ts, _, i, _) => mL ts i) (ps, ts, xs, i, ()) Q) =
  (fork (decide (i < (↑(ts.length) : Int))) (req (decide ((0 : Int) ≤ i ∧ i < (↑(ts.length) : Int))) ((ps.length = xs.length ∧ smX xs) ∧ ∀ (l : List Int) (b : Bool), (if b = true then Option.some l else none) = afterL
 (List.getD ts (Int.toNat i) (0 : Int)) ps xs (0 : Int) → (b = false → l = []) → fork (!b) (Q AX.ret (stS 0 (S [(4, SV.v Ty.b), (5, SV.v I)]) (false, (0 : Int), ()))) (req (inR IntKind.i64 (i + 1)) (mL ts (i + 1) < mL ts i
 ∧ LC2.spec lc43b (ps, ts, l, i + 1, ()) Q)))) (Q (AX.exit 2) (stS 0 SV.nil ()))) := by kernel_rfl
theorem v43F (ps ts : List Int) (K : dens [.b, E] → Prop) : (xfn1 Try.prog { nm := true, f := [(83, fc83)], l2 := [(43, 0, lc43a), (43, 1, lc43b)] } 5 43 fc42 (ps, ts, ()) K) =
  (ps.length ≤ 9223372036854775807 ∧ ∀ (b : Bool), b = decide (okPs ps) → fork b (((ps.length ≤ 9223372036854775807 ∧ ts.length ≤ 9223372036854775807) ∧ (0 : SV.den (SV.slot 7 (SV.v I))) ≤ (0 : Int) ∧ (0 : Int) ≤
 (↑(ts.length) : SV.den (SV.slot 7 (SV.v I)))) ∧ ∀ (b : Bool), b = (decide ((↑(ts.length) : Int) ≤ (64 : Int)) && !List.any (List.drop 0 ts) (roomB ps)) → fork (!b) (K (false, (105 : Int), ())) (req (decide ((0 : Int) ≤
 (↑(ps.length) : Int) ∧ (↑(ps.length) : Int) ≤ (↑(ps.length) : Int) ∧ (8 : Int) * (↑(ps.length) : Int) ≤ (281474976710656 : Int) ∧ (↑(ps.length) : Int) ≤ (281474976710656 : Int))) (req (decide (0 + ps.length ≤ List.length
 (List.replicate (ps.length) (0 : Int)))) ((okPs ps ∧ vldL ps (seg 0 (ps.length) (List.replicate (ps.length) (0 : Int))) ∧ ts.length ≤ 64 ∧ (0 : SV.den (SV.slot 9 (SV.v I))) ≤ (0 : Int) ∧ (0 : Int) ≤ (↑(ts.length) : SV.den
 (SV.slot 9 (SV.v I)))) ∧ (walkL ps (seg 0 (ps.length) (List.replicate (ps.length) (0 : Int))) (List.drop 0 ts) = true → K (true, (0 : Int), ())) ∧ (walkL ps (seg 0 (ps.length) (List.replicate (ps.length) (0 : Int)))
 (List.drop 0 ts) = false → K (false, (0 : SV.den (SV.slot 5 (SV.v I))), ())))))) (((ps.length ≤ 9223372036854775807 ∧ ts.length ≤ 9223372036854775807) ∧ (0 : SV.den (SV.slot 7 (SV.v I))) ≤ (0 : Int) ∧ (0 : Int) ≤
 (↑(ts.length) : SV.den (SV.slot 7 (SV.v I)))) ∧ ∀ (b : Bool), b = (false && !List.any (List.drop 0 ts) (roomB ps)) → fork (!b) (K (false, (105 : Int), ())) (req (decide ((0 : Int) ≤ (↑(ps.length) : Int) ∧ (↑(ps.length) :
 Int) ≤ (↑(ps.length) : Int) ∧ (8 : Int) * (↑(ps.length) : Int) ≤ (281474976710656 : Int) ∧ (↑(ps.length) : Int) ≤ (281474976710656 : Int))) (req (decide (0 + ps.length ≤ List.length (List.replicate (ps.length) (0 :
 Int)))) ((okPs ps ∧ vldL ps (seg 0 (ps.length) (List.replicate (ps.length) (0 : Int))) ∧ ts.length ≤ 64 ∧ (0 : SV.den (SV.slot 9 (SV.v I))) ≤ (0 : Int) ∧ (0 : Int) ≤ (↑(ts.length) : SV.den (SV.slot 9 (SV.v I)))) ∧ (walkL
 ps (seg 0 (ps.length) (List.replicate (ps.length) (0 : Int))) (List.drop 0 ts) = true → K (true, (0 : Int), ())) ∧ (walkL ps (seg 0 (ps.length) (List.replicate (ps.length) (0 : Int))) (List.drop 0 ts) = false → K (false,
 (0 : SV.den (SV.slot 5 (SV.v I))), ()))))))) := by kernel_rfl
def numL (n : Int) : List Int → List Int → Int
  | p :: ps, x :: xs => numL (n * p + x) ps xs
  | _, _ => n
abbrev sh88 : SV := S [(0, .v L), (1, .v L), (5, .v I), (6, .v I)]
abbrev lc88 : LC2 := ⟨0, sh88, 0, fun (ps, xs, n, i, _) Q => (okPs ps ∧ vldL ps xs ∧ (0 ≤ i ∧ i ≤ ps.length) ∧ (0 ≤ n ∧ n < 8 ^ i.toNat)) ∧ ∀ r, r = numL n (ps.drop i.toNat) (xs.drop i.toNat) → Q (.exit 0) (stS 0 (S [(5, .v I)]) (r, ()))⟩
theorem v88L (ps xs : List Int) (n i : Int) (Q : AX → St → Prop) : (xloop2 Try.prog { nm := true } 5 88 0 lc88 (fun _ => some (S [(5, .v I)], 0)) (fun (_, xs, _, i, _) => mL xs i) (ps, xs, n, i, ()) Q) =
  (fork (decide (i < (↑(xs.length) : Int))) (req (decide ((0 : Int) ≤ i ∧ i < (↑(ps.length) : Int))) (req (inR IntKind.i64 (n * List.getD ps (Int.toNat i) (0 : Int))) (req (decide ((0 : Int) ≤ i ∧ i < (↑(xs.length) : Int)))
 (req (inR IntKind.i64 (n * List.getD ps (Int.toNat i) (0 : Int) + List.getD xs (Int.toNat i) (0 : Int))) (req (inR IntKind.i64 (i + 1)) (mL xs (i + 1) < mL xs i ∧ LC2.spec lc88 (ps, xs, n * List.getD ps (Int.toNat i) (0 :
 Int) + List.getD xs (Int.toNat i) (0 : Int), i + 1, ()) Q)))))) (Q (AX.exit 0) (stS 0 (S [(5, SV.v I)]) (n, ())))) := by kernel_rfl
abbrev fc88 : FC := ⟨[.v L, .v L], [I], fun x K => (okPs x.1 ∧ vldL x.1 x.2.1) ∧ ∀ r, r = numL 0 x.1 x.2.1 → K (r, ())⟩
theorem v88F (ps xs : List Int) (K : dens [I] → Prop) : (xfn1 Try.prog { nm := true, l2 := [(88, 0, lc88)] } 5 88 fc88 (ps, xs, ()) K) =
  ((okPs ps ∧ vldL ps xs ∧ ((0 : SV.den (SV.slot 6 (SV.v I))) ≤ (0 : Int) ∧ (0 : Int) ≤ (↑(ps.length) : SV.den (SV.slot 6 (SV.v I)))) ∧ (0 : SV.den (SV.slot 5 (SV.v I))) ≤ (0 : Int) ∧ (0 : Int) < (8 : SV.den (SV.slot 5
 (SV.v I))) ^ 0) ∧ ∀ (r : Int), r = numL (0 : Int) (List.drop 0 ps) (List.drop 0 xs) → K (r, ())) := by kernel_rfl
def prodP (ps : List Int) : Int := ps.foldl (· * ·) 1
abbrev sh101 : SV := S [(0, .v L), (1, .v I), (5, .own 0 I), (6, .v I)]
def agesR (ps : List Int) (o : List Int) (n : Int) : Nat → List Int
  | 0 => o
  | i + 1 => agesR ps (o.set i (Int.tmod n (ps.getD i 0))) (Int.tdiv n (ps.getD i 0)) i
abbrev lc101 : LC2 := ⟨0, sh101, 1, fun (ps, n, o, i, _) Q => (okPs ps ∧ o.length = ps.length ∧ (0 ≤ n ∧ n ≤ 40000) ∧ (-1 ≤ i ∧ i < ps.length)) ∧ ∀ r, r = agesR ps o n (i + 1).toNat → Q (.exit 0) (stS 1 (S [(5, .own 0 I)]) (r, ()))⟩
theorem v101L (ps : List Int) (n : Int) (o : List Int) (i : Int) (Q : AX → St → Prop) : (xloop2 Try.prog { nm := true } 5 101 0 lc101 (fun _ => some (S [(5, .own 0 I)], 1)) (fun (_, _, _, i, _) => (i + 1).toNat) (ps, n, o, i, ()) Q) =
  (fork (decide (i ≥ (0 : Int))) (req (decide ((0 : Int) ≤ i ∧ i < (↑(ps.length) : Int))) (req (decide (List.getD ps (Int.toNat i) (0 : Int) ≠ (0 : Int))) (req (decide ((0 : Int) ≤ i ∧ i < (↑(o.length) : Int))) (req (decide
 (Int.toNat i + 0 < o.length)) (∀ (ys : List (Ty.den I)), ys = List.set o (Int.toNat i + 0) (Int.tmod n (List.getD ps (Int.toNat i) (0 : Int))) → req (decide ((0 : Int) ≤ i ∧ i < (↑(ps.length) : Int))) (req (decide
 (List.getD ps (Int.toNat i) (0 : Int) ≠ (0 : Int))) (req (inR IntKind.i64 (Int.tdiv n (List.getD ps (Int.toNat i) (0 : Int)))) (req (inR IntKind.i64 (i - 1)) (req (decide (0 + o.length ≤ ys.length)) (Int.toNat (i - 1 + (1
 : SV.den (SV.slot 6 (SV.v I)))) < Int.toNat (i + (1 : SV.den (SV.slot 6 (SV.v I)))) ∧ LC2.spec lc101 (ps, Int.tdiv n (List.getD ps (Int.toNat i) (0 : Int)), seg 0 (o.length) ys, i - 1, ()) Q)))))))))) (req (decide (0 +
 o.length ≤ o.length)) (Q (AX.exit 0) (stS 1 (S [(5, SV.own 0 I)]) (seg 0 (o.length) o, ()))))) := by kernel_rfl
abbrev fc101 : FC := ⟨[.v L, .v I], [L], fun x K => (okPs x.1 ∧ 0 ≤ x.2.1 ∧ x.2.1 ≤ 40000) ∧ ∀ r, r = agesR x.1 (List.replicate x.1.length 0) x.2.1 x.1.length → K (r, ())⟩
theorem v101F (ps : List Int) (n : Int) (K : dens [L] → Prop) : (xfn1 Try.prog { nm := true, l2 := [(101, 0, lc101)] } 5 101 fc101 (ps, n, ()) K) =
  (req (decide ((0 : Int) ≤ (↑(ps.length) : Int) ∧ (↑(ps.length) : Int) ≤ (↑(ps.length) : Int) ∧ (8 : Int) * (↑(ps.length) : Int) ≤ (281474976710656 : Int) ∧ (↑(ps.length) : Int) ≤ (281474976710656 : Int))) (req (inR
 IntKind.i64 ((↑(ps.length) : Int) - 1)) (req (decide (0 + ps.length ≤ List.length (List.replicate (ps.length) (0 : Int)))) ((okPs ps ∧ List.length (seg 0 (ps.length) (List.replicate (ps.length) (0 : Int))) = ps.length ∧
 ((0 : SV.den (SV.slot 1 (SV.v I))) ≤ n ∧ n ≤ (40000 : SV.den (SV.slot 1 (SV.v I)))) ∧ (-1 : SV.den (SV.slot 6 (SV.v I))) ≤ (↑(ps.length) : Int) - 1 ∧ (↑(ps.length) : Int) - 1 < (↑(ps.length) : SV.den (SV.slot 6 (SV.v
 I)))) ∧ ∀ (r : List Int), r = agesR ps (seg 0 (ps.length) (List.replicate (ps.length) (0 : Int))) n (Int.toNat ((↑(ps.length) : Int) - 1 + (1 : SV.den (SV.slot 6 (SV.v I))))) → req (decide (0 + r.length ≤ r.length)) (K
 (seg 0 (r.length) r, ())))))) := by kernel_rfl
abbrev TLv : Ty := .pr L L
abbrev Lv : Type := List Int × List Int
def goodN (x : Lv) (xs : List Int) (t : Int) (r : Int) : Bool := match afterL r x.1 xs 0 with
  | some ys => decide (x.2.getD (numL 0 x.1 ys).toNat 0 ≥ t)
  | none => false
def goesB (x : Lv) (xs : List Int) (t : Int) : Bool := (upTo x.1.length).any (goodN x xs t)
abbrev okLv (x : Lv) : Prop := okPs x.1 ∧ (x.2.length : Int) = prodP x.1
abbrev sh100 : SV := S [(1, .v L), (2, .v I), (3, .box 0 (.v TLv)), (7, .v I)]
def ex100 : Ex2
  | .ret => some (S [(6, .v .b)], 0)
  | _ => some (.nil, 0)
abbrev lc100 : LC2 := ⟨0, sh100, 1, fun (xs, t, x, i, _) Q => (okLv x ∧ vldL x.1 xs ∧ (0 ≤ i ∧ i ≤ x.1.length)) ∧ (((upTo x.1.length).drop i.toNat).any (goodN x xs t) = false → Q (.exit 0) (stS 0 .nil ())) ∧ (((upTo x.1.length).drop i.toNat).any (goodN x xs t) = true → Q .ret (stS 0 (S [(6, .v .b)]) (true, ())))⟩
theorem v100L (xs : List Int) (t : Int) (x : Lv) (i : Int) (Q : AX → St → Prop) : (xloop2 Try.prog { nm := true, f := [(84, fc84), (88, fc88)] } 5 100 0 lc100 ex100 (fun (_, _, x, i, _) => mL x.1 i) (xs, t, x, i, ()) Q) =
  (fork (decide (i < (↑(List.length (x.1)) : Int))) ((List.length (x.1) = xs.length ∧ smX xs) ∧ ∀ (l : List Int) (b : Bool), (if b = true then Option.some l else none) = afterL i (x.1) xs (0 : Int) → (b = false → l = []) →
 fork b ((okPs (x.1) ∧ vldL (x.1) l) ∧ ∀ (r : Int), r = numL (0 : Int) (x.1) l → AV.rl I (x.2) = AV.rl I (x.2) ∧ req (decide ((0 : Int) ≤ r ∧ r < (↑(List.length (x.2)) : Int))) (fork (decide (List.getD (x.2) (Int.toNat r)
 (0 : Int) ≥ t)) (Q AX.ret (stS 0 (S [(6, SV.v Ty.b)]) (true, ()))) (req (inR IntKind.i64 (i + 1)) (mL (x.1) (i + 1) < mL (x.1) i ∧ LC2.spec lc100 (xs, t, x, i + 1, ()) Q)))) (req (inR IntKind.i64 (i + 1)) (mL (x.1) (i +
 1) < mL (x.1) i ∧ LC2.spec lc100 (xs, t, x, i + 1, ()) Q))) (Q (AX.exit 0) (stS 0 SV.nil ()))) := by kernel_rfl
abbrev fc100 : FC := ⟨[.v TLv, .v L, .v I], [.b], fun x K => (okLv x.1 ∧ vldL x.1.1 x.2.1) ∧ ∀ b, b = goesB x.1 x.2.1 x.2.2.1 → K (b, ())⟩
theorem v100F (x : Lv) (xs : List Int) (t : Int) (K : dens [.b] → Prop) : (xfn1 Try.prog { nm := true, l2 := [(100, 0, lc100)] } 5 100 fc100 (x, xs, t, ()) K) =
  ((okLv x ∧ vldL (x.1) xs ∧ (0 : SV.den (SV.slot 7 (SV.v I))) ≤ (0 : Int) ∧ (0 : Int) ≤ (↑(List.length (x.1)) : SV.den (SV.slot 7 (SV.v I)))) ∧ (List.any (List.drop 0 (upTo (List.length (x.1)))) (goodN x xs t) = false → K
 (false, ())) ∧ (List.any (List.drop 0 (upTo (List.length (x.1)))) (goodN x xs t) = true → K (true, ()))) := by kernel_rfl
end Go.P10
