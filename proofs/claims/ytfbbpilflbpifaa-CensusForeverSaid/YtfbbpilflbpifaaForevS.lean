/- CensusForever, CensusAround: states and what is to be shown, reduced. No conditions. -/
import Derived.Test.YtfbbpilflbpifaaWalkL
import Derived.Test.YtfbbpilflbpifaaCheapP
set_option linter.unusedSimpArgs false
set_option linter.unusedVariables false
set_option linter.constructorNameAsVariable false
set_option maxRecDepth 100000
set_option maxHeartbeats 2000000
namespace Go.P10
open Go.Lom Go.Proofs Go

abbrev sh11 : SV := S [(0, .v L), (10, .v I), (20, .v I)]
def ex11 : Ex2
  | .ret => some (.nil, 0)
  | _ => some (.nil, 0)
abbrev lc11 : LC2 := ⟨0, sh11, 0, fun (ps, n, i, _) Q => (okPs ps ∧ (0 ≤ i ∧ i ≤ ps.length) ∧ aliveB ps n.toNat zA = true) ∧ Q (.exit 0) (stS 0 .nil ())⟩
theorem v11L (ps : List Int) (n i : Int) (Q : AX → St → Prop) : (xloop2 Try.prog { nm := true, f := [(46, fcLasts)], f2 := [(26, fc26)] } 5 11 0 lc11 ex11 (fun (ps, _, i, _) => mL ps i) (ps, n, i, ()) Q) =
  (fork (decide (i < (↑(ps.length) : Int))) (ps.length ≤ 1000 ∧ ∀ (r : List Int), r = ps → req (decide ((0 : Int) ≤ i ∧ i < (↑(r.length) : Int))) (req (decide (Int.toNat i + 0 < r.length)) (req (inR IntKind.i64 (List.getD r
 (Int.toNat i + 0) (0 : Int) + 1)) (req (decide ((0 : Int) ≤ i ∧ i < (↑(r.length) : Int))) (req (decide (Int.toNat i + 0 < r.length)) (∀ (ys : List (Ty.den I)), ys = List.set r (Int.toNat i + 0) (if List.getD r (Int.toNat
 i + 0) (0 : Int) + 1 < (8 : Int) then List.getD r (Int.toNat i + 0) (0 : Int) + 1 else (8 : Int)) → req (decide (0 + r.length ≤ ys.length)) (List.length (seg 0 (r.length) ys) ≤ 9223372036854775807 ∧ ∀ (n_1 e : Int),
 LastsR (seg 0 (r.length) ys) n_1 e → fork (e != (4 : Int)) (fork (e != (0 : Int)) (Q AX.ret (stS 0 SV.nil ())) (fork (decide (n_1 < n)) (Q AX.ret (stS 0 SV.nil ())) (req (inR IntKind.i64 (i + 1)) (mL ps (i + 1) < mL ps i
 ∧ LC2.spec lc11 (ps, n, i + 1, ()) Q)))) (req (inR IntKind.i64 (i + 1)) (mL ps (i + 1) < mL ps i ∧ LC2.spec lc11 (ps, n, i + 1, ()) Q))))))))) (Q (AX.exit 0) (stS 0 SV.nil ()))) := by kernel_rfl
abbrev fc11 : FC := ⟨[.v L, .v L, .v I], [.b], fun x K => (x.1.length ≤ big ∧ x.2.1.length ≤ big ∧ inR .i64 x.2.2.1 = true) ∧ K (true, ())⟩
theorem v11F (ps ts : List Int) (n : Int) (K : dens [.b] → Prop) : (xfn1 Try.prog { nm := true, f := [(18, fcSame), (19, fcWorks), (25, fc25), (42, fc42), (44, fcTurns), (46, fcLasts)], l2 := [(11, 0, lc11)] } 5 11 fc11 (ps, ts, n, ()) K) =
  ((inR IntKind.i64 n = true ∧ (1 : AT.den (AT.v I)) ≤ (65 : Int) ∧ (65 : Int) ≤ (1000000 : AT.den (AT.v I))) ∧ ∀ (r : AT.den (AT.v I)), r = n % (65 : Int) → ps.length ≤ 9223372036854775807 ∧ ∀ (l : List Int) (e : Int),
 TurnsR ps r l e → ps.length ≤ 9223372036854775807 ∧ ∀ (n e_1 : Int), LastsR ps n e_1 → fork (e == (105 : Int)) (fork (e_1 == e) (fork ((↑(l.length) : Int) == (0 : Int)) (K (true, ())) (K (false, ()))) (K (false, ())))
 ((ps.length ≤ 9223372036854775807 ∧ ts.length ≤ 9223372036854775807) ∧ ∀ (b : Bool) (e_2 : Int), (b, e_2) = keepsV ps ts → fork (e == (0 : Int)) ((ps.length ≤ 9223372036854775807 ∧ l.length ≤ 9223372036854775807) ∧ ∀ (b :
 Bool) (e : Int), (b, e) = keepsV ps l → req (inR IntKind.i64 (Int.tdiv (↑(l.length) : Int) (2 : Int))) (req (decide ((0 : Int) ≤ (0 : Int) ∧ (0 : Int) ≤ Int.tdiv (↑(l.length) : Int) (2 : Int) ∧ Int.tdiv (↑(l.length) :
 Int) (2 : Int) ≤ (↑(l.length) : Int))) ((ps.length ≤ 9223372036854775807 ∧ List.length (List.drop 0 (List.take (Int.toNat (Int.tdiv (↑(l.length) : Int) (2 : Int))) l)) ≤ 9223372036854775807) ∧ ∀ (b_1 : Bool) (e_3 : Int),
 (b_1, e_3) = keepsV ps (List.drop 0 (List.take (Int.toNat (Int.tdiv (↑(l.length) : Int) (2 : Int))) l)) → req (inR IntKind.i64 (Int.tdiv r (2 : Int))) (ps.length ≤ 9223372036854775807 ∧ ∀ (l_1 : List Int) (e_4 : Int),
 TurnsR ps (Int.tdiv r (2 : Int)) l_1 e_4 → fork (e_1 == (4 : Int)) (fork (e == (0 : Int)) (fork b (fork (e_3 == (0 : Int)) (fork b_1 (fork ((↑(l.length) : Int) == r) (fork (e_4 == (0 : Int)) (req (inR IntKind.i64
 (Int.tdiv r (2 : Int))) (req (decide ((0 : Int) ≤ (0 : Int) ∧ (0 : Int) ≤ Int.tdiv r (2 : Int) ∧ Int.tdiv r (2 : Int) ≤ (↑(l.length) : Int))) (l_1.length ≤ 9223372036854775807 ∧ ∀ (r_1 : Bool), r_1 = decide (l_1 =
 List.drop 0 (List.take (Int.toNat (Int.tdiv r (2 : Int))) l)) → fork r_1 (K (true, ())) (K (false, ()))))) (K (false, ()))) (K (false, ()))) (K (false, ()))) (K (false, ()))) (K (false, ()))) (K (false, ()))) (K (false,
 ())))))) (fork (e != (4 : Int)) (K (false, ())) (fork (e_1 != (0 : Int)) (K (false, ())) (fork (decide (n < (0 : Int))) (K (false, ())) (fork (e_2 == (0 : Int)) (fork b (fork (decide ((↑(ts.length) : Int) > n)) (K (false,
 ())) ((okPs ps ∧ ((0 : SV.den (SV.slot 20 (SV.v I))) ≤ (0 : Int) ∧ (0 : Int) ≤ (↑(ps.length) : SV.den (SV.slot 20 (SV.v I)))) ∧ aliveB ps (Int.toNat n) zA = true) ∧ K (true, ()))) ((okPs ps ∧ ((0 : SV.den (SV.slot 20
 (SV.v I))) ≤ (0 : Int) ∧ (0 : Int) ≤ (↑(ps.length) : SV.den (SV.slot 20 (SV.v I)))) ∧ aliveB ps (Int.toNat n) zA = true) ∧ K (true, ()))) ((okPs ps ∧ ((0 : SV.den (SV.slot 20 (SV.v I))) ≤ (0 : Int) ∧ (0 : Int) ≤
 (↑(ps.length) : SV.den (SV.slot 20 (SV.v I)))) ∧ aliveB ps (Int.toNat n) zA = true) ∧ K (true, ())))))))) := by kernel_rfl
abbrev sh12 : SV := S [(0, .v L), (1, .v L), (5, .own 0 I)]
abbrev lc12 : LC2 := ⟨0, sh12, 1, fun (ps, ts, l, _) Q => ((1 ≤ ts.length ∧ ts.length ≤ 16) ∧ l.length ≤ 64 ∧ l = cyc ts l.length) ∧ ∀ l', l' = cyc ts 64 → Q (.exit 0) (stS 1 sh12 (ps, ts, l', ()))⟩
theorem v12L (ps ts l : List Int) (Q : AX → St → Prop) : (xloop2 Try.prog { nm := true } 5 12 0 lc12 (fun _ => some (sh12, 1)) (fun (_, _, l, _) => 64 - l.length) (ps, ts, l, ()) Q) =
  (fork (decide ((↑(l.length) : Int) < (64 : Int))) (req (decide ((↑(ts.length) : Int) ≠ (0 : Int))) (req (decide ((0 : Int) ≤ Int.tmod (↑(l.length) : Int) (↑(ts.length) : Int) ∧ Int.tmod (↑(l.length) : Int) (↑(ts.length) :
 Int) < (↑(ts.length) : Int))) (req (decide (0 + l.length ≤ l.length)) (req (fitsN (l.length + 1) 8) (∀ (ys : List (Ty.den (Ty.i IntKind.i64))), ys = seg 0 (l.length) l ++ [List.getD ts (Int.toNat (Int.tmod (↑(l.length) :
 Int) (↑(ts.length) : Int))) (0 : Int)] → req (decide (0 + (l.length + 1) ≤ ys.length)) (64 - List.length (seg 0 (l.length + 1) ys) < 64 - l.length ∧ LC2.spec lc12 (ps, ts, seg 0 (l.length + 1) ys, ()) Q)))))) (req (decide
 (0 + l.length ≤ l.length)) (Q (AX.exit 0) (stS 1 sh12 (ps, ts, seg 0 (l.length) l, ()))))) := by kernel_rfl
abbrev fc12 : FC := ⟨[.v L, .v L], [.b], fun x K => (x.1.length ≤ big ∧ x.2.1.length ≤ big) ∧ K (true, ())⟩
theorem v12F (ps ts : List Int) (K : dens [.b] → Prop) : (xfn1 Try.prog { nm := true, f := [(19, fcWorks), (34, fcAhead), (42, fc42), (44, fcTurns)], l2 := [(12, 0, lc12)] } 5 12 fc12 (ps, ts, ()) K) =
  (fork ((↑(ts.length) : Int) == (0 : Int)) (K (true, ())) (fork (decide ((↑(ts.length) : Int) > (16 : Int))) (K (true, ())) (((1 ≤ ts.length ∧ ts.length ≤ 16) ∧ 0 ≤ 64 ∧ [] = cyc ts 0) ∧ ∀ (l' : List Int), l' = cyc ts 64 →
 req (decide (0 + l'.length ≤ l'.length)) ((ps.length ≤ 9223372036854775807 ∧ List.length (seg 0 (l'.length) l') ≤ 9223372036854775807) ∧ ∀ (b : Bool) (e : Int), (b, e) = keepsV ps (seg 0 (l'.length) l') → fork (e != (0 :
 Int)) (fork (e == (0 : Int)) (K (true, ())) (fork (e == (105 : Int)) (K (true, ())) (K (false, ())))) (fork (!b) (fork (e == (0 : Int)) (K (true, ())) (fork (e == (105 : Int)) (K (true, ())) (K (false, ())))) (ps.length ≤
 9223372036854775807 ∧ ∀ (l : List Int) (e : Int), TurnsR ps (↑(ts.length) : Int) l e → fork (e == (0 : Int)) (ts.length ≤ 9223372036854775807 ∧ fork (!aheadI ts l) (K (true, ())) (K (false, ()))) (K (false, ())))))))) := by kernel_rfl
end Go.P10
