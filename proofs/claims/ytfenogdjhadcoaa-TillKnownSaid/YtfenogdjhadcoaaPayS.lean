/- Payments: states and what is to be shown, reduced. No conditions. -/
import Derived.Test.YtfenogdjhadcoaaPayL
import Derived.Test.YtfenogdjhadcoaaLibD
import Derived.KernelRfl
import Derived.Test.YtfenogdjhadcoaaProg
set_option linter.all false
set_option maxRecDepth 100000
set_option maxHeartbeats 2000000
namespace Go.P8
open Go.Lom Go.Proofs Go
@[reducible] def S : List (Nat × SV) -> SV
 | [] => .nil
 | p :: l => .cons (.slot p.1 p.2) (S l)
@[reducible] def A : List SV -> SV
 | [] => .nil
 | p :: l => .cons p (A l)
abbrev I : Ty := .i .i64
abbrev E : Ty := .i .i64
abbrev L : Ty := .sl I
abbrev ST : Ty := .pr I I
abbrev big : Nat := 9223372036854775807
def mL {α : Type} (l : List α) (i : Int) : Nat := (l.length - i).toNat
abbrev Memo : Type := List ((Int × Int) × Int)
def memoOk (cs hv : List Int) (m : Memo) : Prop := ∀ e ∈ m, e.2 = fewI cs hv e.1
abbrev cl77 : SV := .fn 77 .nil (A [.ref 0, .ref 1, .ref 3, .ref 4])
abbrev sh77 : SV := S [(1, .box 0 (.v L)), (2, .box 1 (.map 2 ST I)), (3, .box 3 (.v L)), (4, .box 4 cl77), (5, .box 5 (.v ST)), (9, .v I), (43, .v I), (44, .v I)]
abbrev sh77e : SV := S [(1, .box 0 (.v L)), (2, .box 1 (.map 2 ST I)), (3, .box 3 (.v L)), (4, .box 4 cl77), (5, .box 5 (.v ST)), (9, .v I)]
abbrev lc77 (c : Nat) : LC2 := ⟨5, sh77, 6, fun (cs, m, hv, u, s, b, n, i, _) Q => (okC cs hv /\ memoOk cs hv m /\ (0 <= s.1 /\ s.1 < cs.length /\ cs.length - s.1 <= c) /\ (0 <= s.2 /\ s.2 <= 2000) /\ n = manyI cs hv s /\ (0 <= i /\ i <= n) /\ b <= 1073741824) /\
 ∀ (m1 : Memo) (b1 : Int), memoOk cs hv m1 -> b1 = minF (few (lst cs hv (s.1 + 1))) (cs.getD s.1.toNat 0) s.2 (n - i).toNat i b -> Q (.exit 0) (stS 6 sh77e (cs, m1, hv, u, s, b1, ()))⟩
abbrev pre77 : SV := A [.v ST, .box 0 (.v L), .box 1 (.map 2 ST I), .box 3 (.v L), .box 4 cl77]
abbrev post77 : SV := A [.any, .box 0 (.v L), .box 1 (.map 2 ST I), .box 3 (.v L), .box 4 cl77, .v I]
abbrev fc77 (c : Nat) : FC2 := ⟨pre77, 5, post77, 5, fun (s, cs, m, hv, u, _) K => (okC cs hv /\ memoOk cs hv m /\ (0 <= s.1 /\ s.1 <= cs.length /\ cs.length - s.1 < c) /\ (0 <= s.2 /\ s.2 <= 2000)) /\
 ∀ (m1 : Memo) (n : Int), memoOk cs hv m1 -> n = fewI cs hv s -> K ((), cs, m1, hv, u, n, ())⟩
theorem v77L (c : Nat) (cs : List Int) (m : Memo) (hv : List Int) (s : Int × Int) (b n i : Int) (Q : AX -> St -> Prop) : (xloop2 Try.prog { f2 := [(77, fc77 c)] } 5 77 0 (lc77 c) (fun _ => some (sh77e, 6)) (fun (_, _, _, _, _, _, n, i, _) => (n - i).toNat) (cs, m, hv, ((), (), (), (), (), ()), s, b, n, i, ()) Q) =
 (fork (decide (i < n)) (req (inR IntKind.i64 (s.1 + 1)) (req (decide ((0 : Int) <= s.1 /\ s.1 < (↑(cs.length) : Int))) (req (inR IntKind.i64 (i * List.getD cs (Int.toNat (s.1)) (0 : Int))) (req (inR IntKind.i64 (s.2 - i *
 List.getD cs (Int.toNat (s.1)) (0 : Int))) ((okC cs hv /\ memoOk cs hv m /\ ((0 : Ty.den I) <= s.1 + 1 /\ s.1 + 1 <= (↑(cs.length) : Ty.den I) /\ (↑(cs.length) : Ty.den I) - (s.1 + 1) < (↑c : Ty.den I)) /\ (0 : Ty.den I) <= s.2 -
 i * List.getD cs (Int.toNat (s.1)) (0 : Int) /\ s.2 - i * List.getD cs (Int.toNat (s.1)) (0 : Int) <= (2000 : Ty.den I)) /\ ∀ (m1 : Memo) (n_1 : Int), memoOk cs hv m1 -> n_1 = fewI cs hv (s.1 + 1, s.2 - i * List.getD cs
 (Int.toNat (s.1)) (0 : Int)) -> req (inR IntKind.i64 (i + n_1)) (req (inR IntKind.i64 (i + 1)) (Int.toNat (n - (i + 1)) < Int.toNat (n - i) /\ LC2.spec (lc77 c) (cs, m1, hv, ((), (), (), (), (), ()), s, if i + n_1 < b then
 i + n_1 else b, n, i + 1, ()) Q))))))) (Q (AX.exit 0) (stS 6 sh77e (cs, m, hv, ((), (), (), (), (), ()), s, b, ())))) := by kernel_rfl
theorem v77F (c : Nat) (k s : Int) (cs : List Int) (m : Memo) (hv : List Int) (K : post77.den -> Prop) : (xfn2 Try.prog { l2 := [(77, 0, lc77 c)] } 5 77 (fc77 (c + 1)) ((k, s), cs, m, hv, ((), (), (), (), (), ()), ()) K) =
 (fork (k == (↑(cs.length) : Int) && (s == (0 : Int) && true)) (K ((), cs, m, hv, ((), (), (), (), (), ()), (0 : Int), ())) (fork (k == (↑(cs.length) : Int)) (K ((), cs, m, hv, ((), (), (), (), (), ()), (1073741824 : Int),
 ())) (fork (Option.isSome (tmGet ST m (k, s))) (K ((), cs, m, hv, ((), (), (), (), (), ()), Option.getD (tmGet ST m (k, s)) (0 : Int), ())) (req (decide ((0 : Int) <= k /\ k < (↑(hv.length) : Int))) (req (decide ((0 : Int)
 <= k /\ k < (↑(cs.length) : Int))) (req (decide (List.getD cs (Int.toNat k) (0 : Int) ≠ (0 : Int))) (req (inR IntKind.i64 (Int.tdiv s (List.getD cs (Int.toNat k) (0 : Int)))) (req (inR IntKind.i64 ((if Int.tdiv s (List.getD
 cs (Int.toNat k) (0 : Int)) < List.getD hv (Int.toNat k) (0 : Int) then Int.tdiv s (List.getD cs (Int.toNat k) (0 : Int)) else List.getD hv (Int.toNat k) (0 : Int)) + 1)) ((okC cs hv /\ memoOk cs hv m /\ ((0 : Ty.den I) <= k
 /\ k < (↑(cs.length) : Ty.den I) /\ (↑(cs.length) : Ty.den I) - k <= (↑c : Ty.den I)) /\ ((0 : Ty.den I) <= s /\ s <= (2000 : Ty.den I)) /\ (if Int.tdiv s (List.getD cs (Int.toNat k) (0 : Int)) < List.getD hv (Int.toNat k) (0 :
 Int) then Int.tdiv s (List.getD cs (Int.toNat k) (0 : Int)) else List.getD hv (Int.toNat k) (0 : Int)) + 1 = manyI cs hv (k, s) /\ ((0 : SV.den (SV.slot 44 (SV.v I))) <= (0 : Int) /\ (0 : Int) <= (if Int.tdiv s (List.getD cs
 (Int.toNat k) (0 : Int)) < List.getD hv (Int.toNat k) (0 : Int) then Int.tdiv s (List.getD cs (Int.toNat k) (0 : Int)) else List.getD hv (Int.toNat k) (0 : Int)) + 1) /\ (1073741824 : Int) <= (1073741824 : SV.den (SV.slot 9
 (SV.v I)))) /\ ∀ (m1 : Memo) (b1 : Int), memoOk cs hv m1 -> b1 = minF (few (lst cs hv (k + 1))) (List.getD cs (Int.toNat k) (0 : Ty.den I)) s (Int.toNat ((if Int.tdiv s (List.getD cs (Int.toNat k) (0 : Int)) < List.getD hv
 (Int.toNat k) (0 : Int) then Int.tdiv s (List.getD cs (Int.toNat k) (0 : Int)) else List.getD hv (Int.toNat k) (0 : Int)) + 1 - 0)) (0 : Int) (1073741824 : Int) -> K ((), cs, tmPut ST m1 (k, s) b1, hv, ((), (), (), (), (),
 ()), b1, ())))))))))) := by kernel_rfl
def payR (cs hv : List Int) (sum : Int) : List Int × Int := if few (cs.zip hv) sum >= 1073741824 then ([], 4) else (payL (cs.zip hv) sum, 0)
abbrev fcPayI : FC := ⟨[.v L, .v L, .v I], [L, E], fun x K => (okC x.1 x.2.1 /\ 0 <= x.2.2.1 /\ x.2.2.1 <= 2000) /\ ∀ r e, (r, e) = payR x.1 x.2.1 x.2.2.1 -> K (r, e, ())⟩
abbrev sh45 : SV := S [(3, .box 0 (.v L)), (8, .box 1 (.map 2 ST I)), (4, .box 3 (.v L)), (9, .box 4 cl77), (10, .box 5 (.v ST)), (11, .own 6 I), (23, .v L), (24, .v I), (25, .v I)]
abbrev sh45e : SV := S [(11, .own 6 I)]
abbrev lc45 : LC2 := ⟨0, sh45, 7, fun (cs, m, hv, u, s, o, l, k, i, _) Q => (okC cs hv /\ memoOk cs hv m /\ l = cs /\ k = cs.length /\ (0 <= i /\ i <= cs.length) /\ s.1 = i /\ (0 <= s.2 /\ s.2 <= 2000) /\ fewI cs hv s < 1073741824 /\ (o.length : Int) <= i) /\
 ∀ r, r = o ++ payL (lst cs hv i) s.2 -> Q (.exit 0) (stS 7 sh45e (r, ()))⟩
abbrev sh45b : SV := S [(3, .box 0 (.v L)), (8, .box 1 (.map 2 ST I)), (4, .box 3 (.v L)), (9, .box 4 cl77), (10, .box 5 (.v ST)), (11, .own 6 I), (12, .v I), (13, .v I), (14, .v I), (23, .v L), (24, .v I), (25, .v I)]
abbrev lc45b : LC2 := ⟨0, sh45b, 7, fun (cs, m, hv, u, s, o, q, c, n, l, k, i, _) Q => (okC cs hv /\ memoOk cs hv m /\ (0 <= q /\ q < cs.length) /\ s.1 = q /\ (0 <= s.2 /\ s.2 <= 2000) /\ c = cs.getD q.toNat 0 /\ (0 <= n /\ n <= 2000 /\ n * c <= s.2) /\ hasN (few (lst cs hv (q + 1))) c s.2 (fewI cs hv s) n) /\
 ∀ (m1 : Memo) (n1 : Int), memoOk cs hv m1 -> n1 = topN (few (lst cs hv (q + 1))) c s.2 (fewI cs hv s) n.toNat -> Q (.exit 2) (stS 7 sh45b (cs, m1, hv, u, s, o, q, c, n1, l, k, i, ()))⟩
theorem v45B (cs : List Int) (m : Memo) (hv : List Int) (s : Int × Int) (o : List Int) (q c n : Int) (l : List Int) (k i : Int) (Q : AX -> St -> Prop) : (xloop2 Try.prog { nm := true, f2 := [(77, fc77 9)] } 5 45 1 lc45b (fun _ => some (sh45b, 7)) (fun (_, _, _, _, _, _, _, _, n, _) => n.toNat) (cs, m, hv, ((), (), (), (), (), ()), s, o, q, c, n, l, k, i, ()) Q) =
 (req (inR IntKind.i64 (q + 1)) (req (inR IntKind.i64 (n * c)) (req (inR IntKind.i64 (s.2 - n * c)) ((okC cs hv /\ memoOk cs hv m /\ ((0 : Ty.den I) <= q + 1 /\ q + 1 <= (↑(cs.length) : Ty.den I) /\ (↑(cs.length) : Ty.den I) -
 (q + 1) < (↑9 : Ty.den I)) /\ (0 : Ty.den I) <= s.2 - n * c /\ s.2 - n * c <= (2000 : Ty.den I)) /\ ∀ (m1 : Memo) (n_1 : Int), memoOk cs hv m1 -> n_1 = fewI cs hv (q + 1, s.2 - n * c) -> AV.agg [AV.int IntKind.i64 (s.1), AV.int
 IntKind.i64 (s.2)] = AV.agg [AV.int IntKind.i64 (s.1), AV.int IntKind.i64 (s.2)] /\ AV.fn (Go.Fn.func 77) [] [AV.ptr 0 0 0, AV.ptr 1 0 0, AV.ptr 3 0 0, AV.ptr 4 0 0] = AV.fn (Go.Fn.func 77) [] [AV.ptr 0 0 0, AV.ptr 1 0 0,
 AV.ptr 3 0 0, AV.ptr 4 0 0] /\ req (inR IntKind.i64 (n + n_1)) ((okC cs hv /\ memoOk cs hv m1 /\ ((0 : Ty.den I) <= s.1 /\ s.1 <= (↑(cs.length) : Ty.den I) /\ (↑(cs.length) : Ty.den I) - s.1 < (↑9 : Ty.den I)) /\ (0 : Ty.den I) <=
 s.2 /\ s.2 <= (2000 : Ty.den I)) /\ ∀ (m1 : Memo) (n_2 : Int), memoOk cs hv m1 -> n_2 = fewI cs hv s -> fork (n + n_1 != n_2) (req (inR IntKind.i64 (n - 1)) (req (decide (0 + o.length <= o.length)) (Int.toNat (n - 1) <
 Int.toNat n /\ LC2.spec lc45b (cs, m1, hv, ((), (), (), (), (), ()), s, seg 0 (o.length) o, q, c, n - 1, l, k, i, ()) Q))) (req (decide (0 + o.length <= o.length)) (Q (AX.exit 2) (stS 7 sh45b (cs, m1, hv, ((), (), (), (),
 (), ()), s, seg 0 (o.length) o, q, c, n, l, k, i, ()))))))))) := by kernel_rfl
theorem v45L (cs : List Int) (m : Memo) (hv : List Int) (s : Int × Int) (o : List Int) (l : List Int) (k i : Int) (Q : AX -> St -> Prop) : (xloop2 Try.prog { nm := true, l2 := [(45, 1, lc45b)] } 5 45 0 lc45 (fun _ => some (sh45e, 7)) (fun (_, _, _, _, _, _, l, _, i, _) => mL l i) (cs, m, hv, ((), (), (), (), (), ()), s, o, l, k, i, ()) Q) =
 (fork (decide (i < k)) (req (decide ((0 : Int) <= i /\ i < (↑(l.length) : Int))) (req (decide ((0 : Int) <= i /\ i < (↑(hv.length) : Int))) (req (decide (List.getD l (Int.toNat i) (0 : Int) ≠ (0 : Int))) (req (inR IntKind.i64
 (Int.tdiv (s.2) (List.getD l (Int.toNat i) (0 : Int)))) (req (decide (0 + o.length <= o.length)) ((okC cs hv /\ memoOk cs hv m /\ ((0 : SV.den (SV.slot 12 (SV.v I))) <= i /\ i < (↑(cs.length) : SV.den (SV.slot 12 (SV.v I)))) /\
 s.1 = i /\ ((0 : Ty.den I) <= s.2 /\ s.2 <= (2000 : Ty.den I)) /\ List.getD l (Int.toNat i) (0 : Int) = List.getD cs (Int.toNat i) (0 : Ty.den I) /\ (((0 : SV.den (SV.slot 14 (SV.v I))) <= if Int.tdiv (s.2) (List.getD l
 (Int.toNat i) (0 : Int)) < List.getD hv (Int.toNat i) (0 : Int) then Int.tdiv (s.2) (List.getD l (Int.toNat i) (0 : Int)) else List.getD hv (Int.toNat i) (0 : Int)) /\ (if Int.tdiv (s.2) (List.getD l (Int.toNat i) (0 :
 Int)) < List.getD hv (Int.toNat i) (0 : Int) then Int.tdiv (s.2) (List.getD l (Int.toNat i) (0 : Int)) else List.getD hv (Int.toNat i) (0 : Int)) <= (2000 : SV.den (SV.slot 14 (SV.v I))) /\ (if Int.tdiv (s.2) (List.getD l
 (Int.toNat i) (0 : Int)) < List.getD hv (Int.toNat i) (0 : Int) then Int.tdiv (s.2) (List.getD l (Int.toNat i) (0 : Int)) else List.getD hv (Int.toNat i) (0 : Int)) * List.getD l (Int.toNat i) (0 : Int) <= s.2) /\ hasN (few
 (lst cs hv (i + 1))) (List.getD l (Int.toNat i) (0 : Int)) (s.2) (fewI cs hv s) (if Int.tdiv (s.2) (List.getD l (Int.toNat i) (0 : Int)) < List.getD hv (Int.toNat i) (0 : Int) then Int.tdiv (s.2) (List.getD l (Int.toNat
 i) (0 : Int)) else List.getD hv (Int.toNat i) (0 : Int))) /\ ∀ (m1 : Memo) (n1 : Int), memoOk cs hv m1 -> n1 = topN (few (lst cs hv (i + 1))) (List.getD l (Int.toNat i) (0 : Int)) (s.2) (fewI cs hv s) (Int.toNat (if
 Int.tdiv (s.2) (List.getD l (Int.toNat i) (0 : Int)) < List.getD hv (Int.toNat i) (0 : Int) then Int.tdiv (s.2) (List.getD l (Int.toNat i) (0 : Int)) else List.getD hv (Int.toNat i) (0 : Int))) -> req (inR IntKind.i64 (i +
 1)) (req (inR IntKind.i64 (n1 * List.getD l (Int.toNat i) (0 : Int))) (req (inR IntKind.i64 (s.2 - n1 * List.getD l (Int.toNat i) (0 : Int))) (AV.int IntKind.i64 (s.2) = AV.int IntKind.i64 (s.2) /\ req (decide (0 +
 List.length (seg 0 (o.length) o) <= List.length (seg 0 (o.length) o))) (req (fitsN (List.length (seg 0 (o.length) o) + 1) 8) (∀ (ys : List (Ty.den (Ty.i IntKind.i64))), ys = seg 0 (List.length (seg 0 (o.length) o)) (seg 0
 (o.length) o) ++ [n1] -> AV.int IntKind.i64 (s.2) = AV.int IntKind.i64 (s.2) /\ AV.int IntKind.i64 (s.2) = AV.int IntKind.i64 (s.2) /\ req (inR IntKind.i64 (i + 1)) (req (decide (0 + (List.length (seg 0 (o.length) o) + 1) <=
 ys.length)) (mL l (i + 1) < mL l i /\ LC2.spec lc45 (cs, m1, hv, ((), (), (), (), (), ()), (i + 1, s.2 - n1 * List.getD l (Int.toNat i) (0 : Int)), seg 0 (List.length (seg 0 (o.length) o) + 1) ys, l, k, i + 1, ())
 Q))))))))))))) (req (decide (0 + o.length <= o.length)) (Q (AX.exit 0) (stS 7 sh45e (seg 0 (o.length) o, ()))))) := by kernel_rfl
theorem v45F (cs hv : List Int) (sum : Int) (K : dens [L, E] -> Prop) : (xfn1 Try.prog { nm := true, f2 := [(77, fc77 9)], l2 := [(45, 0, lc45)] } 5 45 fcPayI (cs, hv, sum, ()) K) =
 ((okC cs hv /\ memoOk cs hv [] /\ ((0 : Ty.den I) <= (0 : Int) /\ (0 : Int) <= (↑(cs.length) : Ty.den I) /\ (↑(cs.length) : Ty.den I) - 0 < (↑9 : Ty.den I)) /\ (0 : Ty.den I) <= sum /\ sum <= (2000 : Ty.den I)) /\ ∀ (m1 : Memo) (n :
 Int), memoOk cs hv m1 -> n = fewI cs hv ((0 : Int), sum) -> fork (decide (n >= (1073741824 : Int))) (K ([], (4 : Int), ())) ((okC cs hv /\ memoOk cs hv m1 /\ cs = cs /\ (↑(cs.length) : Int) = (↑(cs.length) : SV.den (SV.slot 24
 (SV.v I))) /\ ((0 : SV.den (SV.slot 25 (SV.v I))) <= (0 : Int) /\ (0 : Int) <= (↑(cs.length) : SV.den (SV.slot 25 (SV.v I)))) /\ (0 : Int) = (0 : Int) /\ ((0 : Ty.den I) <= sum /\ sum <= (2000 : Ty.den I)) /\ fewI cs hv ((0 : Int),
 sum) < (1073741824 : Int) /\ (0 : Int) <= (0 : Int)) /\ ∀ (r : SV.den (SV.slot ((11, SV.own 6 I).1) ((11, SV.own 6 I).2))), r = [] ++ payL (lst cs hv (0 : Int)) sum -> req (decide (0 + r.length <= r.length)) (K (seg 0
 (r.length) r, (0 : Int), ())))) := by kernel_rfl
abbrev TDr : Ty := .pr L L
abbrev Dr : Type := List Int × List Int
def haveB (n : Int) : Bool := decide (0 <= n /\ n <= 50)
def haveOk (d : Dr) (l : List Int) : Bool := decide (l.length = d.1.length) && l.all haveB
def coinB (l : List Int) (i : Nat) : Bool := decide (1 <= l.getD i 0 /\ l.getD i 0 <= 50000) && (decide (i = 0) || decide (l.getD i 0 < l.getD (i - 1) 0))
def coinsOk (l : List Int) (i : Nat) : Bool := (List.range' i (l.length - i)).all (coinB l)
def checkE (d : Dr) : Int := if decide (1 <= d.1.length /\ d.1.length <= 8) = true /\ haveOk d d.2 = true /\ coinsOk d.1 0 = true then 0 else 80
def firstBadH : List Int -> Int -> Int
 | [], _ => -1
 | x :: l, i => if haveB x = true then firstBadH l (i + 1) else i
abbrev sh84 : SV := S [(0, .v L), (1, .a (.clo 79 [] [])), (7, .v I), (8, .v I)]
abbrev shR4i : SV := S [(4, .v I)]
def ex84 : Ex2
 | .ret => some (shR4i, 0)
 | _ => some (.nil, 0)
abbrev lc84 : LC2 := ⟨0, sh84, 0, fun (l, _, m, i, _) Q => (0 <= i /\ i <= l.length /\ m = l.length /\ l.length <= 2000) /\ ((l.drop i.toNat).all haveB = true -> Q (.exit 0) (stS 0 .nil ())) /\ ((l.drop i.toNat).all haveB = false -> Q .ret (stS 0 shR4i (firstBadH (l.drop i.toNat) i, ())))⟩
theorem v84L (l : List Int) (m i : Int) (Q : AX -> St -> Prop) : (xloop2 Try.prog {} 5 84 0 lc84 ex84 (fun (l, _, _, i, _) => mL l i) (l, ((), ()), m, i, ()) Q) =
 (fork (decide (i < m)) (req (decide ((0 : Int) <= i /\ i < (↑(l.length) : Int))) (fork (decide (List.getD l (Int.toNat i) (0 : Int) >= (0 : Int))) (fork (!decide (List.getD l (Int.toNat i) (0 : Int) <= (50 : Int))) (Q AX.ret
 (stS 0 shR4i (i, ()))) (req (inR IntKind.i64 (i + 1)) (mL l (i + 1) < mL l i /\ LC2.spec lc84 (l, ((), ()), m, i + 1, ()) Q))) (Q AX.ret (stS 0 shR4i (i, ()))))) (Q (AX.exit 0) (stS 0 SV.nil ()))) := by kernel_rfl
abbrev fc84 : FC := ⟨[.v L, .clo 79 [] []], [I], fun x K => x.1.length <= 2000 /\ K (firstBadH x.1 0, ())⟩
theorem v84F (l : List Int) (K : dens [I] -> Prop) : (xfn1 Try.prog { l2 := [(84, 0, lc84)] } 5 84 fc84 (l, ((), ()), ()) K) =
 (((0 : SV.den (SV.slot 8 (SV.v I))) <= (0 : Int) /\ (0 : Int) <= (↑(l.length) : SV.den (SV.slot 8 (SV.v I))) /\ (↑(l.length) : Int) = (↑(l.length) : SV.den (SV.slot 7 (SV.v I))) /\ l.length <= 2000) /\ (List.all (List.drop 0 l)
 haveB = true -> K ((-1 : Int), ())) /\ (List.all (List.drop 0 l) haveB = false -> K (firstBadH (List.drop 0 l) (0 : Int), ()))) := by kernel_rfl
abbrev fc47 : FC := ⟨[.v TDr, .v L], [.b], fun x K => x.1.1.length <= 8 /\ K (haveOk x.1 x.2.1, ())⟩
theorem v47F (d : Dr) (l : List Int) (K : dens [.b] -> Prop) : (xfn1 Try.prog { f := [(84, fc84)] } 5 47 fc47 (d, l, ()) K) =
 (fork ((↑(l.length) : Int) == (↑(List.length (d.1)) : Int)) (l.length <= 2000 /\ K (!decide (firstBadH l (0 : Int) >= (0 : Int)), ())) (K (false, ()))) := by kernel_rfl
abbrev sh15 : SV := S [(1, .box 0 (.v TDr)), (18, .v L), (19, .v I), (20, .v I)]
abbrev shR2 : SV := S [(2, .v E)]
def ex15 : Ex2
 | .ret => some (shR2, 0)
 | _ => some (.nil, 0)
abbrev lc15 : LC2 := ⟨0, sh15, 1, fun (d, l, m, i, _) Q => (0 <= i /\ i <= l.length /\ m = l.length /\ l = d.1 /\ l.length <= 8) /\ (coinsOk l i.toNat = true -> Q (.exit 0) (stS 0 .nil ())) /\ (coinsOk l i.toNat = false -> Q .ret (stS 0 shR2 (80, ())))⟩
theorem v15L (d : Dr) (l : List Int) (m i : Int) (Q : AX -> St -> Prop) : (xloop2 Try.prog {} 5 15 0 lc15 ex15 (fun (_, l, _, i, _) => mL l i) (d, l, m, i, ()) Q) =
 (fork (decide (i < m)) (req (decide ((0 : Int) <= i /\ i < (↑(l.length) : Int))) (fork (decide (List.getD l (Int.toNat i) (0 : Int) >= (1 : Int))) (fork (!decide (List.getD l (Int.toNat i) (0 : Int) <= (50000 : Int))) (Q
 AX.ret (stS 0 shR2 ((80 : Int), ()))) (fork (decide (i > (0 : Int))) (req (inR IntKind.i64 (i - 1)) (req (decide ((0 : Int) <= i - 1 /\ i - 1 < (↑(List.length (d.1)) : Int))) (fork (decide (List.getD (d.1) (Int.toNat (i -
 1)) (0 : Int) <= List.getD l (Int.toNat i) (0 : Int))) (Q AX.ret (stS 0 shR2 ((80 : Int), ()))) (req (inR IntKind.i64 (i + 1)) (mL l (i + 1) < mL l i /\ LC2.spec lc15 (d, l, m, i + 1, ()) Q))))) (req (inR IntKind.i64 (i +
 1)) (mL l (i + 1) < mL l i /\ LC2.spec lc15 (d, l, m, i + 1, ()) Q)))) (Q AX.ret (stS 0 shR2 ((80 : Int), ()))))) (Q (AX.exit 0) (stS 0 SV.nil ()))) := by kernel_rfl
abbrev fcCheck : FC := ⟨[.v TDr], [E], fun x K => (x.1.1.length <= big /\ x.1.2.length <= big) /\ K (checkE x.1, ())⟩
theorem v15F (d : Dr) (K : dens [E] -> Prop) : (xfn1 Try.prog { f := [(47, fc47)], l2 := [(15, 0, lc15)] } 5 15 fcCheck (d, ()) K) =
 (fork (decide ((↑(List.length (d.1)) : Int) >= (1 : Int))) (fork (!decide ((↑(List.length (d.1)) : Int) <= (8 : Int))) (K ((80 : Int), ())) (List.length (d.1) <= 8 /\ fork (!haveOk d (d.2)) (K ((80 : Int), ())) (((0 : SV.den
 (SV.slot 20 (SV.v I))) <= (0 : Int) /\ (0 : Int) <= (↑(List.length (d.1)) : SV.den (SV.slot 20 (SV.v I))) /\ (↑(List.length (d.1)) : Int) = (↑(List.length (d.1)) : SV.den (SV.slot 19 (SV.v I))) /\ d.1 = d.1 /\ List.length (d.1)
 <= 8) /\ (coinsOk (d.1) 0 = true -> K ((0 : Int), ())) /\ (coinsOk (d.1) 0 = false -> K ((80 : SV.den (SV.slot 2 (SV.v E))), ()))))) (K ((80 : Int), ()))) := by kernel_rfl
def payE (d : Dr) (sum : Int) : List Int × Int := if checkE d ≠ 0 then ([], checkE d) else if 0 <= sum /\ sum <= 2000 then payR d.1 d.2 sum else ([], 7)
abbrev fcPayE : FC := ⟨[.v TDr, .v I], [L, E], fun x K => (x.1.1.length <= big /\ x.1.2.length <= big) /\ ∀ r e, (r, e) = payE x.1 x.2.1 -> K (r, e, ())⟩
abbrev fcCheck' : FC := ⟨[.v TDr], [E], fun x K => (x.1.1.length <= big /\ x.1.2.length <= big) /\ ∀ e : Int, e = checkE x.1 -> K (e, ())⟩
theorem v12F (d : Dr) (sum : Int) (K : dens [L, E] -> Prop) : (xfn1 Try.prog { f := [(15, fcCheck'), (45, fcPayI)] } 5 12 fcPayE (d, sum, ()) K) =
 ((List.length (d.1) <= 9223372036854775807 /\ List.length (d.2) <= 9223372036854775807) /\ ∀ (e : Int), e = checkE d -> fork (e != (0 : Int)) (K ([], e, ())) (fork (decide (sum >= (0 : Int))) (fork (!decide (sum <= (2000 :
 Int))) (K ([], (7 : Int), ())) ((okC (d.1) (d.2) /\ (0 : AT.den (AT.v I)) <= sum /\ sum <= (2000 : AT.den (AT.v I))) /\ ∀ (r : List Int) (e : Int), (r, e) = payR (d.1) (d.2) sum -> K (r, e, ()))) (K ([], (7 : Int), ())))) := by kernel_rfl
def valueN : List Int -> List Int -> Int
 | c :: cs, n :: l => n * c + valueN cs l
 | _, _ => 0
abbrev cl49 : SV := .fn 49 .nil (A [.box 0 (.v TDr)])
abbrev sh48 : SV := S [(1, cl49), (5, .v I), (8, .v L), (9, .v I), (10, .v I)]
abbrev sh48e : SV := S [(1, cl49), (5, .v I)]
abbrev lc48 : LC2 := ⟨1, sh48, 1, fun (f, n, l, m, i, _) Q => (0 <= i /\ i <= l.length /\ m = l.length /\ l.length = f.2.1.1.length /\ l.length <= 8 /\ (∀ x ∈ l, 0 <= x /\ x <= 50) /\ (∀ c ∈ f.2.1.1, 1 <= c /\ c <= 50000) /\ 0 <= n /\ n <= i * 2500000) /\ ∀ r, r = n + valueN (f.2.1.1.drop i.toNat) (l.drop i.toNat) -> Q (.exit 0) (stS 1 sh48e (f, r, ()))⟩
theorem v48L (d : Dr) (n : Int) (l : List Int) (m i : Int) (Q : AX -> St -> Prop) : (xloop2 Try.prog {} 5 48 0 lc48 (fun _ => some (sh48e, 1)) (fun (_, _, l, _, i, _) => mL l i) (((), (d, ())), n, l, m, i, ()) Q) =
 (fork (decide (i < m)) (req (decide ((0 : Int) <= i /\ i < (↑(l.length) : Int))) (req (decide ((0 : Int) <= i /\ i < (↑(List.length (d.1)) : Int))) (req (inR IntKind.i64 (List.getD l (Int.toNat i) (0 : Int) * List.getD (d.1)
 (Int.toNat i) (0 : Int))) (req (inR IntKind.i64 (n + List.getD l (Int.toNat i) (0 : Int) * List.getD (d.1) (Int.toNat i) (0 : Int))) (req (inR IntKind.i64 (i + 1)) (mL l (i + 1) < mL l i /\ LC2.spec lc48 (((), d, ()), n +
 List.getD l (Int.toNat i) (0 : Int) * List.getD (d.1) (Int.toNat i) (0 : Int), l, m, i + 1, ()) Q)))))) (Q (AX.exit 0) (stS 1 sh48e (((), d, ()), n, ())))) := by kernel_rfl
abbrev fc48 : FC2 := ⟨A [.v L, cl49], 1, A [.any, cl49, .v I], 1, fun (l, f, _) K => (l.length = f.2.1.1.length /\ l.length <= 8 /\ (∀ x ∈ l, 0 <= x /\ x <= 50) /\ (∀ c ∈ f.2.1.1, 1 <= c /\ c <= 50000)) /\ ∀ r, r = valueN f.2.1.1 l -> K ((), f, r, ())⟩
theorem v48F (l : List Int) (d : Dr) (K : fc48.post.den -> Prop) : (xfn2 Try.prog { l2 := [(48, 0, lc48)] } 5 48 fc48 (l, ((), (d, ())), ()) K) =
 (((0 : SV.den (SV.slot 10 (SV.v I))) <= (0 : Int) /\ (0 : Int) <= (↑(l.length) : SV.den (SV.slot 10 (SV.v I))) /\ (↑(l.length) : Int) = (↑(l.length) : SV.den (SV.slot 9 (SV.v I))) /\ l.length = List.length (d.1) /\ l.length <= 8
 /\ (∀ (x : Ty.den I), x ∈ l -> (0 : Ty.den I) <= x /\ x <= (50 : Ty.den I)) /\ (∀ (c : Ty.den I), c ∈ d.1 -> (1 : Ty.den I) <= c /\ c <= (50000 : Ty.den I)) /\ (0 : SV.den (SV.slot 5 (SV.v I))) <= (0 : Int) /\ (0 : Int) <= (0 : Int) *
 (2500000 : SV.den (SV.slot 5 (SV.v I)))) /\ ∀ (r : SV.den (SV.slot ((5, SV.v I).1) ((5, SV.v I).2))), r = (0 : Int) + valueN (List.drop 0 (d.1)) (List.drop 0 l) -> K ((), ((), d, ()), r, ())) := by kernel_rfl
abbrev fc50 : FC2 := ⟨A [.v L], 0, A [.any, .own 0 I], 1, fun (l, _) K => l.length <= 8 /\ ∀ r : List Int, r = l -> K ((), r, ())⟩
theorem v50F (l : List Int) (K : fc50.post.den -> Prop) : (xfn2 Try.prog {} 5 50 fc50 (l, ()) K) =
 (∀ (b : Bool), (b = true -> l.length = 0) -> fork b (K ((), [], ())) (req (fitsN (0 + l.length) 8) (req (decide (0 + (0 + l.length) <= List.length ([] ++ l))) (K ((), seg 0 (0 + l.length) ([] ++ l), ()))))) := by kernel_rfl
def addL : List Int -> List Int -> List Int := List.zipWith (· + ·)
abbrev sh17 : SV := S [(3, .box 0 (.v TDr)), (2, .v I), (9, .v I), (10, .own 1 I), (41, .v L), (42, .v I), (43, .v I)]
abbrev sh17e : SV := S [(3, .box 0 (.v TDr)), (2, .v I), (9, .v I), (10, .own 1 I)]
abbrev lc17 : LC2 := ⟨0, sh17, 2, fun (d, p, s, b, l, m, i, _) Q => (0 <= i /\ i <= l.length /\ m = l.length /\ b.length = l.length /\ l.length <= 8 /\ (∀ x ∈ l, 0 <= x /\ x <= 50) /\ (∀ x ∈ b, 0 <= x /\ x <= 100) /\ ∀ j : Nat, i <= j -> j < b.length -> b.getD j 0 <= 50) /\
 ∀ r : List Int, r = b.take i.toNat ++ addL (b.drop i.toNat) (l.drop i.toNat) -> Q (.exit 1) (stS 2 sh17e (d, p, s, r, ()))⟩
theorem v17L (d : Dr) (p s : Int) (b l : List Int) (m i : Int) (Q : AX -> St -> Prop) : (xloop2 Try.prog { nm := true } 5 17 0 lc17 (fun _ => some (sh17e, 2)) (fun (_, _, _, _, l, _, i, _) => mL l i) (d, p, s, b, l, m, i, ()) Q) =
 (fork (decide (i < m)) (req (decide ((0 : Int) <= i /\ i < (↑(l.length) : Int))) (req (decide ((0 : Int) <= i /\ i < (↑(b.length) : Int))) (req (decide (Int.toNat i + 0 < b.length)) (req (inR IntKind.i64 (List.getD b
 (Int.toNat i + 0) (0 : Int) + List.getD l (Int.toNat i) (0 : Int))) (req (decide ((0 : Int) <= i /\ i < (↑(b.length) : Int))) (req (decide (Int.toNat i + 0 < b.length)) (∀ (ys : List (Ty.den I)), ys = List.set b (Int.toNat
 i + 0) (List.getD b (Int.toNat i + 0) (0 : Int) + List.getD l (Int.toNat i) (0 : Int)) -> req (inR IntKind.i64 (i + 1)) (req (decide (0 + b.length <= ys.length)) (mL l (i + 1) < mL l i /\ LC2.spec lc17 (d, p, s, seg 0
 (b.length) ys, l, m, i + 1, ()) Q))))))))) (req (decide (0 + b.length <= b.length)) (Q (AX.exit 1) (stS 2 sh17e (d, p, s, seg 0 (b.length) b, ()))))) := by kernel_rfl
def changeE (d : Dr) (g : List Int) (p : Int) : List Int × Int :=
 if checkE d ≠ 0 then ([], checkE d) else if ¬ (haveOk d g = true /\ 0 <= p) then ([], 7) else if valueN d.1 g < p then ([], 81) else if valueN d.1 g - p > 2000 then ([], 7) else payR d.1 (addL d.2 g) (valueN d.1 g - p)
abbrev fcChange : FC := ⟨[.v TDr, .v L, .v I], [L, E], fun x K => (x.1.1.length <= big /\ x.1.2.length <= big /\ x.2.1.length <= big) /\ ∀ r e, (r, e) = changeE x.1 x.2.1 x.2.2.1 -> K (r, e, ())⟩
abbrev fc47' : FC := ⟨[.v TDr, .v L], [.b], fun x K => x.1.1.length <= 8 /\ ∀ b : Bool, b = haveOk x.1 x.2.1 -> K (b, ())⟩
theorem v17F (d : Dr) (g : List Int) (p : Int) (K : dens [L, E] -> Prop) : (xfn1 Try.prog { nm := true, f := [(15, fcCheck'), (47, fc47'), (45, fcPayI)], f2 := [(48, fc48), (50, fc50)], l2 := [(17, 0, lc17)] } 5 17 fcChange (d, g, p, ()) K) =
 ((List.length (d.1) <= 9223372036854775807 /\ List.length (d.2) <= 9223372036854775807) /\ ∀ (e : Int), e = checkE d -> fork (e != (0 : Int)) (K ([], e, ())) (List.length (d.1) <= 8 /\ ∀ (b : Bool), b = haveOk d g -> fork (!b) (K
 ([], (7 : Int), ())) (fork (decide (p < (0 : Int))) (K ([], (7 : Int), ())) ((g.length = List.length (d.1) /\ g.length <= 8 /\ (∀ (x : Ty.den I), x ∈ g -> (0 : Ty.den I) <= x /\ x <= (50 : Ty.den I)) /\ ∀ (c : Ty.den I), c ∈ d.1
 -> (1 : Ty.den I) <= c /\ c <= (50000 : Ty.den I)) /\ ∀ (r : Int), r = valueN (d.1) g -> fork (decide (r < p)) (K ([], (81 : Int), ())) (req (inR IntKind.i64 (r - p)) (fork (decide (r - p > (2000 : Int))) (K ([], (7 : Int),
 ())) (List.length (d.2) <= 8 /\ ∀ (r_1 : List Int), r_1 = d.2 -> req (decide (0 + r_1.length <= r_1.length)) (((0 : SV.den (SV.slot 43 (SV.v I))) <= (0 : Int) /\ (0 : Int) <= (↑(g.length) : SV.den (SV.slot 43 (SV.v I))) /\
 (↑(g.length) : Int) = (↑(g.length) : SV.den (SV.slot 42 (SV.v I))) /\ List.length (seg 0 (r_1.length) r_1) = g.length /\ g.length <= 8 /\ (∀ (x : Ty.den I), x ∈ g -> (0 : Ty.den I) <= x /\ x <= (50 : Ty.den I)) /\ (∀ (x : Ty.den
 I), x ∈ seg 0 (r_1.length) r_1 -> (0 : Ty.den I) <= x /\ x <= (100 : Ty.den I)) /\ ∀ (j : Nat), (0 : Int) <= (↑j : SV.den (SV.slot 43 (SV.v I))) -> j < List.length (seg 0 (r_1.length) r_1) -> List.getD (seg 0 (r_1.length) r_1) j
 (0 : Ty.den I) <= (50 : Ty.den I)) /\ ∀ (r_2 : List Int), r_2 = List.take 0 (seg 0 (r_1.length) r_1) ++ addL (List.drop 0 (seg 0 (r_1.length) r_1)) (List.drop 0 g) -> req (inR IntKind.i64 (r - p)) (req (decide (0 +
 r_2.length <= r_2.length)) ((okC (d.1) (seg 0 (r_2.length) r_2) /\ (0 : AT.den (AT.v I)) <= r - p /\ r - p <= (2000 : AT.den (AT.v I))) /\ ∀ (r_3 : List Int) (e : Int), (r_3, e) = payR (d.1) (seg 0 (r_2.length) r_2) (r - p) -> K
 (r_3, e, ()))))))))))) := by kernel_rfl
end Go.P8
