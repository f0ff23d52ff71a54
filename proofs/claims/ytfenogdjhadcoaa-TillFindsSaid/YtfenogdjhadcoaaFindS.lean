/- Scales: what tells, who judges: states and what is to be shown, reduced. No conditions. -/
import Derived.Test.YtfenogdjhadcoaaFindL
set_option linter.all false
set_option maxRecDepth 100000
set_option maxHeartbeats 2000000
namespace Go.P8
open Go.Lom Go.Proofs Go
def smO (n : Int) : Bool := decide (-1 <= n) && decide (n <= 1)
abbrev shF4 : SV := S [(4, .v I)]
def exF4 : Ex2
 | .ret => some (shF4, 0)
 | _ => some (.nil, 0)
abbrev lc84w (k : Nat) : LC2 := ⟨0, S [(0, .v L), (1, .a (.clo k [] [])), (7, .v I), (8, .v I)], 0, fun (l, _, m, i, _) Q => (0 <= i /\ i <= l.length /\ m = l.length /\ l.length <= 100) /\ ((l.drop i.toNat).all smO = true -> Q (.exit 0) (stS 0 .nil ())) /\ ((l.drop i.toNat).all smO = false -> ∀ r : Int, 0 <= r -> Q .ret (stS 0 shF4 (r, ())))⟩
abbrev fc84w (k : Nat) : FC := ⟨[.v L, .clo k [] []], [I], fun x K => x.1.length <= 100 /\ ∀ r : Int, decide (0 <= r) = !x.1.all smO -> K (r, ())⟩
theorem v84A (l : List Int) (m i : Int) (Q : AX -> St -> Prop) : (xloop2 Try.prog {} 5 84 0 (lc84w 104) exF4 (fun (l, _, _, i, _) => mL l i) (l, ((), ()), m, i, ()) Q) =
 (fork (decide (i < m)) (req (decide ((0 : Int) <= i /\ i < (↑(l.length) : Int))) (fork (decide (List.getD l (Int.toNat i) (0 : Int) >= (-1 : Int))) (fork (!decide (List.getD l (Int.toNat i) (0 : Int) <= (1 : Int))) (Q AX.ret
 (stS 0 shF4 (i, ()))) (req (inR IntKind.i64 (i + 1)) (mL l (i + 1) < mL l i /\ LC2.spec (lc84w 104) (l, ((), ()), m, i + 1, ()) Q))) (Q AX.ret (stS 0 shF4 (i, ()))))) (Q (AX.exit 0) (stS 0 SV.nil ()))) := by kernel_rfl
theorem v84AF (l : List Int) (K : dens [I] -> Prop) : (xfn1 Try.prog { l2 := [(84, 0, lc84w 104)] } 5 84 (fc84w 104) (l, ((), ()), ()) K) =
 (((0 : SV.den (SV.slot 8 (SV.v I))) <= (0 : Int) /\ (0 : Int) <= (↑(l.length) : SV.den (SV.slot 8 (SV.v I))) /\ (↑(l.length) : Int) = (↑(l.length) : SV.den (SV.slot 7 (SV.v I))) /\ l.length <= 100) /\ (List.all (List.drop 0 l)
 smO = true -> K ((-1 : Int), ())) /\ (List.all (List.drop 0 l) smO = false -> ∀ (r : Int), (0 : Int) <= r -> K (r, ()))) := by kernel_rfl
theorem v84B (l : List Int) (m i : Int) (Q : AX -> St -> Prop) : (xloop2 Try.prog {} 5 84 0 (lc84w 76) exF4 (fun (l, _, _, i, _) => mL l i) (l, ((), ()), m, i, ()) Q) =
 (fork (decide (i < m)) (req (decide ((0 : Int) <= i /\ i < (↑(l.length) : Int))) (fork (decide (List.getD l (Int.toNat i) (0 : Int) >= (-1 : Int))) (fork (!decide (List.getD l (Int.toNat i) (0 : Int) <= (1 : Int))) (Q AX.ret
 (stS 0 shF4 (i, ()))) (req (inR IntKind.i64 (i + 1)) (mL l (i + 1) < mL l i /\ LC2.spec (lc84w 76) (l, ((), ()), m, i + 1, ()) Q))) (Q AX.ret (stS 0 shF4 (i, ()))))) (Q (AX.exit 0) (stS 0 SV.nil ()))) := by kernel_rfl
theorem v84BF (l : List Int) (K : dens [I] -> Prop) : (xfn1 Try.prog { l2 := [(84, 0, lc84w 76)] } 5 84 (fc84w 76) (l, ((), ()), ()) K) =
 (((0 : SV.den (SV.slot 8 (SV.v I))) <= (0 : Int) /\ (0 : Int) <= (↑(l.length) : SV.den (SV.slot 8 (SV.v I))) /\ (↑(l.length) : Int) = (↑(l.length) : SV.den (SV.slot 7 (SV.v I))) /\ l.length <= 100) /\ (List.all (List.drop 0 l)
 smO = true -> K ((-1 : Int), ())) /\ (List.all (List.drop 0 l) smO = false -> ∀ (r : Int), (0 : Int) <= r -> K (r, ()))) := by kernel_rfl
abbrev fc58w (k : Nat) : FC := ⟨[.v L, .clo k [] []], [.b], fun x K => x.1.length <= 100 /\ ∀ b : Bool, b = !x.1.all smO -> K (b, ())⟩
theorem v58A (l : List Int) (K : dens [.b] -> Prop) : (xfn1 Try.prog { f := [(84, fc84w 104)] } 5 58 (fc58w 104) (l, ((), ()), ()) K) =
 (l.length <= 100 /\ ∀ (r : Int), decide ((0 : Int) <= r) = !List.all l smO -> K (decide (r >= (0 : Int)), ())) := by kernel_rfl
theorem v58B (l : List Int) (K : dens [.b] -> Prop) : (xfn1 Try.prog { f := [(84, fc84w 76)] } 5 58 (fc58w 76) (l, ((), ()), ()) K) =
 (l.length <= 100 /\ ∀ (r : Int), decide ((0 : Int) <= r) = !List.all l smO -> K (decide (r >= (0 : Int)), ())) := by kernel_rfl
abbrev sh48w : SV := S [(1, .a (.clo 105 [] [])), (5, .v I), (8, .v L), (9, .v I), (10, .v I)]
abbrev sh48we : SV := S [(5, .v I)]
abbrev lc48w : LC2 := ⟨0, sh48w, 0, fun (_, n, l, m, i, _) Q => ((l.length <= 100 /\ ∀ x ∈ l, -1 <= x /\ x <= 1) /\ m = l.length /\ 0 <= i /\ i <= l.length /\ -i <= n /\ n <= i) /\ ∀ r, r = n + (l.drop i.toNat).sum -> Q (.exit 0) (stS 0 sh48we (r, ()))⟩
theorem v48W (n : Int) (l : List Int) (m i : Int) (Q : AX -> St -> Prop) : (xloop2 Try.prog {} 5 48 0 lc48w (fun _ => some (sh48we, 0)) (fun (_, _, l, _, i, _) => mL l i) (((), ()), n, l, m, i, ()) Q) =
 (fork (decide (i < m)) (req (decide ((0 : Int) <= i /\ i < (↑(l.length) : Int))) (req (inR IntKind.i64 (n + List.getD l (Int.toNat i) (0 : Int))) (req (inR IntKind.i64 (i + 1)) (mL l (i + 1) < mL l i /\ LC2.spec lc48w (((),
 ()), n + List.getD l (Int.toNat i) (0 : Int), l, m, i + 1, ()) Q)))) (Q (AX.exit 0) (stS 0 sh48we (n, ())))) := by kernel_rfl
abbrev fc48w : FC := ⟨[.v L, .clo 105 [] []], [I], fun x K => (x.1.length <= 100 /\ ∀ y ∈ x.1, -1 <= y /\ y <= 1) /\ ∀ r, r = x.1.sum -> K (r, ())⟩
theorem v48WF (l : List Int) (K : dens [I] -> Prop) : (xfn1 Try.prog { l2 := [(48, 0, lc48w)] } 5 48 fc48w (l, ((), ()), ()) K) =
 (((l.length <= 100 /\ ∀ (x : Ty.den I), x ∈ l -> (-1 : Ty.den I) <= x /\ x <= (1 : Ty.den I)) /\ (↑(l.length) : Int) = (↑(l.length) : SV.den (SV.slot 9 (SV.v I))) /\ (0 : SV.den (SV.slot 10 (SV.v I))) <= (0 : Int) /\ (0 : Int) <=
 (↑(l.length) : SV.den (SV.slot 10 (SV.v I))) /\ (-0 : SV.den (SV.slot 10 (SV.v I))) <= (0 : Int) /\ (0 : Int) <= (0 : Int)) /\ ∀ (r : SV.den (SV.slot ((5, SV.v I).1) ((5, SV.v I).2))), r = (0 : Int) + List.sum (List.drop 0 l)
 -> K (r, ())) := by kernel_rfl
def rowB (n : Int) (l : List Int) : Bool := decide ((l.length : Int) = n) && (l.all smO && decide (l.sum = 0))
def planB (n : Int) (p : List (List Int)) : Bool := decide (1 <= p.length) && (decide (p.length <= 4) && p.all (rowB n))
abbrev cl103 : SV := .fn 103 .nil (A [.box 0 (.v I)])
abbrev lc114 : LC2 := ⟨1, S [(0, .v LL), (1, cl103), (7, .v I), (8, .v I)], 1, fun (l, f, m, i, _) Q => (0 <= i /\ i <= l.length /\ m = l.length /\ l.length <= 100 /\ f.2.1 <= 12) /\ ((l.drop i.toNat).all (rowB f.2.1) = true -> Q (.exit 0) (stS 1 (S [(1, cl103)]) (f, ()))) /\ ((l.drop i.toNat).all (rowB f.2.1) = false -> ∀ r : Int, 0 <= r -> Q .ret (stS 1 (S [(1, cl103), (4, .v I)]) (f, r, ())))⟩
def ex114 : Ex2
 | .ret => some (S [(1, cl103), (4, .v I)], 1)
 | _ => some (S [(1, cl103)], 1)
theorem v114L (l : List (List Int)) (n : Int) (m i : Int) (Q : AX -> St -> Prop) : (xloop2 Try.prog { nm := true, f := [(58, fc58w 104), (48, fc48w)] } 5 114 0 lc114 ex114 (fun (l, _, _, i, _) => mL l i) (l, ((), (n, ())), m, i, ()) Q) =
 (fork (decide (i < m)) (req (decide ((0 : Int) <= i /\ i < (↑(l.length) : Int))) (fork ((↑(List.length (List.getD l (Int.toNat i) [])) : Int) != n) (Q AX.ret (stS 1 (S [(1, cl103), (4, SV.v I)]) (((), n, ()), i, ())))
 (List.length (List.getD l (Int.toNat i) []) <= 100 /\ ∀ (b : Bool), b = !List.all (List.getD l (Int.toNat i) []) smO -> fork b (Q AX.ret (stS 1 (S [(1, cl103), (4, SV.v I)]) (((), n, ()), i, ()))) ((List.length (List.getD l
 (Int.toNat i) []) <= 100 /\ ∀ (y : Ty.den I), y ∈ List.getD l (Int.toNat i) [] -> (-1 : Ty.den I) <= y /\ y <= (1 : Ty.den I)) /\ ∀ (r : Ty.den I), r = List.sum (List.getD l (Int.toNat i) []) -> fork (r != (0 : Int)) (Q AX.ret
 (stS 1 (S [(1, cl103), (4, SV.v I)]) (((), n, ()), i, ()))) (req (inR IntKind.i64 (i + 1)) (mL l (i + 1) < mL l i /\ LC2.spec lc114 (l, ((), n, ()), m, i + 1, ()) Q)))))) (Q (AX.exit 0) (stS 1 (S [(1, cl103)]) (((), n,
 ()), ())))) := by kernel_rfl
abbrev fc114 : FC2 := ⟨A [.v LL, cl103], 1, A [.any, cl103, .v I], 1, fun (l, f, _) K => (l.length <= 100 /\ f.2.1 <= 12) /\ ∀ r : Int, decide (0 <= r) = !l.all (rowB f.2.1) -> K ((), f, r, ())⟩
theorem v114F (l : List (List Int)) (n : Int) (K : fc114.post.den -> Prop) : (xfn2 Try.prog { nm := true, l2 := [(114, 0, lc114)] } 5 114 fc114 (l, ((), (n, ())), ()) K) =
 (((0 : SV.den (SV.slot 8 (SV.v I))) <= (0 : Int) /\ (0 : Int) <= (↑(l.length) : SV.den (SV.slot 8 (SV.v I))) /\ (↑(l.length) : Int) = (↑(l.length) : SV.den (SV.slot 7 (SV.v I))) /\ l.length <= 100 /\ n <= (12 : SV.den (SV.box 0
 (SV.v I)))) /\ (List.all (List.drop 0 l) (rowB n) = true -> K ((), ((), n, ()), (-1 : Int), ())) /\ (List.all (List.drop 0 l) (rowB n) = false -> ∀ (r : Int), (0 : Int) <= r -> K ((), ((), n, ()), r, ()))) := by kernel_rfl
abbrev fc102 : FC2 := ⟨A [.v LL, cl103], 1, A [.any, cl103, .v .b], 1, fun (l, f, _) K => (l.length <= 100 /\ f.2.1 <= 12) /\ ∀ b : Bool, b = !l.all (rowB f.2.1) -> K ((), f, b, ())⟩
theorem v102F (l : List (List Int)) (n : Int) (K : fc102.post.den -> Prop) : (xfn2 Try.prog { nm := true, f2 := [(114, fc114)] } 5 102 fc102 (l, ((), (n, ())), ()) K) =
 ((l.length <= 100 /\ n <= (12 : SV.den (SV.box 0 (SV.v I)))) /\ ∀ (r : Int), decide ((0 : Int) <= r) = !List.all l (rowB n) -> K ((), ((), n, ()), decide (r >= (0 : Int)), ())) := by kernel_rfl
abbrev fc74 : FC := ⟨[.v I, .v LL], [.b], fun x K => x.1 <= 12 /\ ∀ b : Bool, b = planB x.1 x.2.1 -> K (b, ())⟩
theorem v74F (n : Int) (p : List (List Int)) (K : dens [.b] -> Prop) : (xfn1 Try.prog { nm := true, f2 := [(102, fc102)] } 5 74 fc74 (n, p, ()) K) =
 (fork (decide ((↑(p.length) : Int) >= (1 : Int))) (fork (decide ((↑(p.length) : Int) <= (4 : Int))) ((p.length <= 100 /\ n <= (12 : SV.den (SV.box 0 (SV.v I)))) /\ ∀ (b : Bool), b = !List.all p (rowB n) -> K (!b, ())) (K (false,
 ()))) (K (false, ()))) := by kernel_rfl
abbrev TV : Ty := .pr I I
def fillR (p : List (List Int)) (c : Int) (i : Int) (r : R4) : R4 := (if i <= 0 then cellP p c 0 r.1 else r.1, if i <= 1 then cellP p c 1 r.2.1 else r.2.1, if i <= 2 then cellP p c 2 r.2.2.1 else r.2.2.1, if i <= 3 then cellP p c 3 r.2.2.2 else r.2.2.2)
def padR (l : List Int) : R4 := (l.getD 0 0, l.getD 1 0, l.getD 2 0, l.getD 3 0)
abbrev sh75c : SV := S [(1, .v LL), (6, .map 0 TR4 TV), (7, .v I), (8, .arr 1 I), (20, .v I), (21, .v I), (24, .v LL), (25, .v I), (26, .v I)]
abbrev sh75ce : SV := S [(1, .v LL), (6, .map 0 TR4 TV), (7, .v I), (8, .arr 1 I), (20, .v I), (21, .v I)]
abbrev lc75c : LC2 := ⟨0, sh75c, 2, fun (p, l, c, r, n, c', q, m, i, _) Q => ((m = q.length /\ q.length <= 4) /\ (0 <= i /\ i <= q.length) /\ 0 <= c /\ (∀ x ∈ q, c < x.length) /\ r.length = 4) /\ ∀ r' : List Int, r'.length = 4 -> padR r' = fillR q c i (padR r) -> Q (.exit 2) (stS 2 sh75ce (p, l, c, r', n, c', ()))⟩
theorem v75C (p : List (List Int)) (l : CM) (c : Int) (r : List Int) (n c' : Int) (q : List (List Int)) (m i : Int) (Q : AX -> St -> Prop) : (xloop2 Try.prog { nm := true } 5 75 1 lc75c (fun _ => some (sh75ce, 2)) (fun (_, _, _, _, _, _, q, _, i, _) => mL q i) (p, l, c, r, n, c', q, m, i, ()) Q) =
 (fork (decide (i < m)) (req (decide ((0 : Int) <= i /\ i < (↑(q.length) : Int))) (req (decide ((0 : Int) <= c /\ c < (↑(List.length (List.getD q (Int.toNat i) [])) : Int))) (req (decide ((0 : Int) <= i /\ i < (4 : Int))) (req
 (decide (0 + Int.toNat i < r.length)) (∀ (ys : List (Ty.den I)), ys = List.set r (0 + Int.toNat i) (List.getD (List.getD q (Int.toNat i) []) (Int.toNat c) (0 : Int)) -> req (inR IntKind.i64 (i + 1)) (mL q (i + 1) < mL q i
 /\ LC2.spec lc75c (p, l, c, ys, n, c', q, m, i + 1, ()) Q)))))) (Q (AX.exit 2) (stS 2 sh75ce (p, l, c, r, n, c', ())))) := by kernel_rfl
abbrev sh75 : SV := S [(1, .v LL), (6, .map 0 TR4 TV), (20, .v I), (21, .v I)]
abbrev sh75e : SV := S [(6, .map 0 TR4 TV)]
abbrev sh75r : SV := S [(4, .any), (5, .v .b)]
def ex75 : Ex2
 | .ret => some (sh75r, 0)
 | _ => some (sh75e, 1)
abbrev lc75 : LC2 := ⟨0, sh75, 1, fun (p, l, n, c, _) Q => (planOk n p /\ (0 <= c /\ c <= n /\ n <= 12)) /\ (∀ m, casesC p (n - c).toNat c l = some m -> Q (.exit 0) (stS 1 sh75e (m, ()))) /\ (casesC p (n - c).toNat c l = none -> Q .ret (stS 0 sh75r ((), false, ())))⟩
theorem v75L (p : List (List Int)) (l : CM) (n c : Int) (Q : AX -> St -> Prop) : (xloop2 Try.prog { nm := true, ip := true, un := 4, ul := [2], f := [(100, fc100)], l2 := [(75, 1, lc75c)] } 5 75 0 lc75 ex75 (fun (_, _, n, c, _) => (n - c).toNat) (p, l, n, c, ()) Q) =
 (fork (decide (c < n)) ((((↑(p.length) : Int) = (↑(p.length) : SV.den (SV.slot 25 (SV.v I))) /\ p.length <= 4) /\ ((0 : SV.den (SV.slot 26 (SV.v I))) <= (0 : Int) /\ (0 : Int) <= (↑(p.length) : SV.den (SV.slot 26 (SV.v I)))) /\
 (0 : SV.den (SV.slot 7 (SV.v I))) <= c /\ (∀ (x : Ty.den L), x ∈ p -> c < (↑(x.length) : SV.den (SV.slot 7 (SV.v I)))) /\ 4 = 4) /\ ∀ (r' : List Int), r'.length = 4 -> padR r' = fillR p c (0 : Int) (padR [(0 : Int), (0 : Int),
 (0 : Int), (0 : Int)]) -> req (decide (r'.length = 4)) (req (decide (r'.length = 4)) ((smR (1 : Int) (List.getD r' 0 (0 : Int), List.getD r' 1 (0 : Int), List.getD r' 2 (0 : Int), List.getD r' 3 (0 : Int)) /\ (-1 : AT.den
 (AT.v I)) <= (1 : Int) /\ (1 : Int) <= (1 : AT.den (AT.v I))) /\ ∀ (r : R4), r = mulR (List.getD r' 0 (0 : Int), List.getD r' 1 (0 : Int), List.getD r' 2 (0 : Int), List.getD r' 3 (0 : Int)) (1 : Int) -> fork (Option.isSome
 (tmGet TR4 l r)) (Q AX.ret (stS 0 sh75r ((), false, ()))) (req (decide (r'.length = 4)) (req (decide (r'.length = 4)) ((smR (1 : Int) (List.getD r' 0 (0 : Int), List.getD r' 1 (0 : Int), List.getD r' 2 (0 : Int),
 List.getD r' 3 (0 : Int)) /\ (-1 : AT.den (AT.v I)) <= (-1 : Int) /\ (-1 : Int) <= (1 : AT.den (AT.v I))) /\ ∀ (r_1 : R4), r_1 = mulR (List.getD r' 0 (0 : Int), List.getD r' 1 (0 : Int), List.getD r' 2 (0 : Int), List.getD r'
 3 (0 : Int)) (-1 : Int) -> fork (Option.isSome (tmGet TR4 (tmPut TR4 l r (c, (1 : Int))) r_1)) (Q AX.ret (stS 0 sh75r ((), false, ()))) (req (inR IntKind.i64 (c + 1)) (Int.toNat (n - (c + 1)) < Int.toNat (n - c) /\ LC2.spec
 lc75 (p, tmPut TR4 (tmPut TR4 l r (c, (1 : Int))) r_1 (c, (-1 : Int)), n, c + 1, ()) Q)))))))) (Q (AX.exit 0) (stS 1 sh75e (l, ())))) := by kernel_rfl
abbrev fc75s : FC2 := ⟨A [.v I, .v LL], 0, A [.any, .any, .any, .v .b], 0, fun (n, p, _) K => (planOk n p /\ 0 <= n /\ n <= 12) /\ ∀ b : Bool, b = (casesT n p).isSome -> K ((), (), (), b, ())⟩
theorem v75S (n : Int) (p : List (List Int)) (K : fc75s.post.den -> Prop) : (xfn2 Try.prog { nm := true, l2 := [(75, 0, lc75)] } 5 75 fc75s (n, p, ()) K) =
 ((planOk n p /\ (0 : SV.den (SV.slot 21 (SV.v I))) <= (0 : Int) /\ (0 : Int) <= n /\ n <= (12 : SV.den (SV.slot 20 (SV.v I)))) /\ (∀ (m : CM), casesC p (Int.toNat (n - 0)) (0 : Int) [(((0 : Int), (0 : Int), (0 : Int), (0 :
 Int)), (-1 : Int), (0 : Int))] = Option.some m -> K ((), (), (), true, ())) /\ (casesC p (Int.toNat (n - 0)) (0 : Int) [(((0 : Int), (0 : Int), (0 : Int), (0 : Int)), (-1 : Int), (0 : Int))] = none -> K ((), (), (), false,
 ()))) := by kernel_rfl
abbrev fc75t : FC2 := ⟨A [.v I, .v LL], 0, A [.any, .any, .map 0 TR4 TV, .v .b], 1, fun (n, p, _) K => ((planOk n p /\ 0 <= n /\ n <= 12) /\ (casesT n p).isSome = true) /\ ∀ m : CM, casesT n p = some m -> K ((), (), m, true, ())⟩
theorem v75T (n : Int) (p : List (List Int)) (K : fc75t.post.den -> Prop) : (xfn2 Try.prog { nm := true, l2 := [(75, 0, lc75)] } 5 75 fc75t (n, p, ()) K) =
 ((planOk n p /\ (0 : SV.den (SV.slot 21 (SV.v I))) <= (0 : Int) /\ (0 : Int) <= n /\ n <= (12 : SV.den (SV.slot 20 (SV.v I)))) /\ (∀ (m : CM), casesC p (Int.toNat (n - 0)) (0 : Int) [(((0 : Int), (0 : Int), (0 : Int), (0 :
 Int)), (-1 : Int), (0 : Int))] = Option.some m -> K ((), (), m, true, ())) /\ (casesC p (Int.toNat (n - 0)) (0 : Int) [(((0 : Int), (0 : Int), (0 : Int), (0 : Int)), (-1 : Int), (0 : Int))] = none -> False)) := by kernel_rfl
def tellsV (n : Int) (p : List (List Int)) : Bool × Int := if 3 <= n /\ n <= 12 then if planB n p = true then ((casesT n p).isSome, 0) else (false, 82) else (false, 7)
abbrev fc38 : FC := ⟨[.v I, .v LL], [.b, E], fun x K => True /\ ∀ (b : Bool) (e : Int), (b, e) = tellsV x.1 x.2.1 -> K (b, e, ())⟩
theorem v38F (n : Int) (p : List (List Int)) (K : dens [.b, E] -> Prop) : (xfn1 Try.prog { nm := true, f := [(74, fc74)], f2 := [(75, fc75s)] } 5 38 fc38 (n, p, ()) K) =
 (fork (decide (n >= (3 : Int))) (fork (!decide (n <= (12 : Int))) (K (false, (7 : Int), ())) (n <= (12 : AT.den (AT.v I)) /\ ∀ (b : Bool), b = planB n p -> fork (!b) (K (false, (82 : Int), ())) ((planOk n p /\ (0 : SV.den (SV.v
 I)) <= n /\ n <= (12 : SV.den (SV.v I))) /\ ∀ (b : Bool), b = Option.isSome (casesT n p) -> K (b, (0 : Int), ())))) (K (false, (7 : Int), ()))) := by kernel_rfl
def judgeV (n : Int) (p : List (List Int)) (l : List Int) : Int × Int × Int := if (tellsV n p).2 ≠ 0 then (0, 0, (tellsV n p).2) else match casesT n p with
 | none => (0, 0, 82)
 | some m => if l.length = p.length /\ l.all smO = true then match gt4 m (padR l) with
  | none => (0, 0, 4)
  | some v => (v.1, v.2, 0)
  else (0, 0, 7)
abbrev fc39 : FC := ⟨[.v I, .v LL, .v L], [I, I, E], fun x K => (1 <= x.2.2.1.length /\ x.2.2.1.length <= 4) /\ ∀ a b e : Int, (a, b, e) = judgeV x.1 x.2.1 x.2.2.1 -> K (a, b, e, ())⟩
theorem v39F (n : Int) (p : List (List Int)) (l : List Int) (K : dens [I, I, E] -> Prop) : (xfn1 Try.prog { nm := true, ip := true, f := [(38, fc38), (58, fc58w 76)], f2 := [(75, fc75t)] } 5 39 fc39 (n, p, l, ()) K) =
 (True /\ ∀ (b : Bool) (e : Int), (b, e) = tellsV n p -> fork (e != (0 : Int)) (K ((0 : Int), (0 : Int), e, ())) (fork (!b) (K ((0 : Int), (0 : Int), (82 : Int), ())) (fork ((↑(l.length) : Int) != (↑(p.length) : Int)) (K ((0
 : Int), (0 : Int), (7 : Int), ())) (l.length <= 100 /\ ∀ (b : Bool), b = !List.all l smO -> fork b (K ((0 : Int), (0 : Int), (7 : Int), ())) (req (decide (l.length <= 4)) (req (Nat.blt 0 (l.length)) (((planOk n p /\ (0 :
 SV.den (SV.v I)) <= n /\ n <= (12 : SV.den (SV.v I))) /\ Option.isSome (casesT n p) = true) /\ ∀ (m : CM), casesT n p = Option.some m -> req (decide (List.length (List.take 0 [(0 : Int), (0 : Int), (0 : Int), (0 : Int)] ++ l ++
 List.drop (0 + l.length) [(0 : Int), (0 : Int), (0 : Int), (0 : Int)]) = 4)) (req (decide (List.length (List.take 0 [(0 : Int), (0 : Int), (0 : Int), (0 : Int)] ++ l ++ List.drop (0 + l.length) [(0 : Int), (0 : Int), (0 :
 Int), (0 : Int)]) = 4)) (fork (!Option.isSome (tmGet TR4 m (List.getD (List.take 0 [(0 : Int), (0 : Int), (0 : Int), (0 : Int)] ++ l ++ List.drop (0 + l.length) [(0 : Int), (0 : Int), (0 : Int), (0 : Int)]) 0 (0 : Int),
 List.getD (List.take 0 [(0 : Int), (0 : Int), (0 : Int), (0 : Int)] ++ l ++ List.drop (0 + l.length) [(0 : Int), (0 : Int), (0 : Int), (0 : Int)]) 1 (0 : Int), List.getD (List.take 0 [(0 : Int), (0 : Int), (0 : Int), (0 :
 Int)] ++ l ++ List.drop (0 + l.length) [(0 : Int), (0 : Int), (0 : Int), (0 : Int)]) 2 (0 : Int), List.getD (List.take 0 [(0 : Int), (0 : Int), (0 : Int), (0 : Int)] ++ l ++ List.drop (0 + l.length) [(0 : Int), (0 : Int),
 (0 : Int), (0 : Int)]) 3 (0 : Int)))) (K ((0 : Int), (0 : Int), (4 : Int), ())) (K ((Option.getD (tmGet TR4 m (List.getD (List.take 0 [(0 : Int), (0 : Int), (0 : Int), (0 : Int)] ++ l ++ List.drop (0 + l.length) [(0 :
 Int), (0 : Int), (0 : Int), (0 : Int)]) 0 (0 : Int), List.getD (List.take 0 [(0 : Int), (0 : Int), (0 : Int), (0 : Int)] ++ l ++ List.drop (0 + l.length) [(0 : Int), (0 : Int), (0 : Int), (0 : Int)]) 1 (0 : Int),
 List.getD (List.take 0 [(0 : Int), (0 : Int), (0 : Int), (0 : Int)] ++ l ++ List.drop (0 + l.length) [(0 : Int), (0 : Int), (0 : Int), (0 : Int)]) 2 (0 : Int), List.getD (List.take 0 [(0 : Int), (0 : Int), (0 : Int), (0 :
 Int)] ++ l ++ List.drop (0 + l.length) [(0 : Int), (0 : Int), (0 : Int), (0 : Int)]) 3 (0 : Int))) ((0 : Int), (0 : Int))).1, (Option.getD (tmGet TR4 m (List.getD (List.take 0 [(0 : Int), (0 : Int), (0 : Int), (0 : Int)]
 ++ l ++ List.drop (0 + l.length) [(0 : Int), (0 : Int), (0 : Int), (0 : Int)]) 0 (0 : Int), List.getD (List.take 0 [(0 : Int), (0 : Int), (0 : Int), (0 : Int)] ++ l ++ List.drop (0 + l.length) [(0 : Int), (0 : Int), (0 :
 Int), (0 : Int)]) 1 (0 : Int), List.getD (List.take 0 [(0 : Int), (0 : Int), (0 : Int), (0 : Int)] ++ l ++ List.drop (0 + l.length) [(0 : Int), (0 : Int), (0 : Int), (0 : Int)]) 2 (0 : Int), List.getD (List.take 0 [(0 :
 Int), (0 : Int), (0 : Int), (0 : Int)] ++ l ++ List.drop (0 + l.length) [(0 : Int), (0 : Int), (0 : Int), (0 : Int)]) 3 (0 : Int))) ((0 : Int), (0 : Int))).2, (0 : Int), ()))))))))))) := by kernel_rfl
end Go.P8
