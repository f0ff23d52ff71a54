/- Days: what a posting may really have been: states and what is to be shown, reduced. No conditions. -/
import Derived.Test.YtfenogdjhadcoaaDayE
import Derived.Test.YtfenogdjhadcoaaCompB
import Derived.Test.YtfenogdjhadcoaaPayS
import Derived.Test.YtfenogdjhadcoaaWatS1
set_option linter.all false
set_option maxRecDepth 100000
set_option maxHeartbeats 2000000
namespace Go.P8
open Go.Lom Go.Proofs Go
abbrev TDg : Ty := .pr (arT 11) I
abbrev Dh : Type := (arT 11).den
abbrev Dg : Type := Dh × Int
def padI (l : List Int) : List Int := l ++ List.replicate (12 - l.length) 0
def digI (n : Int) : List Int := (digN 12 n.toNat).map Int.ofNat
def valI : List Int -> Int
 | [] => 0
 | d :: l => d + 10 * valI l
abbrev sh85 : SV := S [(0, .v I), (2, .box 0 (.v TDg))]
abbrev sh85e : SV := S [(2, .box 0 (.v TDg))]
abbrev lc85 : LC2 := ⟨0, sh85, 1, fun (n, (h, m), _) Q => (0 <= n /\ n <= 1073741824 /\ 0 <= m /\ arL 11 h = padI ((arL 11 h).take m.toNat) /\ m + (digI n).length <= 12) /\
 ∀ (h' : Dh) (m' : Int), arL 11 h' = padI ((arL 11 h).take m.toNat ++ digI n) -> m' = m + (digI n).length -> Q (.exit 0) (stS 1 sh85e ((h', m'), ()))⟩
theorem v85L (n m : Int) (h : Dh) (Q : AX -> St -> Prop) : (xloop2 Try.prog { nm := true, ip := true } 5 85 0 lc85 (fun _ => some (sh85e, 1)) (fun (n, _) => n.toNat) (n, (h, m), ()) Q) =
 (fork (decide (n > (0 : Int))) (∀ (x : Int), x = m -> req (decide ((0 : Int) <= x /\ x < (12 : Int))) (req (selOk IntKind.i64 (Ty.enc TDg (h, m)) (Int.toNat x)) (∀ (x_1 : Int), x_1 = pickN (Int.toNat x) 12 (Int.tmod n (10 :
 Int)) m -> req (inR IntKind.i64 (x_1 + 1)) (req (inR IntKind.i64 (Int.tdiv n (10 : Int))) (Int.toNat (Int.tdiv n (10 : Int)) < Int.toNat n /\ LC2.spec lc85 (Int.tdiv n (10 : Int), ((pickN 12 0 (x_1 + 1) (pickN (Int.toNat x)
 0 (Int.tmod n (10 : Int)) (h.1)), pickN 12 1 (x_1 + 1) (pickN (Int.toNat x) 1 (Int.tmod n (10 : Int)) (h.2.1)), pickN 12 2 (x_1 + 1) (pickN (Int.toNat x) 2 (Int.tmod n (10 : Int)) (h.2.2.1)), pickN 12 3 (x_1 + 1) (pickN
 (Int.toNat x) 3 (Int.tmod n (10 : Int)) (h.2.2.2.1)), pickN 12 4 (x_1 + 1) (pickN (Int.toNat x) 4 (Int.tmod n (10 : Int)) (h.2.2.2.2.1)), pickN 12 5 (x_1 + 1) (pickN (Int.toNat x) 5 (Int.tmod n (10 : Int))
 (h.2.2.2.2.2.1)), pickN 12 6 (x_1 + 1) (pickN (Int.toNat x) 6 (Int.tmod n (10 : Int)) (h.2.2.2.2.2.2.1)), pickN 12 7 (x_1 + 1) (pickN (Int.toNat x) 7 (Int.tmod n (10 : Int)) (h.2.2.2.2.2.2.2.1)), pickN 12 8 (x_1 + 1)
 (pickN (Int.toNat x) 8 (Int.tmod n (10 : Int)) (h.2.2.2.2.2.2.2.2.1)), pickN 12 9 (x_1 + 1) (pickN (Int.toNat x) 9 (Int.tmod n (10 : Int)) (h.2.2.2.2.2.2.2.2.2.1)), pickN 12 10 (x_1 + 1) (pickN (Int.toNat x) 10 (Int.tmod
 n (10 : Int)) (h.2.2.2.2.2.2.2.2.2.2.1)), pickN 12 11 (x_1 + 1) (pickN (Int.toNat x) 11 (Int.tmod n (10 : Int)) (h.2.2.2.2.2.2.2.2.2.2.2))), pickN 12 12 (x_1 + 1) (pickN (Int.toNat x) 12 (Int.tmod n (10 : Int)) m)), ())
 Q))))) (Q (AX.exit 0) (stS 1 sh85e ((h, m), ())))) := by kernel_rfl
abbrev fc85 : FC := ⟨[.v I], [TDg], fun x K => (0 <= x.1 /\ x.1 <= 1073741824) /\ ∀ (h : Dh) (m : Int), arL 11 h = padI (digI x.1) -> m = (digI x.1).length -> K ((h, m), ())⟩
theorem v85F (n : Int) (K : dens [TDg] -> Prop) : (xfn1 Try.prog { nm := true, ip := true, l2 := [(85, 0, lc85)] } 5 85 fc85 (n, ()) K) =
 (((0 : SV.den (SV.slot 0 (SV.v I))) <= n /\ n <= (1073741824 : SV.den (SV.slot 0 (SV.v I))) /\ (0 : Ty.den I) <= (0 : Int) /\ arL 11 ((0 : Int), (0 : Int), (0 : Int), (0 : Int), (0 : Int), (0 : Int), (0 : Int), (0 : Int), (0 :
 Int), (0 : Int), (0 : Int), (0 : Int)) = padI (List.take 0 (arL 11 ((0 : Int), (0 : Int), (0 : Int), (0 : Int), (0 : Int), (0 : Int), (0 : Int), (0 : Int), (0 : Int), (0 : Int), (0 : Int), (0 : Int)))) /\ (0 : Int) +
 (↑(List.length (digI n)) : Ty.den I) <= (12 : Ty.den I)) /\ ∀ (h' : Dh) (m' : Int), arL 11 h' = padI (List.take 0 (arL 11 ((0 : Int), (0 : Int), (0 : Int), (0 : Int), (0 : Int), (0 : Int), (0 : Int), (0 : Int), (0 : Int),
 (0 : Int), (0 : Int), (0 : Int))) ++ digI n) -> m' = (0 : Int) + (↑(List.length (digI n)) : Int) -> K ((h', m'), ())) := by kernel_rfl
def okDg (x : Dg) : Prop := (0 <= x.2 /\ x.2 <= 12) /\ ∀ d ∈ arL 11 x.1, 0 <= d /\ d <= 9
abbrev sh86 : SV := S [(2, .box 0 (.v TDg)), (5, .v I), (6, .v I)]
abbrev sh86e : SV := S [(5, .v I)]
abbrev lc86 : LC2 := ⟨0, sh86, 1, fun (x, n, k, _) Q => (okDg x /\ -1 <= k /\ k < x.2 /\ n = valI (((arL 11 x.1).take x.2.toNat).drop (k + 1).toNat)) /\ Q (.exit 0) (stS 0 sh86e (valI ((arL 11 x.1).take x.2.toNat), ()))⟩
theorem v86L (h : Dh) (m n k : Int) (Q : AX -> St -> Prop) : (xloop2 Try.prog { nm := true, ip := true } 5 86 0 lc86 (fun _ => some (sh86e, 0)) (fun (_, _, k, _) => (k + 1).toNat) ((h, m), n, k, ()) Q) =
 (fork (decide (k >= (0 : Int))) (req (inR IntKind.i64 ((10 : Int) * n)) (req (decide ((0 : Int) <= k /\ k < (12 : Int))) (req (selOk IntKind.i64 (Ty.enc TDg (h, m)) (Int.toNat k)) (∀ (x : Int), x = selI (Ty.enc TDg (h, m))
 (Int.toNat k) -> req (inR IntKind.i64 ((10 : Int) * n + x)) (req (inR IntKind.i64 (k - 1)) (Int.toNat (k - 1 + (1 : SV.den (SV.slot 6 (SV.v I)))) < Int.toNat (k + (1 : SV.den (SV.slot 6 (SV.v I)))) /\ LC2.spec lc86 ((h, m),
 (10 : Int) * n + x, k - 1, ()) Q)))))) (Q (AX.exit 0) (stS 0 sh86e (n, ())))) := by kernel_rfl
def swapL (ds : List Int) (i : Nat) : List Int := (ds.set i (ds.getD (i + 1) 0)).set (i + 1) (ds.getD i 0)
abbrev fc86 : FC := ⟨[.v TDg, .v I], [I], fun x K => (okDg x.1 /\ 0 <= x.2.1 /\ x.2.1 + 1 < x.1.2) /\ ∀ r, r = valI ((swapL (arL 11 x.1.1) x.2.1.toNat).take x.1.2.toNat) -> K (r, ())⟩
abbrev cl90 : SV := .fn 90 .nil (A [.box 1 (.v I)])
def firstEq (s : Int) : List Int -> Int -> Int
 | [], _ => -1
 | x :: l, i => if x = s then i else firstEq s l (i + 1)
abbrev sh84d : SV := S [(0, .lst 0 I), (1, cl90), (7, .v I), (8, .v I)]
def ex84d : Ex2
 | .ret => some (S [(0, .lst 0 I), (1, cl90), (4, .v I)], 2)
 | _ => some (S [(0, .lst 0 I), (1, cl90)], 2)
abbrev lc84d : LC2 := ⟨2, sh84d, 2, fun (l, f, m, i, _) Q => (0 <= i /\ i <= l.length /\ m = l.length /\ l.length <= 2000) /\ ((l.drop i.toNat).all (fun x => decide (x ≠ f.2.1)) = true -> Q (.exit 0) (stS 2 (S [(0, .lst 0 I), (1, cl90)]) (l, f, ()))) /\
 ((l.drop i.toNat).all (fun x => decide (x ≠ f.2.1)) = false -> Q .ret (stS 2 (S [(0, .lst 0 I), (1, cl90), (4, .v I)]) (l, f, firstEq f.2.1 (l.drop i.toNat) i, ())))⟩
theorem v84D (l : List Int) (s m i : Int) (Q : AX -> St -> Prop) : (xloop2 Try.prog {} 5 84 0 lc84d ex84d (fun (l, _, _, i, _) => mL l i) (l, ((), (s, ())), m, i, ()) Q) =
 (fork (decide (i < m)) (req (decide ((0 : Int) <= i /\ i < (↑(l.length) : Int))) (req (decide (Int.toNat i + 0 < l.length)) (fork (List.getD l (Int.toNat i + 0) (0 : Int) == s) (req (decide (l.length = l.length)) (Q AX.ret
 (stS 2 (S [(0, SV.lst 0 I), (1, cl90), (4, SV.v I)]) (l, ((), s, ()), i, ())))) (req (inR IntKind.i64 (i + 1)) (req (decide (l.length = l.length)) (mL l (i + 1) < mL l i /\ LC2.spec lc84d (l, ((), s, ()), m, i + 1, ())
 Q)))))) (req (decide (l.length = l.length)) (Q (AX.exit 0) (stS 2 (S [(0, SV.lst 0 I), (1, cl90)]) (l, ((), s, ()), ()))))) := by kernel_rfl
abbrev fc84d : FC2 := ⟨A [.lst 0 I, cl90], 2, A [.lst 0 I, cl90, .v I], 2, fun (l, f, _) K => l.length <= 2000 /\ K (l, f, firstEq f.2.1 l 0, ())⟩
theorem v84E (l : List Int) (s : Int) (K : fc84d.post.den -> Prop) : (xfn2 Try.prog { l2 := [(84, 0, lc84d)] } 5 84 fc84d (l, ((), (s, ())), ()) K) =
 (req (decide (l.length = l.length)) (((0 : SV.den (SV.slot 8 (SV.v I))) <= (0 : Int) /\ (0 : Int) <= (↑(l.length) : SV.den (SV.slot 8 (SV.v I))) /\ (↑(l.length) : Int) = (↑(l.length) : SV.den (SV.slot 7 (SV.v I))) /\ l.length
 <= 2000) /\ ((List.all (List.drop 0 l) fun x => decide (x ≠ s)) = true -> req (decide (l.length = l.length)) (K (l, ((), s, ()), (-1 : Int), ()))) /\ ((List.all (List.drop 0 l) fun x => decide (x ≠ s)) = false -> req (decide
 (l.length = l.length)) (K (l, ((), s, ()), firstEq s (List.drop 0 l) (0 : Int), ()))))) := by kernel_rfl
abbrev sh88 : SV := S [(0, .lst 0 I), (1, cl90), (5, .v I), (6, .v I)]
abbrev sh88e : SV := S [(0, .lst 0 I), (1, cl90), (5, .v I)]
abbrev lc88 : LC2 := ⟨2, sh88, 2, fun (l, f, i, j, _) Q => (0 <= i /\ i < j /\ j <= l.length /\ l.length <= 2000) /\
 ∀ (z : List Int) (k : Int), z.length = l.length -> 0 <= k -> k < l.length -> z.take k.toNat = l.take i.toNat ++ (l.drop j.toNat).filter (fun x => decide (x ≠ f.2.1)) -> Q (.exit 0) (stS 2 sh88e (z, f, k, ()))⟩
theorem v88L (l : List Int) (s i j : Int) (Q : AX -> St -> Prop) : (xloop2 Try.prog { nm := true } 5 88 0 lc88 (fun _ => some (sh88e, 2)) (fun (l, _, _, j, _) => mL l j) (l, ((), (s, ())), i, j, ()) Q) =
 (fork (decide (j < (↑(l.length) : Int))) (req (decide ((0 : Int) <= j /\ j < (↑(l.length) : Int))) (req (decide (Int.toNat j + 0 < l.length)) (fork (!List.getD l (Int.toNat j + 0) (0 : Int) == s) (req (decide ((0 : Int) <= i
 /\ i < (↑(l.length) : Int))) (req (decide (Int.toNat i + 0 < l.length)) (∀ (ys : List (Ty.den I)), ys = List.set l (Int.toNat i + 0) (List.getD l (Int.toNat j + 0) (0 : Int)) -> req (inR IntKind.i64 (i + 1)) (req (inR
 IntKind.i64 (j + 1)) (req (decide (l.length = ys.length)) (mL ys (j + 1) < mL l j /\ LC2.spec lc88 (ys, ((), s, ()), i + 1, j + 1, ()) Q)))))) (req (inR IntKind.i64 (j + 1)) (req (decide (l.length = l.length)) (mL l (j +
 1) < mL l j /\ LC2.spec lc88 (l, ((), s, ()), i, j + 1, ()) Q)))))) (req (decide (l.length = l.length)) (Q (AX.exit 0) (stS 2 sh88e (l, ((), s, ()), i, ()))))) := by kernel_rfl
abbrev fcDel : FC2 := ⟨A [.lst 0 I, cl90], 2, A [.any, .any, .own 2 I], 3, fun (l, f, _) K => (1 <= l.length /\ l.length <= 2000) /\ ∀ r : List Int, r = l.filter (fun x => decide (x ≠ f.2.1)) -> K ((), (), r, ())⟩
theorem v88F (l : List Int) (s : Int) (K : fcDel.post.den -> Prop) : (xfn2 Try.prog { nm := true, ip := true, f2 := [(84, fc84d)], l2 := [(88, 0, lc88)] } 5 88 fcDel (l, ((), (s, ())), ()) K) =
 (req (decide (l.length = l.length)) (l.length <= 2000 /\ fork (firstEq s l (0 : Int) == (-1 : Int)) (req (decide (0 + l.length <= l.length)) (K ((), (), seg 0 (l.length) l, ()))) (req (inR IntKind.i64 (firstEq s l (0 : Int)
 + 1)) (req (decide (l.length = l.length)) (((0 : SV.den (SV.slot 5 (SV.v I))) <= firstEq s l (0 : Int) /\ firstEq s l (0 : Int) < firstEq s l (0 : Int) + 1 /\ firstEq s l (0 : Int) + 1 <= (↑(l.length) : SV.den (SV.slot 6
 (SV.v I))) /\ l.length <= 2000) /\ ∀ (z : List Int) (k : Int), z.length = l.length -> (0 : Int) <= k -> k < (↑(l.length) : Int) -> List.take (Int.toNat k) z = List.take (Int.toNat (firstEq s l (0 : Int))) l ++ List.filter (fun x
 => decide (x ≠ s)) (List.drop (Int.toNat (firstEq s l (0 : Int) + 1)) l) -> req (decide ((0 : Int) <= k /\ k <= (↑(z.length) : Int) /\ (↑(z.length) : Int) <= (↑(z.length) : Int) /\ z.length <= z.length)) (req (decide (Int.toNat k
 + (z.length - Int.toNat k) <= z.length)) (∀ (c : Nat), z.length <= c -> req (decide ((0 : Int) <= k /\ k <= (↑c : Int))) (req (decide (0 + Int.toNat k <= List.length (List.take (Int.toNat k) z ++ List.replicate (z.length -
 Int.toNat k) (0 : Int) ++ List.drop (Int.toNat k + (z.length - Int.toNat k)) z))) (K ((), (), seg 0 (Int.toNat k) (List.take (Int.toNat k) z ++ List.replicate (z.length - Int.toNat k) (0 : Int) ++ List.drop (Int.toNat k +
 (z.length - Int.toNat k)) z), ())))))))))) := by kernel_rfl
abbrev sh60 : SV := S [(1, .box 0 (.v I)), (4, .fn 86 (A [.v TDg]) .nil), (5, .own 1 I), (16, .v I), (17, .v I)]
abbrev sh60e : SV := S [(1, .box 0 (.v I)), (5, .own 1 I)]
abbrev lc60 : LC2 := ⟨0, sh60, 2, fun (s, f, o, m, i, _) Q => (okDg f.1.1 /\ m = f.1.1.2 - 1 /\ 0 <= i /\ i <= m /\ o.length = i + 2) /\ Q (.exit 0) (stS 2 sh60e (s, o ++ (List.range' i.toNat (m - i).toNat).map (fun j => valI ((swapL (arL 11 f.1.1.1) j).take f.1.1.2.toNat)), ()))⟩
theorem v60L (s : Int) (h : Dh) (n : Int) (o : List Int) (m i : Int) (Q : AX -> St -> Prop) : (xloop2 Try.prog { nm := true, f := [(86, fc86)] } 5 60 0 lc60 (fun _ => some (sh60e, 2)) (fun (_, _, _, m, i, _) => (m - i).toNat) (s, (((h, n), ()), ()), o, m, i, ()) Q) =
 (fork (decide (i < m)) ((okDg (h, n) /\ (0 : AT.den (AT.v I)) <= i /\ i + (1 : AT.den (AT.v I)) < n) /\ ∀ (r : Int), r = valI (List.take (Int.toNat n) (swapL (arL 11 h) (Int.toNat i))) -> req (decide (0 + o.length <= o.length))
 (req (fitsN (o.length + 1) 8) (∀ (ys : List (Ty.den (Ty.i IntKind.i64))), ys = seg 0 (o.length) o ++ [r] -> req (inR IntKind.i64 (i + 1)) (req (decide (0 + (o.length + 1) <= ys.length)) (Int.toNat (m - (i + 1)) < Int.toNat
 (m - i) /\ LC2.spec lc60 (s, (((h, n), ()), ()), seg 0 (o.length + 1) ys, m, i + 1, ()) Q))))) (req (decide (0 + o.length <= o.length)) (Q (AX.exit 0) (stS 2 sh60e (s, seg 0 (o.length) o, ()))))) := by kernel_rfl
abbrev fcReally : FC := ⟨[.v I], [L], fun x K => (1 <= x.1 /\ x.1 <= 1073741824) /\ ∀ r : List Int, r = reallyI x.1 -> K (r, ())⟩
theorem v60F (s : Int) (K : dens [L] -> Prop) : (xfn1 Try.prog { nm := true, f := [(85, fc85), (86, fc86)], f2 := [(87, fcSort), (89, fcComp), (88, fcDel)], l2 := [(60, 0, lc60)] } 5 60 fcReally (s, ()) K) =
 (((0 : AT.den (AT.v I)) <= s /\ s <= (1073741824 : AT.den (AT.v I))) /\ ∀ (h : Dh) (m : Int), arL 11 h = padI (digI s) -> m = (↑(List.length (digI s)) : Int) -> req (inR IntKind.i64 ((2 : Int) * s)) (req (inR IntKind.i64 (m -
 1)) ((okDg (h, m) /\ m - 1 = m - (1 : SV.den (SV.slot 16 (SV.v I))) /\ (0 : SV.den (SV.slot 17 (SV.v I))) <= (0 : Int) /\ (0 : Int) <= m - 1 /\ (↑2 : SV.den (SV.slot 17 (SV.v I))) = (0 : Int) + (2 : SV.den (SV.slot 17 (SV.v
 I)))) /\ req (decide (List.length ([(0 : Int), (2 : Int) * s] ++ List.map (fun j => valI (List.take (Int.toNat m) (swapL (arL 11 h) j))) (List.range' 0 (Int.toNat (m - 1 - 0)))) = List.length ([(0 : Int), (2 : Int) * s] ++
 List.map (fun j => valI (List.take (Int.toNat m) (swapL (arL 11 h) j))) (List.range' 0 (Int.toNat (m - 1 - 0)))))) (List.length ([(0 : Int), (2 : Int) * s] ++ List.map (fun j => valI (List.take (Int.toNat m) (swapL (arL
 11 h) j))) (List.range' 0 (Int.toNat (m - 1 - 0)))) < 4611686018427387904 /\ req (decide (List.length ([(0 : Int), (2 : Int) * s] ++ List.map (fun j => valI (List.take (Int.toNat m) (swapL (arL 11 h) j))) (List.range' 0
 (Int.toNat (m - 1 - 0)))) = List.length (sortI ([(0 : Int), (2 : Int) * s] ++ List.map (fun j => valI (List.take (Int.toNat m) (swapL (arL 11 h) j))) (List.range' 0 (Int.toNat (m - 1 - 0))))))) ((1 <= List.length (sortI
 ([(0 : Int), (2 : Int) * s] ++ List.map (fun j => valI (List.take (Int.toNat m) (swapL (arL 11 h) j))) (List.range' 0 (Int.toNat (m - 1 - 0))))) /\ List.length (sortI ([(0 : Int), (2 : Int) * s] ++ List.map (fun j => valI
 (List.take (Int.toNat m) (swapL (arL 11 h) j))) (List.range' 0 (Int.toNat (m - 1 - 0))))) < 4611686018427387904) /\ ∀ (r : List Int), r = compI (sortI ([(0 : Int), (2 : Int) * s] ++ List.map (fun j => valI (List.take
 (Int.toNat m) (swapL (arL 11 h) j))) (List.range' 0 (Int.toNat (m - 1 - 0))))) -> req (decide (r.length = r.length)) ((1 <= r.length /\ r.length <= 2000) /\ ∀ (r_1 : List Int), r_1 = List.filter (fun x => decide (x ≠ s)) r ->
 req (decide (0 + r_1.length <= r_1.length)) (K (seg 0 (r_1.length) r_1, ())))))))) := by kernel_rfl
end Go.P8
