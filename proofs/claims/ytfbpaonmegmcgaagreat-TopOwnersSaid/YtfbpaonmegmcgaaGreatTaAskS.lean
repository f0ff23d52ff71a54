/- Funds: what is asked for the rest to go well: states and what is to be shown, reduced. No conditions. -/
import Derived.Test.YtfbpaonmegmcgaaGreatTaLeastL
set_option linter.all false
set_option maxRecDepth 100000
set_option maxHeartbeats 2000000
namespace Go.P9
open Go.Lom Go.Proofs Go
abbrev prF (f : Fd) (t : Int) : Int := ((fPrices f).getD t.toNat (0, 0)).1
abbrev slF (f : Fd) (t : Int) : Int := (fSell f).getD t.toNat 0
def askF (f : Fd) (ns : List Int) (B : Int) (ex : Bool) (d k : Int) : Int := askV (prF f) (slF f) B ex (ns.drop d.toNat) d k
def cellA (a : List Int) (d k : Int) : Int := a.getD (65 * d + k).toNat 0
def needB (f : Fd) (ns : List Int) (B : Int) : Prop := okF f = true /\ ns.length <= 12 /\ ns.length = (fIn f).length /\ 0 <= B /\ B <= 64 /\ ∀ x ∈ ns, -1125899906842624 <= x /\ x <= 1125899906842624
def rowsA (f : Fd) (ns : List Int) (B : Int) (ex : Bool) (a : List Int) (lo : Int) : Prop := a.length = 845 /\ ∀ d k, lo <= d -> d <= ns.length -> 0 <= k -> k <= B -> cellA a d k = askF f ns B ex d k
abbrev shAll : SV := S [(1, .v L), (2, .v I), (4, bF), (8, .arr 1 I), (9, .arr 2 I), (12, .v I)]
abbrev sh76a : SV := S [(1, .v L), (2, .v I), (3, .v .b), (4, bF), (8, .arr 1 I), (9, .arr 2 I), (10, .v I), (19, .v I), (20, .v I)]
abbrev sh76e : SV := S [(1, .v L), (2, .v I), (4, bF), (8, .arr 1 I), (9, .arr 2 I), (10, .v I)]
def s76a (ns : List Int) (B : Int) (ex : Bool) (f : Fd) (z a : List Int) (last m k : Int) (Q : LQ) : Prop :=
 (needB f ns B /\ z.length = 845 /\ a.length = 845 /\ last = ns.length /\ m = B + 1 /\ 0 <= k /\ k <= B + 1 /\ ∀ j, 0 <= j -> j < k -> cellA a last j = askF f ns B ex last j) /\
 ∀ a', rowsA f ns B ex a' last -> Q (.exit 0) (stS 3 sh76e (ns, B, f, z, a', last, ()))
abbrev lc76a : LC2 := ⟨0, sh76a, 3, fun (ns, B, ex, f, z, a, last, m, k, _) Q => s76a ns B ex f z a last m k Q⟩
theorem v76a (ns : List Int) (B : Int) (ex : Bool) (f : Fd) (z a : List Int) (last m k : Int) (Q : AX -> St -> Prop) : (xloop2 Tryz.prog {} 5 22 0 lc76a (fun _ => some (sh76e, 3)) (fun (_, _, _, _, _, _, _, m, k, _) => (m - k).toNat) (ns, B, ex, f, z, a, last, m, k, ()) Q) =
 (fork (decide (k < m)) (req (decide ((0 : Int) <= last /\ last < (13 : Int))) (req (decide ((0 : Int) <= k /\ k < (65 : Int))) (req (decide (0 + addN (Int.toNat last * 65) (Int.toNat k) < a.length)) (fork ex (fork (decide (k
 < B)) (req (decide ((0 : Int) <= last /\ last < (13 : Int))) (req (decide ((0 : Int) <= k /\ k < (65 : Int))) (req (decide (0 + addN (Int.toNat last * 65) (Int.toNat k) < List.length (List.set a (0 + addN (Int.toNat last *
 65) (Int.toNat k)) (-1152921504606846976 : Int)))) (req (inR IntKind.i64 (k + 1)) (Int.toNat (m - (k + 1)) < Int.toNat (m - k) /\ LC2.spec lc76a (ns, B, ex, f, z, List.set (List.set a (0 + addN (Int.toNat last * 65)
 (Int.toNat k)) (-1152921504606846976 : Int)) (0 + addN (Int.toNat last * 65) (Int.toNat k)) (1152921504606846976 : Int), last, m, k + 1, ()) Q))))) (req (inR IntKind.i64 (k + 1)) (Int.toNat (m - (k + 1)) < Int.toNat (m -
 k) /\ LC2.spec lc76a (ns, B, ex, f, z, List.set a (0 + addN (Int.toNat last * 65) (Int.toNat k)) (-1152921504606846976 : Int), last, m, k + 1, ()) Q))) (req (inR IntKind.i64 (k + 1)) (Int.toNat (m - (k + 1)) < Int.toNat (m
 - k) /\ LC2.spec lc76a (ns, B, ex, f, z, List.set a (0 + addN (Int.toNat last * 65) (Int.toNat k)) (-1152921504606846976 : Int), last, m, k + 1, ()) Q)))))) (Q (AX.exit 0) (stS 3 sh76e (ns, B, f, z, a, last, ())))) := by kernel_rfl
abbrev sh76d : SV := S [(1, .v L), (2, .v I), (4, bF), (8, .arr 1 I), (9, .arr 2 I), (12, .v I), (13, .v I), (14, .v I), (45, .v I), (46, .v I)]
abbrev sh76c : SV := S [(1, .v L), (2, .v I), (4, bF), (8, .arr 1 I), (9, .arr 2 I), (12, .v I), (45, .v I), (46, .v I)]
def remC (f : Fd) (B day k n : Int) : Nat := (minI (slF f day) (B - k) + 1 - n).toNat
def s76d (ex : Bool) (ns : List Int) (B : Int) (f : Fd) (z a : List Int) (day k n m k' : Int) (Q : LQ) : Prop :=
 (needB f ns B /\ rowsA f ns B ex a (day + 1) /\ 0 <= day /\ day < ns.length /\ 0 <= k /\ k <= B /\ 0 <= n /\ n <= 65 /\ k + n <= B + 1 /\ n <= slF f day + 1 /\ -1152921504606846976 <= cellA a day k /\ cellA a day k <= 1152921504606846976) /\
 ∀ a', a'.length = 845 -> (∀ d j, 0 <= d -> 0 <= j -> j < 65 -> ¬ (d = day /\ j = k) -> cellA a' d j = cellA a d j) ->
  cellA a' day k = askM (fun n => askF f ns B ex (day + 1) (k + n)) (ns.getD day.toNat 0) (prF f day) (remC f B day k n) n (cellA a day k) ->
  Q (.exit 6) (stS 3 sh76c (ns, B, f, z, a', day, m, k', ()))
abbrev lc76d (ex : Bool) : LC2 := ⟨0, sh76d, 3, fun (ns, B, f, z, a, day, k, n, m, k', _) Q => s76d ex ns B f z a day k n m k' Q⟩
theorem v76d (ex : Bool) (ns : List Int) (B : Int) (f : Fd) (z a : List Int) (day k n m k' : Int) (Q : AX -> St -> Prop) : (xloop2 Tryz.prog {} 5 22 3 (lc76d ex) (fun _ => some (sh76c, 3)) (fun (_, _, _, _, _, _, _, n, _, _, _) => (66 - n).toNat) (ns, B, f, z, a, day, k, n, m, k', ()) Q) =
 (req (decide ((0 : Int) <= day /\ day < (↑(List.length (f.2.2.2.1)) : Int))) (fork (decide (n <= List.getD (f.2.2.2.1) (Int.toNat day) (0 : Int))) (req (inR IntKind.i64 (k + n)) (fork (decide (k + n <= B)) (req (inR
 IntKind.i64 (day + 1)) (req (inR IntKind.i64 (k + n)) (req (decide ((0 : Int) <= day + 1 /\ day + 1 < (13 : Int))) (req (decide ((0 : Int) <= k + n /\ k + n < (65 : Int))) (req (decide (0 + addN (Int.toNat (day + 1) * 65)
 (Int.toNat (k + n)) < a.length)) (fork (decide (List.getD a (0 + addN (Int.toNat (day + 1) * 65) (Int.toNat (k + n))) (0 : Int) < (1152921504606846976 : Int))) (req (decide ((0 : Int) <= day /\ day < (13 : Int))) (req
 (decide ((0 : Int) <= k /\ k < (65 : Int))) (req (decide (0 + addN (Int.toNat day * 65) (Int.toNat k) < a.length)) (req (decide ((0 : Int) <= day /\ day < (↑(ns.length) : Int))) (req (decide ((0 : Int) <= day /\ day <
 (↑(List.length (f.2.2.2.2.1)) : Int))) (req (inR IntKind.i64 (n * (List.getD (f.2.2.2.2.1) (Int.toNat day) ((0 : Int), (0 : Int))).1)) (req (inR IntKind.i64 ((if List.getD a (0 + addN (Int.toNat (day + 1) * 65) (Int.toNat
 (k + n))) (0 : Int) > List.getD ns (Int.toNat day) (0 : Int) then List.getD a (0 + addN (Int.toNat (day + 1) * 65) (Int.toNat (k + n))) (0 : Int) else List.getD ns (Int.toNat day) (0 : Int)) - n * (List.getD (f.2.2.2.2.1)
 (Int.toNat day) ((0 : Int), (0 : Int))).1)) (req (decide ((0 : Int) <= day /\ day < (13 : Int))) (req (decide ((0 : Int) <= k /\ k < (65 : Int))) (req (decide (0 + addN (Int.toNat day * 65) (Int.toNat k) < a.length)) (req
 (inR IntKind.i64 (n + 1)) (Int.toNat ((66 : SV.den (SV.slot 14 (SV.v I))) - (n + 1)) < Int.toNat ((66 : SV.den (SV.slot 14 (SV.v I))) - n) /\ LC2.spec (lc76d ex) (ns, B, f, z, List.set a (0 + addN (Int.toNat day * 65)
 (Int.toNat k)) (if (if List.getD a (0 + addN (Int.toNat (day + 1) * 65) (Int.toNat (k + n))) (0 : Int) > List.getD ns (Int.toNat day) (0 : Int) then List.getD a (0 + addN (Int.toNat (day + 1) * 65) (Int.toNat (k + n))) (0
 : Int) else List.getD ns (Int.toNat day) (0 : Int)) - n * (List.getD (f.2.2.2.2.1) (Int.toNat day) ((0 : Int), (0 : Int))).1 < List.getD a (0 + addN (Int.toNat day * 65) (Int.toNat k)) (0 : Int) then (if List.getD a (0 +
 addN (Int.toNat (day + 1) * 65) (Int.toNat (k + n))) (0 : Int) > List.getD ns (Int.toNat day) (0 : Int) then List.getD a (0 + addN (Int.toNat (day + 1) * 65) (Int.toNat (k + n))) (0 : Int) else List.getD ns (Int.toNat
 day) (0 : Int)) - n * (List.getD (f.2.2.2.2.1) (Int.toNat day) ((0 : Int), (0 : Int))).1 else List.getD a (0 + addN (Int.toNat day * 65) (Int.toNat k)) (0 : Int)), day, k, n + 1, m, k', ()) Q)))))))))))) (req (inR
 IntKind.i64 (n + 1)) (Int.toNat ((66 : SV.den (SV.slot 14 (SV.v I))) - (n + 1)) < Int.toNat ((66 : SV.den (SV.slot 14 (SV.v I))) - n) /\ LC2.spec (lc76d ex) (ns, B, f, z, a, day, k, n + 1, m, k', ()) Q)))))))) (Q (AX.exit
 6) (stS 3 sh76c (ns, B, f, z, a, day, m, k', ()))))) (Q (AX.exit 6) (stS 3 sh76c (ns, B, f, z, a, day, m, k', ()))))) := by kernel_rfl
def s76c (ex : Bool) (ns : List Int) (B : Int) (f : Fd) (z a : List Int) (day m k : Int) (Q : LQ) : Prop :=
 (needB f ns B /\ rowsA f ns B ex a (day + 1) /\ 0 <= day /\ day < ns.length /\ m = B + 1 /\ 0 <= k /\ k <= B + 1 /\ ∀ j, 0 <= j -> j < k -> cellA a day j = askF f ns B ex day j) /\
 ∀ a', rowsA f ns B ex a' day -> Q (.exit 4) (stS 3 shAll (ns, B, f, z, a', day, ()))
abbrev lc76c (ex : Bool) : LC2 := ⟨0, sh76c, 3, fun (ns, B, f, z, a, day, m, k, _) Q => s76c ex ns B f z a day m k Q⟩
theorem v76c (ex : Bool) (ns : List Int) (B : Int) (f : Fd) (z a : List Int) (day m k : Int) (Q : AX -> St -> Prop) : (xloop2 Tryz.prog { l2 := [(22, 3, lc76d ex)] } 5 22 2 (lc76c ex) (fun _ => some (shAll, 3)) (fun (_, _, _, _, _, _, m, k, _) => (m - k).toNat) (ns, B, f, z, a, day, m, k, ()) Q) =
 (fork (decide (k < m)) (req (decide ((0 : Int) <= day /\ day < (13 : Int))) (req (decide ((0 : Int) <= k /\ k < (65 : Int))) (req (decide (0 + addN (Int.toNat day * 65) (Int.toNat k) < a.length)) ((needB f ns B /\ rowsA f ns B
 ex (List.set a (0 + addN (Int.toNat day * 65) (Int.toNat k)) (1152921504606846976 : Int)) (day + 1) /\ (0 : Int) <= day /\ day < (↑(ns.length) : Int) /\ (0 : Int) <= k /\ k <= B /\ (0 : Int) <= (0 : Int) /\ (0 : Int) <= (65 : Int) /\
 k + 0 <= B + 1 /\ (0 : Int) <= slF f day + 1 /\ (-1152921504606846976 : Int) <= cellA (List.set a (0 + addN (Int.toNat day * 65) (Int.toNat k)) (1152921504606846976 : Int)) day k /\ cellA (List.set a (0 + addN (Int.toNat day *
 65) (Int.toNat k)) (1152921504606846976 : Int)) day k <= (1152921504606846976 : Int)) /\ ∀ (a' : List Int), a'.length = 845 -> (∀ (d j : Int), (0 : Int) <= d -> (0 : Int) <= j -> j < (65 : Int) -> ¬(d = day /\ j = k) -> cellA a' d
 j = cellA (List.set a (0 + addN (Int.toNat day * 65) (Int.toNat k)) (1152921504606846976 : Int)) d j) -> cellA a' day k = askM (fun n => askF f ns B ex (day + 1) (k + n)) (List.getD ns (Int.toNat day) (0 : Int)) (prF f
 day) (remC f B day k (0 : Int)) (0 : Int) (cellA (List.set a (0 + addN (Int.toNat day * 65) (Int.toNat k)) (1152921504606846976 : Int)) day k) -> req (inR IntKind.i64 (k + 1)) (Int.toNat (m - (k + 1)) < Int.toNat (m - k) /\
 LC2.spec (lc76c ex) (ns, B, f, z, a', day, m, k + 1, ()) Q))))) (Q (AX.exit 4) (stS 3 shAll (ns, B, f, z, a, day, ())))) := by kernel_rfl
abbrev sh76f : SV := S [(8, .arr 0 I), (9, .arr 1 I)]
def s76b (ex : Bool) (ns : List Int) (B : Int) (f : Fd) (z a : List Int) (day : Int) (Q : LQ) : Prop :=
 (needB f ns B /\ rowsA f ns B ex a (day + 1) /\ -1 <= day /\ day < ns.length) /\
 ∀ a', rowsA f ns B ex a' 0 -> Q (.exit 2) (stS 2 sh76f (z, a', ()))
abbrev lc76b (ex : Bool) : LC2 := ⟨0, shAll, 3, fun (ns, B, f, z, a, day, _) Q => s76b ex ns B f z a day Q⟩
theorem v76b (ex : Bool) (ns : List Int) (B : Int) (f : Fd) (z a : List Int) (day : Int) (Q : AX -> St -> Prop) : (xloop2 Tryz.prog { l2 := [(22, 2, lc76c ex)] } 5 22 1 (lc76b ex) (fun _ => some (sh76f, 2)) (fun (_, _, _, _, _, day, _) => (day + 1).toNat) (ns, B, f, z, a, day, ()) Q) =
 (fork (decide (day >= (0 : Int))) (req (inR IntKind.i64 (B + 1)) ((needB f ns B /\ rowsA f ns B ex a (day + 1) /\ (0 : Int) <= day /\ day < (↑(ns.length) : Int) /\ B + 1 = B + 1 /\ (0 : Int) <= (0 : Int) /\ (0 : Int) <= B + 1 /\ ∀
 (j : Int), (0 : Int) <= j -> j < (0 : Int) -> cellA a day j = askF f ns B ex day j) /\ ∀ (a' : List Int), rowsA f ns B ex a' day -> req (inR IntKind.i64 (day - 1)) (Int.toNat (day - 1 + (1 : SV.den (SV.slot 12 (SV.v I)))) <
 Int.toNat (day + (1 : SV.den (SV.slot 12 (SV.v I)))) /\ LC2.spec (lc76b ex) (ns, B, f, z, a', day - 1, ()) Q))) (Q (AX.exit 2) (stS 2 sh76f (z, a, ())))) := by kernel_rfl
abbrev AA : Ty := .ar 845 I
abbrev fcAsk (ex : Bool) : FC := ⟨[.v TF, .v L, .v I, .v .b], [AA], fun x K => (needB x.1 x.2.1 x.2.2.1 /\ x.2.2.2.1 = ex) /\ ∀ r : List Int, rowsA x.1 x.2.1 x.2.2.1 ex r 0 -> K (r, ())⟩
theorem v76F (f : Fd) (ns : List Int) (B : Int) (ex : Bool) (K : dens [AA] -> Prop) : (xfn1 Tryz.prog { l2 := [(22, 0, lc76a), (22, 1, lc76b ex)] } 5 22 (fcAsk ex) (f, ns, B, ex, ()) K) =
 (req (inR IntKind.i64 (B + 1)) ((needB f ns B /\ 845 = 845 /\ 845 = 845 /\ (↑(ns.length) : Int) = (↑(ns.length) : Int) /\ B + 1 = B + 1 /\ (0 : Int) <= (0 : Int) /\ (0 : Int) <= B + 1 /\ ∀ (j : Int), (0 : Int) <= j -> j < (0 : Int)
 -> cellA [(0 : Int), (0 : Int), (0 : Int), (0 : Int), (0 : Int), (0 : Int), (0 : Int), (0 : Int), (0 : Int), (0 : Int), (0 : Int), (0 : Int), (0 : Int), (0 : Int), (0 : Int), (0 : Int), (0 : Int), (0 : Int), (0 : Int), (0
 : Int), (0 : Int), (0 : Int), (0 : Int), (0 : Int), (0 : Int), (0 : Int), (0 : Int), (0 : Int), (0 : Int), (0 : Int), (0 : Int), (0 : Int), (0 : Int), (0 : Int), (0 : Int), (0 : Int), (0 : Int), (0 : Int), (0 : Int), (0 :
 Int), (0 : Int), (0 : Int), (0 : Int), (0 : Int), (0 : Int), (0 : Int), (0 : Int), (0 : Int), (0 : Int), (0 : Int), (0 : Int), (0 : Int), (0 : Int), (0 : Int), (0 : Int), (0 : Int), (0 : Int), (0 : Int), (0 : Int), (0 :
 Int), (0 : Int), (0 : Int), (0 : Int), (0 : Int), (0 : Int), (0 : Int), (0 : Int), (0 : Int), (0 : Int), (0 : Int), (0 : Int), (0 : Int), (0 : Int), (0 : Int), (0 : Int), (0 : Int), (0 : Int), (0 : Int), (0 : Int), (0 :
 Int), (0 : Int), (0 : Int), (0 : Int), (0 : Int), (0 : Int), (0 : Int), (0 : Int), (0 : Int), (0 : Int), (0 : Int), (0 : Int), (0 : Int), (0 : Int), (0 : Int), (0 : Int), (0 : Int), (0 : Int), (0 : Int), (0 : Int), (0 :
 Int), (0 : Int), (0 : Int), (0 : Int), (0 : Int), (0 : Int), (0 : Int), (0 : Int), (0 : Int), (0 : Int), (0 : Int), (0 : Int), (0 : Int), (0 : Int), (0 : Int), (0 : Int), (0 : Int), (0 : Int), (0 : Int), (0 : Int), (0 :
 Int), (0 : Int), (0 : Int), (0 : Int), (0 : Int), (0 : Int), (0 : Int), (0 : Int), (0 : Int), (0 : Int), (0 : Int), (0 : Int), (0 : Int), (0 : Int), (0 : Int), (0 : Int), (0 : Int), (0 : Int), (0 : Int), (0 : Int), (0 :
 Int), (0 : Int), (0 : Int), (0 : Int), (0 : Int), (0 : Int), (0 : Int), (0 : Int), (0 : Int), (0 : Int), (0 : Int), (0 : Int), (0 : Int), (0 : Int), (0 : Int), (0 : Int), (0 : Int), (0 : Int), (0 : Int), (0 : Int), (0 :
 Int), (0 : Int), (0 : Int), (0 : Int), (0 : Int), (0 : Int), (0 : Int), (0 : Int), (0 : Int), (0 : Int), (0 : Int), (0 : Int), (0 : Int), (0 : Int), (0 : Int), (0 : Int), (0 : Int), (0 : Int), (0 : Int), (0 : Int), (0 :
 Int), (0 : Int), (0 : Int), (0 : Int), (0 : Int), (0 : Int), (0 : Int), (0 : Int), (0 : Int), (0 : Int), (0 : Int), (0 : Int), (0 : Int), (0 : Int), (0 : Int), (0 : Int), (0 : Int), (0 : Int), (0 : Int), (0 : Int), (0 :
 Int), (0 : Int), (0 : Int), (0 : Int), (0 : Int), (0 : Int), (0 : Int), (0 : Int), (0 : Int), (0 : Int), (0 : Int), (0 : Int), (0 : Int), (0 : Int), (0 : Int), (0 : Int), (0 : Int), (0 : Int), (0 : Int), (0 : Int), (0 :
 Int), (0 : Int), (0 : Int), (0 : Int), (0 : Int), (0 : Int), (0 : Int), (0 : Int), (0 : Int), (0 : Int), (0 : Int), (0 : Int), (0 : Int), (0 : Int), (0 : Int), (0 : Int), (0 : Int), (0 : Int), (0 : Int), (0 : Int), (0 :
 Int), (0 : Int), (0 : Int), (0 : Int), (0 : Int), (0 : Int), (0 : Int), (0 : Int), (0 : Int), (0 : Int), (0 : Int), (0 : Int), (0 : Int), (0 : Int), (0 : Int), (0 : Int), (0 : Int), (0 : Int), (0 : Int), (0 : Int), (0 :
 Int), (0 : Int), (0 : Int), (0 : Int), (0 : Int), (0 : Int), (0 : Int), (0 : Int), (0 : Int), (0 : Int), (0 : Int), (0 : Int), (0 : Int), (0 : Int), (0 : Int), (0 : Int), (0 : Int), (0 : Int), (0 : Int), (0 : Int), (0 :
 Int), (0 : Int), (0 : Int), (0 : Int), (0 : Int), (0 : Int), (0 : Int), (0 : Int), (0 : Int), (0 : Int), (0 : Int), (0 : Int), (0 : Int), (0 : Int), (0 : Int), (0 : Int), (0 : Int), (0 : Int), (0 : Int), (0 : Int), (0 :
 Int), (0 : Int), (0 : Int), (0 : Int), (0 : Int), (0 : Int), (0 : Int), (0 : Int), (0 : Int), (0 : Int), (0 : Int), (0 : Int), (0 : Int), (0 : Int), (0 : Int), (0 : Int), (0 : Int), (0 : Int), (0 : Int), (0 : Int), (0 :
 Int), (0 : Int), (0 : Int), (0 : Int), (0 : Int), (0 : Int), (0 : Int), (0 : Int), (0 : Int), (0 : Int), (0 : Int), (0 : Int), (0 : Int), (0 : Int), (0 : Int), (0 : Int), (0 : Int), (0 : Int), (0 : Int), (0 : Int), (0 :
 Int), (0 : Int), (0 : Int), (0 : Int), (0 : Int), (0 : Int), (0 : Int), (0 : Int), (0 : Int), (0 : Int), (0 : Int), (0 : Int), (0 : Int), (0 : Int), (0 : Int), (0 : Int), (0 : Int), (0 : Int), (0 : Int), (0 : Int), (0 :
 Int), (0 : Int), (0 : Int), (0 : Int), (0 : Int), (0 : Int), (0 : Int), (0 : Int), (0 : Int), (0 : Int), (0 : Int), (0 : Int), (0 : Int), (0 : Int), (0 : Int), (0 : Int), (0 : Int), (0 : Int), (0 : Int), (0 : Int), (0 :
 Int), (0 : Int), (0 : Int), (0 : Int), (0 : Int), (0 : Int), (0 : Int), (0 : Int), (0 : Int), (0 : Int), (0 : Int), (0 : Int), (0 : Int), (0 : Int), (0 : Int), (0 : Int), (0 : Int), (0 : Int), (0 : Int), (0 : Int), (0 :
 Int), (0 : Int), (0 : Int), (0 : Int), (0 : Int), (0 : Int), (0 : Int), (0 : Int), (0 : Int), (0 : Int), (0 : Int), (0 : Int), (0 : Int), (0 : Int), (0 : Int), (0 : Int), (0 : Int), (0 : Int), (0 : Int), (0 : Int), (0 :
 Int), (0 : Int), (0 : Int), (0 : Int), (0 : Int), (0 : Int), (0 : Int), (0 : Int), (0 : Int), (0 : Int), (0 : Int), (0 : Int), (0 : Int), (0 : Int), (0 : Int), (0 : Int), (0 : Int), (0 : Int), (0 : Int), (0 : Int), (0 :
 Int), (0 : Int), (0 : Int), (0 : Int), (0 : Int), (0 : Int), (0 : Int), (0 : Int), (0 : Int), (0 : Int), (0 : Int), (0 : Int), (0 : Int), (0 : Int), (0 : Int), (0 : Int), (0 : Int), (0 : Int), (0 : Int), (0 : Int), (0 :
 Int), (0 : Int), (0 : Int), (0 : Int), (0 : Int), (0 : Int), (0 : Int), (0 : Int), (0 : Int), (0 : Int), (0 : Int), (0 : Int), (0 : Int), (0 : Int), (0 : Int), (0 : Int), (0 : Int), (0 : Int), (0 : Int), (0 : Int), (0 :
 Int), (0 : Int), (0 : Int), (0 : Int), (0 : Int), (0 : Int), (0 : Int), (0 : Int), (0 : Int), (0 : Int), (0 : Int), (0 : Int), (0 : Int), (0 : Int), (0 : Int), (0 : Int), (0 : Int), (0 : Int), (0 : Int), (0 : Int), (0 :
 Int), (0 : Int), (0 : Int), (0 : Int), (0 : Int), (0 : Int), (0 : Int), (0 : Int), (0 : Int), (0 : Int), (0 : Int), (0 : Int), (0 : Int), (0 : Int), (0 : Int), (0 : Int), (0 : Int), (0 : Int), (0 : Int), (0 : Int), (0 :
 Int), (0 : Int), (0 : Int), (0 : Int), (0 : Int), (0 : Int), (0 : Int), (0 : Int), (0 : Int), (0 : Int), (0 : Int), (0 : Int), (0 : Int), (0 : Int), (0 : Int), (0 : Int), (0 : Int), (0 : Int), (0 : Int), (0 : Int), (0 :
 Int), (0 : Int), (0 : Int), (0 : Int), (0 : Int), (0 : Int), (0 : Int), (0 : Int), (0 : Int), (0 : Int), (0 : Int), (0 : Int), (0 : Int), (0 : Int), (0 : Int), (0 : Int), (0 : Int), (0 : Int), (0 : Int), (0 : Int), (0 :
 Int), (0 : Int), (0 : Int), (0 : Int), (0 : Int), (0 : Int), (0 : Int), (0 : Int), (0 : Int), (0 : Int), (0 : Int), (0 : Int), (0 : Int), (0 : Int), (0 : Int), (0 : Int), (0 : Int), (0 : Int), (0 : Int), (0 : Int), (0 :
 Int), (0 : Int), (0 : Int), (0 : Int), (0 : Int), (0 : Int), (0 : Int), (0 : Int), (0 : Int), (0 : Int), (0 : Int), (0 : Int), (0 : Int), (0 : Int), (0 : Int), (0 : Int), (0 : Int), (0 : Int), (0 : Int), (0 : Int), (0 :
 Int), (0 : Int), (0 : Int), (0 : Int), (0 : Int), (0 : Int), (0 : Int), (0 : Int), (0 : Int), (0 : Int), (0 : Int), (0 : Int), (0 : Int), (0 : Int), (0 : Int), (0 : Int), (0 : Int), (0 : Int), (0 : Int), (0 : Int), (0 :
 Int), (0 : Int), (0 : Int), (0 : Int), (0 : Int), (0 : Int), (0 : Int), (0 : Int), (0 : Int), (0 : Int), (0 : Int), (0 : Int), (0 : Int), (0 : Int), (0 : Int), (0 : Int), (0 : Int), (0 : Int), (0 : Int), (0 : Int), (0 :
 Int), (0 : Int), (0 : Int), (0 : Int), (0 : Int), (0 : Int), (0 : Int), (0 : Int), (0 : Int), (0 : Int), (0 : Int), (0 : Int), (0 : Int), (0 : Int), (0 : Int), (0 : Int), (0 : Int), (0 : Int), (0 : Int), (0 : Int), (0 :
 Int), (0 : Int), (0 : Int), (0 : Int), (0 : Int), (0 : Int), (0 : Int), (0 : Int), (0 : Int), (0 : Int), (0 : Int), (0 : Int), (0 : Int), (0 : Int), (0 : Int), (0 : Int), (0 : Int), (0 : Int), (0 : Int), (0 : Int), (0 :
 Int), (0 : Int), (0 : Int), (0 : Int), (0 : Int), (0 : Int), (0 : Int), (0 : Int), (0 : Int), (0 : Int), (0 : Int), (0 : Int), (0 : Int), (0 : Int), (0 : Int), (0 : Int), (0 : Int), (0 : Int), (0 : Int), (0 : Int), (0 :
 Int), (0 : Int), (0 : Int), (0 : Int), (0 : Int), (0 : Int), (0 : Int), (0 : Int), (0 : Int), (0 : Int), (0 : Int), (0 : Int), (0 : Int), (0 : Int), (0 : Int), (0 : Int), (0 : Int), (0 : Int), (0 : Int), (0 : Int), (0 :
 Int), (0 : Int), (0 : Int), (0 : Int), (0 : Int), (0 : Int), (0 : Int), (0 : Int), (0 : Int), (0 : Int), (0 : Int), (0 : Int), (0 : Int), (0 : Int), (0 : Int), (0 : Int), (0 : Int), (0 : Int), (0 : Int), (0 : Int), (0 :
 Int), (0 : Int), (0 : Int), (0 : Int), (0 : Int), (0 : Int), (0 : Int), (0 : Int), (0 : Int), (0 : Int), (0 : Int), (0 : Int), (0 : Int), (0 : Int), (0 : Int), (0 : Int), (0 : Int), (0 : Int), (0 : Int), (0 : Int), (0 :
 Int), (0 : Int), (0 : Int), (0 : Int), (0 : Int), (0 : Int), (0 : Int), (0 : Int), (0 : Int), (0 : Int), (0 : Int), (0 : Int), (0 : Int), (0 : Int), (0 : Int), (0 : Int), (0 : Int), (0 : Int), (0 : Int), (0 : Int), (0 :
 Int), (0 : Int), (0 : Int), (0 : Int), (0 : Int), (0 : Int), (0 : Int), (0 : Int), (0 : Int), (0 : Int), (0 : Int), (0 : Int), (0 : Int), (0 : Int), (0 : Int), (0 : Int), (0 : Int), (0 : Int), (0 : Int), (0 : Int), (0 :
 Int), (0 : Int), (0 : Int), (0 : Int), (0 : Int), (0 : Int), (0 : Int), (0 : Int), (0 : Int), (0 : Int), (0 : Int), (0 : Int), (0 : Int), (0 : Int), (0 : Int), (0 : Int), (0 : Int), (0 : Int), (0 : Int), (0 : Int), (0 :
 Int), (0 : Int), (0 : Int), (0 : Int), (0 : Int), (0 : Int), (0 : Int), (0 : Int), (0 : Int), (0 : Int), (0 : Int), (0 : Int), (0 : Int), (0 : Int), (0 : Int), (0 : Int), (0 : Int), (0 : Int), (0 : Int), (0 : Int), (0 :
 Int), (0 : Int), (0 : Int), (0 : Int), (0 : Int), (0 : Int)] (↑(ns.length) : Int) j = askF f ns B ex (↑(ns.length) : Int) j) /\ ∀ (a' : List Int), rowsA f ns B ex a' (↑(ns.length) : Int) -> req (inR IntKind.i64
 ((↑(ns.length) : Int) - 1)) ((needB f ns B /\ rowsA f ns B ex a' ((↑(ns.length) : Int) - 1 + 1) /\ (-1 : Int) <= (↑(ns.length) : Int) - 1 /\ (↑(ns.length) : Int) - 1 < (↑(ns.length) : Int)) /\ ∀ (a' : List Int), rowsA f ns B
 ex a' (0 : Int) -> req (decide (a'.length = 845)) (req (decide (a'.length = 845)) (req (decide (a'.length = 845)) (req (decide (a'.length = 845)) (req (decide (a'.length = 845)) (K (a', ()))))))))) := by kernel_rfl
end Go.P9
