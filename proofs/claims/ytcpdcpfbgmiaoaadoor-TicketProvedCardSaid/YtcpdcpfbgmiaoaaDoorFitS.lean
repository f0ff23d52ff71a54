/- Tickets: edges and halves: states and what is to be shown, reduced. No conditions. -/
import Derived.Test.YtcpdcpfbgmiaoaaDoorTickS
set_option linter.all false
set_option maxRecDepth 100000
set_option maxHeartbeats 2000000
namespace Go.P3
open Go.Lom Go.Proofs Go
abbrev LL : Ty := .sl L
abbrev big : Nat := 9223372036854775807
abbrev shB4 : SV := S [(4, .v .b)]
def exB4 : Ex2
 | .ret => some (shB4, 0)
 | _ => some (.nil, 0)
def allFrom (lo : Int) (l : List Int) (i : Int) : Bool := (l.drop i.toNat).all fun x => decide (lo <= x /\ x <= 9)
def inB (lo : Int) (l : List Int) : Bool := decide (8 <= l.length /\ l.length <= 16) && allFrom lo l 0
abbrev C104 : AT := .clo 104 [] [(true, I)]
abbrev sh103 : SV := S [(1, .a C104), (7, .v L), (8, .v I), (9, .v I)]
def s103 (lo : Int) (l : List Int) (m i : Int) (Q : LQ) : Prop := (0 <= i /\ i <= l.length /\ m = l.length /\ l.length <= 9223372036854775807) /\
 ((allFrom lo l i = false -> Q .ret (stS 0 shB4 (false, ()))) /\ (allFrom lo l i = true -> Q (.exit 0) (stS 0 .nil ())))
abbrev lc103 : LC2 := ⟨0, sh103, 0, fun (c, l, m, i, _) Q => s103 c.2.1 l m i Q⟩
theorem v103L (lo : Int) (l : List Int) (m i : Int) (Q : AX -> St -> Prop) : (xloop2 Tryd.prog { f := [(49, fcWith)] } 5 103 0 lc103 exB4 (fun (_, l, _, i, _) => mL l i) (((), lo, ()), l, m, i, ()) Q) =
 (fork (decide (i < m)) (req (decide ((0 : Int) <= i /\ i < (↑(l.length) : Int))) (fork (!decide (lo <= List.getD l (Int.toNat i) (0 : Int) /\ List.getD l (Int.toNat i) (0 : Int) <= (9 : Int))) (Q AX.ret (stS 0 shB4 (false,
 ()))) (req (inR IntKind.i64 (i + 1)) (mL l (i + 1) < mL l i /\ LC2.spec lc103 (((), lo, ()), l, m, i + 1, ()) Q)))) (Q (AX.exit 0) (stS 0 SV.nil ()))) := by kernel_rfl
abbrev fc103 : FC := ⟨[.v L, C104], [.b], fun x K => x.1.length <= 9223372036854775807 /\ K (allFrom x.2.1.2.1 x.1 0, ())⟩
theorem v103F (lo : Int) (l : List Int) (K : dens [.b] -> Prop) : (xfn1 Tryd.prog { l2 := [(103, 0, lc103)] } 5 103 fc103 (l, ((), lo, ()), ()) K) =
 (((0 : Int) <= (0 : Int) /\ (0 : Int) <= (↑(l.length) : Int) /\ (↑(l.length) : Int) = (↑(l.length) : Int) /\ l.length <= 9223372036854775807) /\ (allFrom lo l (0 : Int) = false -> K (false, ())) /\ (allFrom lo l (0 : Int) = true ->
 K (true, ()))) := by kernel_rfl
abbrev fc88 : FC := ⟨[.v L, .v I], [.b], fun x K => K (inB x.2.1 x.1, ())⟩
theorem v88F (l : List Int) (lo : Int) (K : dens [.b] -> Prop) : (xfn1 Tryd.prog { f := [(103, fc103), (49, fcWith)] } 5 88 fc88 (l, lo, ()) K) =
 (fork (decide ((8 : Int) <= (↑(l.length) : Int) /\ (↑(l.length) : Int) <= (16 : Int))) (l.length <= 9223372036854775807 /\ K (allFrom lo l (0 : Int), ())) (K (false, ()))) := by kernel_rfl
abbrev fcEdge (lo : Int) : FC := ⟨[.v L], [.b], fun x K => K (inB lo x.1, ())⟩
theorem v57F (l : List Int) (K : dens [.b] -> Prop) : (xfn1 Tryd.prog { f := [(88, fc88)] } 5 57 (fcEdge 0) (l, ()) K) =
 (K (inB (0 : Int) l, ())) := by kernel_rfl
theorem v58F (l : List Int) (K : dens [.b] -> Prop) : (xfn1 Tryd.prog { f := [(88, fc88)] } 5 58 (fcEdge (-1)) (l, ()) K) =
 (K (inB (-1 : Int) l, ())) := by kernel_rfl
def gI (l : List Int) (i : Int) : Int := l.getD i.toNat 0
def fitK (e h : List Int) : Nat -> Int -> Int -> Option Int
 | 0, _, n => some n
 | k + 1, i, n => if gI h i = -1 then fitK e h k (i + 1) n else if gI h i ≠ gI e i then none else fitK e h k (i + 1) (n + 1)
def fitI (e h : List Int) : Int × Bool := if e.length ≠ h.length then (0, false) else match fitK e h h.length 0 0 with
 | none => (0, false)
 | some n => (n, decide (n >= 4))
abbrev shF4 : SV := S [(4, .v I), (5, .v .b)]
abbrev sh59 : SV := S [(0, .v L), (6, .v I), (14, .v L), (15, .v I), (16, .v I)]
abbrev sh59e : SV := S [(6, .v I)]
def ex59 : Ex2
 | .ret => some (shF4, 0)
 | _ => some (sh59e, 0)
def s59 (e : List Int) (n : Int) (h : List Int) (m i : Int) (Q : LQ) : Prop := (e.length = h.length /\ 0 <= i /\ i <= h.length /\ m = h.length /\ h.length <= 9223372036854775807 /\ 0 <= n /\ n <= i) /\
 ((fitK e h (h.length - i.toNat) i n = none -> Q .ret (stS 0 shF4 (0, false, ()))) /\ (∀ r, fitK e h (h.length - i.toNat) i n = some r -> Q (.exit 0) (stS 0 sh59e (r, ()))))
abbrev lc59 : LC2 := ⟨0, sh59, 0, fun (e, n, h, m, i, _) Q => s59 e n h m i Q⟩
theorem v59L (e : List Int) (n : Int) (h : List Int) (m i : Int) (Q : AX -> St -> Prop) : (xloop2 Tryd.prog {} 5 59 0 lc59 ex59 (fun (_, _, h, _, i, _) => mL h i) (e, n, h, m, i, ()) Q) =
 (fork (decide (i < m)) (req (decide ((0 : Int) <= i /\ i < (↑(h.length) : Int))) (fork (List.getD h (Int.toNat i) (0 : Int) == (-1 : Int)) (req (inR IntKind.i64 (i + 1)) (mL h (i + 1) < mL h i /\ LC2.spec lc59 (e, n, h, m, i
 + 1, ()) Q)) (req (decide ((0 : Int) <= i /\ i < (↑(e.length) : Int))) (fork (List.getD h (Int.toNat i) (0 : Int) != List.getD e (Int.toNat i) (0 : Int)) (Q AX.ret (stS 0 shF4 ((0 : Int), false, ()))) (req (inR IntKind.i64
 (n + 1)) (req (inR IntKind.i64 (i + 1)) (mL h (i + 1) < mL h i /\ LC2.spec lc59 (e, n + 1, h, m, i + 1, ()) Q))))))) (Q (AX.exit 0) (stS 0 sh59e (n, ())))) := by kernel_rfl
abbrev fc59 : FC := ⟨[.v L, .v L], [I, .b], fun x K => x.1.length <= 9223372036854775807 /\ K ((fitI x.1 x.2.1).1, (fitI x.1 x.2.1).2, ())⟩
theorem v59F (e h : List Int) (K : dens [I, .b] -> Prop) : (xfn1 Tryd.prog { l2 := [(59, 0, lc59)] } 5 59 fc59 (e, h, ()) K) =
 (fork ((↑(e.length) : Int) != (↑(h.length) : Int)) (K ((0 : Int), false, ())) ((e.length = h.length /\ (0 : Int) <= (0 : Int) /\ (0 : Int) <= (↑(h.length) : Int) /\ (↑(h.length) : Int) = (↑(h.length) : Int) /\ h.length <=
 9223372036854775807 /\ (0 : Int) <= (0 : Int) /\ (0 : Int) <= (0 : Int)) /\ (fitK e h (h.length - 0) (0 : Int) (0 : Int) = none -> K ((0 : SV.den (SV.slot 4 (SV.v I))), false, ())) /\ ∀ (r : Int), fitK e h (h.length - 0) (0 :
 Int) (0 : Int) = Option.some r -> K (r, decide (r >= (4 : Int)), ()))) := by kernel_rfl
def fitE (e h : List Int) : Int × Int := if (inB 0 e && inB (-1) h) = true then (if (fitI e h).2 = true then ((fitI e h).1, 0) else (0, 32)) else (0, 31)
abbrev Tri := Int × Int × Int
end Go.P3
