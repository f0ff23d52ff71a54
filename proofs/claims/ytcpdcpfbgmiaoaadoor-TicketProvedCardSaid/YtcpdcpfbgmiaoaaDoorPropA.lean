/- TicketProper: comparisons of lists: states and what is to be shown, reduced. No conditions. -/
import Derived.Test.YtcpdcpfbgmiaoaaDoorRefA
set_option linter.all false
set_option maxRecDepth 100000
set_option maxHeartbeats 2000000
namespace Go.P3
open Go.Lom Go.Proofs Go
def sEq {α : Type} (x y : List α) (m i : Int) (sh : SV) (v : sh.den) (Q : LQ) : Prop := (y.length = x.length /\ m = x.length /\ 0 <= i /\ i <= x.length /\ x.length <= big) /\
 (x.drop i.toNat = y.drop i.toNat -> Q (.exit 0) (stS 0 .nil ())) /\ (x.drop i.toNat ≠ y.drop i.toNat -> Q .ret (stS 0 sh v))
abbrev sh98 : SV := S [(0, .v L), (1, .v L), (12, .v I), (13, .v I)]
abbrev lc98 : LC2 := ⟨0, sh98, 0, fun (a, b, m, i, _) Q => sEq (α := Int) a b m i shB4 (false, ()) Q⟩
theorem v98L (a b : List Int) (m i : Int) (Q : AX -> St -> Prop) : (xloop2 Tryd.prog {} 5 98 0 lc98 exB4 (fun (a, _, _, i, _) => mL a i) (a, b, m, i, ()) Q) =
 (fork (decide (i < m)) (req (decide ((0 : Int) <= i /\ i < (↑(a.length) : Int))) (req (decide ((0 : Int) <= i /\ i < (↑(b.length) : Int))) (fork (List.getD a (Int.toNat i) (0 : Int) != List.getD b (Int.toNat i) (0 : Int)) (Q
 AX.ret (stS 0 shB4 (false, ()))) (req (inR IntKind.i64 (i + 1)) (mL a (i + 1) < mL a i /\ LC2.spec lc98 (a, b, m, i + 1, ()) Q))))) (Q (AX.exit 0) (stS 0 SV.nil ()))) := by kernel_rfl
abbrev fcEqL : FC := ⟨[.v L, .v L], [.b], fun x K => x.1.length <= big /\ ∀ b : Bool, b = decide ((x.1 : List Int) = x.2.1) -> K (b, ())⟩
theorem v98F (a b : List Int) (K : dens [.b] -> Prop) : (xfn1 Tryd.prog { l2 := [(98, 0, lc98)] } 5 98 fcEqL (a, b, ()) K) =
 (fork ((↑(a.length) : Int) != (↑(b.length) : Int)) (K (false, ())) ((b.length = a.length /\ (↑(a.length) : Int) = (↑(a.length) : Int) /\ (0 : Int) <= (0 : Int) /\ (0 : Int) <= (↑(a.length) : Int) /\ a.length <=
 9223372036854775807) /\ (List.drop 0 a = List.drop 0 b -> K (true, ())) /\ (List.drop 0 a ≠ List.drop 0 b -> K (false, ())))) := by kernel_rfl
abbrev sh80 : SV := S [(0, .v LE), (1, .v LE), (12, .v I), (13, .v I)]
abbrev lc80 : LC2 := ⟨0, sh80, 0, fun (a, b, m, i, _) Q => sEq (α := Ev) a b m i shB4 (false, ()) Q⟩
theorem v80L (a b : List Ev) (m i : Int) (Q : AX -> St -> Prop) : (xloop2 Tryd.prog {} 5 80 0 lc80 exB4 (fun (a, _, _, i, _) => mL a i) (a, b, m, i, ()) Q) =
 (fork (decide (i < m)) (req (decide ((0 : Int) <= i /\ i < (↑(a.length) : Int))) (req (decide ((0 : Int) <= i /\ i < (↑(b.length) : Int))) (fork (!((List.getD a (Int.toNat i) (0, 0, 0, 0, 0)).1 == (List.getD b (Int.toNat i)
 (0, 0, 0, 0, 0)).1 && ((List.getD a (Int.toNat i) (0, 0, 0, 0, 0)).2.1 == (List.getD b (Int.toNat i) (0, 0, 0, 0, 0)).2.1 && ((List.getD a (Int.toNat i) (0, 0, 0, 0, 0)).2.2.1 == (List.getD b (Int.toNat i) (0, 0, 0, 0,
 0)).2.2.1 && ((List.getD a (Int.toNat i) (0, 0, 0, 0, 0)).2.2.2.1 == (List.getD b (Int.toNat i) (0, 0, 0, 0, 0)).2.2.2.1 && ((List.getD a (Int.toNat i) (0, 0, 0, 0, 0)).2.2.2.2 == (List.getD b (Int.toNat i) (0, 0, 0, 0,
 0)).2.2.2.2 && true)))))) (Q AX.ret (stS 0 shB4 (false, ()))) (req (inR IntKind.i64 (i + 1)) (mL a (i + 1) < mL a i /\ LC2.spec lc80 (a, b, m, i + 1, ()) Q))))) (Q (AX.exit 0) (stS 0 SV.nil ()))) := by kernel_rfl
abbrev fcEqE : FC := ⟨[.v LE, .v LE], [.b], fun x K => x.1.length <= big /\ ∀ b : Bool, b = decide ((x.1 : List Ev) = x.2.1) -> K (b, ())⟩
theorem v80F (a b : List Ev) (K : dens [.b] -> Prop) : (xfn1 Tryd.prog { l2 := [(80, 0, lc80)] } 5 80 fcEqE (a, b, ()) K) =
 (fork ((↑(a.length) : Int) != (↑(b.length) : Int)) (K (false, ())) ((b.length = a.length /\ (↑(a.length) : Int) = (↑(a.length) : Int) /\ (0 : Int) <= (0 : Int) /\ (0 : Int) <= (↑(a.length) : Int) /\ a.length <=
 9223372036854775807) /\ (List.drop 0 a = List.drop 0 b -> K (true, ())) /\ (List.drop 0 a ≠ List.drop 0 b -> K (false, ())))) := by kernel_rfl
abbrev C82 : AT := .clo 82 [] []
abbrev sh81 : SV := S [(1, .v LK), (2, .a C82), (15, .v LK), (16, .v I), (17, .v I)]
abbrev shB6 : SV := S [(6, .v .b)]
def exB6 : Ex2
 | .ret => some (shB6, 0)
 | _ => some (.nil, 0)
def edgesOk (a : List Tk) : Prop := ∀ t ∈ a, t.2.2.2.1.length <= big
abbrev lc81 : LC2 := ⟨0, sh81, 0, fun (b, _, a, m, i, _) Q => edgesOk a /\ sEq (α := Tk) a b m i shB6 (false, ()) Q⟩
theorem v81L (a b : List Tk) (m i : Int) (Q : AX -> St -> Prop) : (xloop2 Tryd.prog { f := [(98, fcEqL)] } 5 81 0 lc81 exB6 (fun (_, _, a, _, i, _) => mL a i) (b, ((), ()), a, m, i, ()) Q) =
 (fork (decide (i < m)) (req (decide ((0 : Int) <= i /\ i < (↑(a.length) : Int))) (req (decide ((0 : Int) <= i /\ i < (↑(b.length) : Int))) (List.length ((List.getD a (Int.toNat i) (0, [], 0, [], 0, 0)).2.2.2.1) <=
 9223372036854775807 /\ ∀ (b_1 : Bool), b_1 = decide ((List.getD a (Int.toNat i) (0, [], 0, [], 0, 0)).2.2.2.1 = (List.getD b (Int.toNat i) (0, [], 0, [], 0, 0)).2.2.2.1) -> fork b_1 (fork ((List.getD a (Int.toNat i) (0, [],
 0, [], 0, 0)).1 == (List.getD b (Int.toNat i) (0, [], 0, [], 0, 0)).1) (fork ((List.getD a (Int.toNat i) (0, [], 0, [], 0, 0)).2.1 == (List.getD b (Int.toNat i) (0, [], 0, [], 0, 0)).2.1) (fork ((List.getD a (Int.toNat i)
 (0, [], 0, [], 0, 0)).2.2.1 == (List.getD b (Int.toNat i) (0, [], 0, [], 0, 0)).2.2.1) (fork ((List.getD a (Int.toNat i) (0, [], 0, [], 0, 0)).2.2.2.2.1 == (List.getD b (Int.toNat i) (0, [], 0, [], 0, 0)).2.2.2.2.1) (fork
 (!(List.getD a (Int.toNat i) (0, [], 0, [], 0, 0)).2.2.2.2.2 == (List.getD b (Int.toNat i) (0, [], 0, [], 0, 0)).2.2.2.2.2) (Q AX.ret (stS 0 shB6 (false, ()))) (req (inR IntKind.i64 (i + 1)) (mL a (i + 1) < mL a i /\
 LC2.spec lc81 (b, ((), ()), a, m, i + 1, ()) Q))) (Q AX.ret (stS 0 shB6 (false, ())))) (Q AX.ret (stS 0 shB6 (false, ())))) (Q AX.ret (stS 0 shB6 (false, ())))) (Q AX.ret (stS 0 shB6 (false, ())))) (Q AX.ret (stS 0 shB6
 (false, ())))))) (Q (AX.exit 0) (stS 0 SV.nil ()))) := by kernel_rfl
abbrev fcEqK : FC := ⟨[.v LK, .v LK, C82], [.b], fun x K => (edgesOk x.1 /\ x.1.length <= big) /\ ∀ b : Bool, b = decide ((x.1 : List Tk) = x.2.1) -> K (b, ())⟩
theorem v81F (a b : List Tk) (K : dens [.b] -> Prop) : (xfn1 Tryd.prog { l2 := [(81, 0, lc81)] } 5 81 fcEqK (a, b, ((), ()), ()) K) =
 (fork ((↑(a.length) : Int) != (↑(b.length) : Int)) (K (false, ())) (edgesOk a /\ (b.length = a.length /\ (↑(a.length) : Int) = (↑(a.length) : Int) /\ (0 : Int) <= (0 : Int) /\ (0 : Int) <= (↑(a.length) : Int) /\ a.length <=
 9223372036854775807) /\ (List.drop 0 a = List.drop 0 b -> K (true, ())) /\ (List.drop 0 a ≠ List.drop 0 b -> K (false, ())))) := by kernel_rfl
end Go.P3
