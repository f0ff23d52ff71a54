/- Rolls: words, first places, comparisons: states and what is to be shown, reduced. No conditions. -/
import Derived.Test.YtcpdcpfbgmiaoaaDoorCodeS
import Derived.Test.YtcpdcpfbgmiaoaaDoorFitP
set_option linter.all false
set_option maxRecDepth 100000
set_option maxHeartbeats 2000000
namespace Go.P3
open Go.Lom Go.Proofs Go
abbrev Tx : Type := List UInt8
abbrev LT : Ty := .sl .s
abbrev T6 : Ty := .pr I (.pr .s (.pr I (.pr L (.pr I I))))
abbrev E5 : Ty := .pr I (.pr I (.pr I (.pr I I)))
abbrev Tk : Type := Int × Tx × Int × List Int × Int × Int
abbrev Ev : Type := Int × Int × Int × Int × Int
abbrev T0 : Tk := (0, [], 0, [], 0, 0)
abbrev E0 : Ev := (0, 0, 0, 0, 0)
def letterB (c : UInt8) : Bool := decide (97 <= (c.toNat : Int) /\ (c.toNat : Int) <= 122)
def charB (c : UInt8) : Bool := letterB c || decide (48 <= (c.toNat : Int) /\ (c.toNat : Int) <= 57) || decide ((c.toNat : Int) = 45)
def wordB (s : Tx) : Bool := decide (1 <= s.length /\ s.length <= 16) && letterB (s.getD 0 0) && s.all charB
abbrev fcWord : FC := ⟨[.v .s], [.b], fun x K => x.1.length <= big /\ K (wordB x.1, ())⟩
abbrev shW2 : SV := S [(2, .v .b)]
abbrev sh133 : SV := S [(0, .v .s), (24, .v I), (25, .v I)]
def exW : Ex2
 | .ret => some (shW2, 0)
 | _ => some (.nil, 0)
def s133 (s : Tx) (m i : Int) (Q : LQ) : Prop := (0 <= i /\ i <= s.length /\ m = s.length /\ s.length <= 16) /\ ((s.drop i.toNat).all charB = true -> Q (.exit 0) (stS 0 .nil ())) /\ ((s.drop i.toNat).all charB = false -> Q .ret (stS 0 shW2 (false, ())))
abbrev lc133 : LC2 := ⟨0, sh133, 0, fun (s, m, i, _) Q => s133 s m i Q⟩
theorem v133L (s : Tx) (m i : Int) (Q : AX -> St -> Prop) : (xloop2 Tryd.prog {} 5 133 0 lc133 exW (fun (s, _, i, _) => mL s i) (s, m, i, ()) Q) =
 (fork (decide (i < m)) (req (decide ((0 : Int) <= i /\ i < (↑(s.length) : Int))) (fork (decide ((↑(UInt8.toNat (List.getD s (Int.toNat i) (0 : UInt8))) : Int) < (97 : Int))) (fork (decide ((↑(UInt8.toNat (List.getD s
 (Int.toNat i) (0 : UInt8))) : Int) < (48 : Int))) (fork ((↑(UInt8.toNat (List.getD s (Int.toNat i) (0 : UInt8))) : Int) != (45 : Int)) (Q AX.ret (stS 0 shW2 (false, ()))) (req (inR IntKind.i64 (i + 1)) (mL s (i + 1) < mL
 s i /\ LC2.spec lc133 (s, m, i + 1, ()) Q))) (fork (decide ((↑(UInt8.toNat (List.getD s (Int.toNat i) (0 : UInt8))) : Int) > (57 : Int))) (fork ((↑(UInt8.toNat (List.getD s (Int.toNat i) (0 : UInt8))) : Int) != (45 : Int))
 (Q AX.ret (stS 0 shW2 (false, ()))) (req (inR IntKind.i64 (i + 1)) (mL s (i + 1) < mL s i /\ LC2.spec lc133 (s, m, i + 1, ()) Q))) (req (inR IntKind.i64 (i + 1)) (mL s (i + 1) < mL s i /\ LC2.spec lc133 (s, m, i + 1, ())
 Q)))) (fork (decide ((↑(UInt8.toNat (List.getD s (Int.toNat i) (0 : UInt8))) : Int) > (122 : Int))) (fork (decide ((↑(UInt8.toNat (List.getD s (Int.toNat i) (0 : UInt8))) : Int) < (48 : Int))) (fork ((↑(UInt8.toNat
 (List.getD s (Int.toNat i) (0 : UInt8))) : Int) != (45 : Int)) (Q AX.ret (stS 0 shW2 (false, ()))) (req (inR IntKind.i64 (i + 1)) (mL s (i + 1) < mL s i /\ LC2.spec lc133 (s, m, i + 1, ()) Q))) (fork (decide
 ((↑(UInt8.toNat (List.getD s (Int.toNat i) (0 : UInt8))) : Int) > (57 : Int))) (fork ((↑(UInt8.toNat (List.getD s (Int.toNat i) (0 : UInt8))) : Int) != (45 : Int)) (Q AX.ret (stS 0 shW2 (false, ()))) (req (inR IntKind.i64
 (i + 1)) (mL s (i + 1) < mL s i /\ LC2.spec lc133 (s, m, i + 1, ()) Q))) (req (inR IntKind.i64 (i + 1)) (mL s (i + 1) < mL s i /\ LC2.spec lc133 (s, m, i + 1, ()) Q)))) (req (inR IntKind.i64 (i + 1)) (mL s (i + 1) < mL s i
 /\ LC2.spec lc133 (s, m, i + 1, ()) Q))))) (Q (AX.exit 0) (stS 0 SV.nil ()))) := by kernel_rfl
theorem v133F (s : Tx) (K : dens [.b] -> Prop) : (xfn1 Tryd.prog { l2 := [(133, 0, lc133)] } 5 133 fcWord (s, ()) K) =
 (fork ((↑(s.length) : Int) == (0 : Int)) (K (false, ())) (fork (decide ((↑(s.length) : Int) > (16 : Int))) (K (false, ())) (req (decide ((0 : Int) <= (0 : Int) /\ (0 : Int) < (↑(s.length) : Int))) (fork (decide
 ((↑(UInt8.toNat (List.getD s 0 (0 : UInt8))) : Int) < (97 : Int))) (K (false, ())) (req (decide ((0 : Int) <= (0 : Int) /\ (0 : Int) < (↑(s.length) : Int))) (fork (decide ((↑(UInt8.toNat (List.getD s 0 (0 : UInt8))) : Int)
 > (122 : Int))) (K (false, ())) (((0 : Int) <= (0 : Int) /\ (0 : Int) <= (↑(s.length) : Int) /\ (↑(s.length) : Int) = (↑(s.length) : Int) /\ s.length <= 16) /\ (List.all (List.drop 0 s) charB = true -> K (true, ())) /\ (List.all
 (List.drop 0 s) charB = false -> K (false, ()))))))))) := by kernel_rfl
def firstIx {α : Type} (p : α -> Bool) : List α -> Int -> Int
 | [], _ => -1
 | x :: l, i => if p x = true then i else firstIx p l (i + 1)
abbrev shR4i : SV := S [(4, .v I)]
def ex141 : Ex2
 | .ret => some (shR4i, 0)
 | _ => some (.nil, 0)
def named (s : Tx) (t : Tk) : Bool := decide (t.2.1 = s)
def sIx {α : Type} (f : α -> Bool) (l : List α) (m i : Int) (Q : LQ) : Prop := (0 <= i /\ i <= l.length /\ m = l.length /\ l.length <= big) /\ ((l.drop i.toNat).any f = false -> Q (.exit 0) (stS 0 .nil ())) /\ ((l.drop i.toNat).any f = true -> Q .ret (stS 0 shR4i (firstIx f (l.drop i.toNat) i, ())))
abbrev C139 : AT := .clo 139 [] [(true, .s)]
abbrev sh141 : SV := S [(0, .v (.sl T6)), (1, .a C139), (7, .v I), (8, .v I)]
abbrev lc141 : LC2 := ⟨0, sh141, 0, fun (l, c, m, i, _) Q => sIx (named c.2.1) l m i Q⟩
theorem v141L (l : List Tk) (s : Tx) (m i : Int) (Q : AX -> St -> Prop) : (xloop2 Tryd.prog {} 5 141 0 lc141 ex141 (fun (l, _, _, i, _) => mL l i) (l, ((), s, ()), m, i, ()) Q) =
 (fork (decide (i < m)) (req (decide ((0 : Int) <= i /\ i < (↑(l.length) : Int))) (fork ((List.getD l (Int.toNat i) (0, [], 0, [], 0, 0)).2.1 == s) (Q AX.ret (stS 0 shR4i (i, ()))) (req (inR IntKind.i64 (i + 1)) (mL l (i +
 1) < mL l i /\ LC2.spec lc141 (l, ((), s, ()), m, i + 1, ()) Q)))) (Q (AX.exit 0) (stS 0 SV.nil ()))) := by kernel_rfl
abbrev fcHad : FC := ⟨[.v (.sl T6), C139], [.b], fun x K => x.1.length <= big /\ K (x.1.any (named x.2.1.2.1), ())⟩
theorem v138F (l : List Tk) (s : Tx) (K : dens [.b] -> Prop) : (xfn1 Tryd.prog { l2 := [(141, 0, lc141)] } 5 138 fcHad (l, ((), s, ()), ()) K) =
 (((0 : Int) <= (0 : Int) /\ (0 : Int) <= (↑(l.length) : Int) /\ (↑(l.length) : Int) = (↑(l.length) : Int) /\ l.length <= 9223372036854775807) /\ (List.any (List.drop 0 l) (named s) = false -> K (decide ((-1 : Int) >= (0 : Int)),
 ())) /\ (List.any (List.drop 0 l) (named s) = true -> K (decide (firstIx (named s) (List.drop 0 l) (0 : Int) >= (0 : Int)), ()))) := by kernel_rfl
def eqT (s t : Tx) : Bool := decide (s = t)
abbrev sh140 : SV := S [(0, .v LT), (1, .v .s), (7, .v I), (8, .v I)]
abbrev lc140 : LC2 := ⟨0, sh140, 0, fun (l, s, m, i, _) Q => sIx (eqT s) l m i Q⟩
theorem v140L (l : List Tx) (s : Tx) (m i : Int) (Q : AX -> St -> Prop) : (xloop2 Tryd.prog {} 5 140 0 lc140 ex141 (fun (l, _, _, i, _) => mL l i) (l, s, m, i, ()) Q) =
 (fork (decide (i < m)) (req (decide ((0 : Int) <= i /\ i < (↑(l.length) : Int))) (fork (s == List.getD l (Int.toNat i) []) (Q AX.ret (stS 0 shR4i (i, ()))) (req (inR IntKind.i64 (i + 1)) (mL l (i + 1) < mL l i /\ LC2.spec
 lc140 (l, s, m, i + 1, ()) Q)))) (Q (AX.exit 0) (stS 0 SV.nil ()))) := by kernel_rfl
abbrev fcHas : FC := ⟨[.v LT, .v .s], [.b], fun x K => x.1.length <= big /\ K (x.1.any (eqT x.2.1), ())⟩
theorem v137F (l : List Tx) (s : Tx) (K : dens [.b] -> Prop) : (xfn1 Tryd.prog { l2 := [(140, 0, lc140)] } 5 137 fcHas (l, s, ()) K) =
 (((0 : Int) <= (0 : Int) /\ (0 : Int) <= (↑(l.length) : Int) /\ (↑(l.length) : Int) = (↑(l.length) : Int) /\ l.length <= 9223372036854775807) /\ (List.any (List.drop 0 l) (eqT s) = false -> K (decide ((-1 : Int) >= (0 : Int)),
 ())) /\ (List.any (List.drop 0 l) (eqT s) = true -> K (decide (firstIx (eqT s) (List.drop 0 l) (0 : Int) >= (0 : Int)), ()))) := by kernel_rfl
abbrev fcId : FC := ⟨[.v L], [L], fun x K => x.1.length <= 100 /\ ∀ r : List Int, r = x.1 -> K (r, ())⟩
abbrev fcClT : FC2 := ⟨A [.lst 0 T6], 1, A [.lst 0 T6, .own 1 T6], 2, fun x K => x.1.length <= 1000 /\ K (x.1, x.1, ())⟩
theorem v107F (l : List Tk) (K : fcClT.post.den -> Prop) : (xfn2 Tryd.prog {} 5 107 fcClT (l, ()) K) =
 (∀ (b : Bool), (b = true -> l.length = 0) -> fork b (req (decide (l.length = l.length)) (K (l, [], ()))) (req (decide (0 + l.length <= l.length)) (req (fitsN (0 + List.length (seg 0 (l.length) l)) 72) (req (decide (l.length
 = l.length)) (req (decide (0 + (0 + List.length (seg 0 (l.length) l)) <= List.length (seg 0 0 [] ++ seg 0 (l.length) l))) (K (l, seg 0 (0 + List.length (seg 0 (l.length) l)) (seg 0 0 [] ++ seg 0 (l.length) l), ()))))))) := by kernel_rfl
abbrev fcClE : FC2 := ⟨A [.lst 0 E5], 1, A [.lst 0 E5, .own 1 E5], 2, fun x K => x.1.length <= 1000 /\ K (x.1, x.1, ())⟩
theorem v78F (l : List Ev) (K : fcClE.post.den -> Prop) : (xfn2 Tryd.prog {} 5 78 fcClE (l, ()) K) =
 (∀ (b : Bool), (b = true -> l.length = 0) -> fork b (req (decide (l.length = l.length)) (K (l, [], ()))) (req (decide (0 + l.length <= l.length)) (req (fitsN (0 + List.length (seg 0 (l.length) l)) 40) (req (decide (l.length
 = l.length)) (req (decide (0 + (0 + List.length (seg 0 (l.length) l)) <= List.length (seg 0 0 [] ++ seg 0 (l.length) l))) (K (l, seg 0 (0 + List.length (seg 0 (l.length) l)) (seg 0 0 [] ++ seg 0 (l.length) l), ()))))))) := by kernel_rfl
theorem v64F (l : List Int) (K : dens [L] -> Prop) : (xfn1 Tryd.prog {} 5 64 fcId (l, ()) K) =
 (∀ (b : Bool), (b = true -> l.length = 0) -> fork b (K ([], ())) (req (fitsN (0 + l.length) 8) (req (decide (0 + (0 + l.length) <= List.length (seg 0 0 [] ++ l))) (K (seg 0 (0 + l.length) (seg 0 0 [] ++ l), ()))))) := by kernel_rfl
end Go.P3
