/- Funds: when groups begin to run: states and what is to be shown, reduced. No conditions. -/
import Derived.Test.YtklleedcdjkpeaaCheckS
set_option linter.unusedSimpArgs false
set_option linter.unusedVariables false
set_option linter.constructorNameAsVariable false
set_option maxRecDepth 100000
set_option maxHeartbeats 2000000
namespace Go.P9
open Go.Lom Go.Proofs Go

/-! lists of groups -/
def ltB (n : Nat) (l : List Int) (k : Nat) : Bool := decide (0 ≤ l.getD k 0 ∧ l.getD k 0 ≤ (n : Int) - 1) && !(decide (0 < k) && decide (l.getD k 0 ≤ l.getD (k - 1) 0))
def listsB (n : Nat) (l : List Int) (i : Int) : Bool := ((List.range l.length).drop i.toNat).all (ltB n l)
abbrev shR4 : SV := S [(4, .v .b)]
abbrev sh65 : SV := S [(1, .v L), (2, bF), (7, .v L), (8, .v I), (9, .v I)]
def ex65 : Ex2
  | .ret => some (shR4, 0)
  | _ => some (.nil, 0)
def s65 (l : List Int) (f : Fd) (l' : List Int) (m i : Int) (Q : LQ) : Prop := (0 ≤ i ∧ l' = l ∧ i ≤ l.length ∧ m = l.length ∧ l.length ≤ 9223372036854775807 ∧ bigF f) ∧ (listsB (fGroups f).length l i = true → Q (.exit 0) (stS 0 .nil ())) ∧ (listsB (fGroups f).length l i = false → Q .ret (stS 0 shR4 (false, ())))
abbrev lc65 : LC2 := ⟨0, sh65, 1, fun x Q => s65 x.1 x.2.1 x.2.2.1 x.2.2.2.1 x.2.2.2.2.1 Q⟩
theorem v65L (l : List Int) (f : Fd) (l' : List Int) (m i : Int) (Q : AX → St → Prop) : (xloop2 Try.prog { f := [(71, fcWith)] } 5 65 0 lc65 ex65 (fun x => mL x.1 x.2.2.2.2.1) (l, f, l', m, i, ()) Q) =
(fork (decide (i < m)) (req (decide ((0 : Int) ≤ i ∧ i < (↑(List.length l') : Int))) (req (inR Go.IntKind.i64 ((↑(List.length (Prod.fst (Prod.snd (Prod.snd (Prod.snd (Prod.snd (Prod.snd f))))))) : Int) - (1 : Int)))
 (fork (!decide ((0 : Int) ≤ List.getD l' (Int.toNat i) (0 : Int) ∧ List.getD l' (Int.toNat i) (0 : Int) ≤ (↑(List.length (Prod.fst (Prod.snd (Prod.snd (Prod.snd (Prod.snd (Prod.snd f))))))) : Int) - (1 : Int))) (Q AX.ret
 (stS (0 : Nat) Go.P9.shR4 (Bool.false, ()))) (fork (decide (i > (0 : Int))) (req (inR Go.IntKind.i64 (i - (1 : Int))) (req (decide ((0 : Int) ≤ i - (1 : Int) ∧ i - (1 : Int) < (↑(List.length l) : Int))) (fork (decide
 (List.getD l (Int.toNat (i - (1 : Int))) (0 : Int) ≥ List.getD l' (Int.toNat i) (0 : Int))) (Q AX.ret (stS (0 : Nat) Go.P9.shR4 (Bool.false, ()))) (req (inR Go.IntKind.i64 (i + (1 : Int))) (Go.P9.mL l (i + (1 : Int)) <
 Go.P9.mL l i ∧ LC2.spec Go.P9.lc65 (l, f, l', m, i + (1 : Int), ()) Q))))) (req (inR Go.IntKind.i64 (i + (1 : Int))) (Go.P9.mL l (i + (1 : Int)) < Go.P9.mL l i ∧ LC2.spec Go.P9.lc65 (l, f, l', m, i + (1 : Int), ())
 Q)))))) (Q (AX.exit (0 : Nat)) (stS (0 : Nat) SV.nil ()))) := by kernel_rfl

/-! when they begin to run -/
def relax (d : List Int) (w : Int × Int × Int) : List Int :=
  if 0 ≤ d.getD w.1.toNat 0 ∧ (d.getD w.2.1.toNat 0 < 0 ∨ d.getD w.1.toNat 0 + w.2.2 < d.getD w.2.1.toNat 0) then d.set w.2.1.toNat (d.getD w.1.toNat 0 + w.2.2) else d
def passD (ws : List (Int × Int × Int)) (d : List Int) : List Int := ws.foldl relax d
def passN (ws : List (Int × Int × Int)) : Nat → List Int → List Int
  | 0, d => d
  | k + 1, d => passN ws k (passD ws d)
def cntD (d : List Int) : Int := (d.countP (fun x => decide (0 ≤ x)) : Nat)
def InvD (d : List Int) : Prop := d.length ≤ 8 ∧ ∀ x ∈ d, -1 ≤ x ∧ x ≤ 12 * cntD d
def wOk (n : Nat) (w : Int × Int × Int) : Prop := 0 ≤ w.1 ∧ w.1 < n ∧ 0 ≤ w.2.1 ∧ w.2.1 < n ∧ w.1 ≠ w.2.1 ∧ 0 ≤ w.2.2 ∧ w.2.2 ≤ 12
def wsOk (n : Nat) (ws : List (Int × Int × Int)) : Prop := ∀ w ∈ ws, wOk n w
def keyD (x : Int) : Int := if x < 0 then 1000 else x
def muD (d : List Int) : Nat := (d.map keyD).sum.toNat
def initD (n : Nat) (l : List Int) : List Int := (List.range n).map fun i : Nat => if (i : Int) ∈ l then 0 else -1
def startsL (f : Fd) (l : List Int) : List Int := passN (fWays f) (fGroups f).length (initD (fGroups f).length l)
def inGrp (f : Fd) (l : List Int) : Prop := ∀ x ∈ l, 0 ≤ x ∧ x < (fGroups f).length
/-! the program's -/
abbrev AR : Ty := .ar 8 I
abbrev sh66 : SV := S [(2, bF), (4, .arr 1 I), (5, .arr 2 I)]
abbrev sh66e : SV := S [(1, .v L), (2, bF), (4, .arr 1 I), (5, .arr 2 I)]
abbrev sh66a : SV := S [(1, .v L), (2, bF), (4, .arr 1 I), (5, .arr 2 I), (13, .v I)]
def s66a (l : List Int) (f : Fd) (z s : List Int) (i : Int) (Q : LQ) : Prop := (0 ≤ i ∧ i ≤ 8 ∧ s.length = 8) ∧ Q (.exit 0) (stS 3 sh66e (l, f, z, s.take i.toNat ++ List.replicate (8 - i.toNat) (-1), ()))
abbrev lc66a : LC2 := ⟨0, sh66a, 3, fun x Q => s66a x.1 x.2.1 x.2.2.1 x.2.2.2.1 x.2.2.2.2.1 Q⟩
theorem v66a (l : List Int) (f : Fd) (z s : List Int) (i : Int) (Q : AX → St → Prop) : (xloop2 Try.prog {} 5 66 0 lc66a (fun _ => some (sh66e, 3)) (fun x => (8 - x.2.2.2.2.1).toNat) (l, f, z, s, i, ()) Q) =
(fork (decide (i < (8 : Int))) (req (decide ((0 : Int) ≤ i ∧ i < (8 : Int))) (req (decide ((0 : Nat) + Int.toNat i < List.length s)) (req (inR Go.IntKind.i64 (i + (1 : Int))) (Int.toNat ((8 : SV.den (SV.slot (13 : Nat)
 (SV.v Go.P9.I))) - (i + (1 : Int))) < Int.toNat ((8 : SV.den (SV.slot (13 : Nat) (SV.v Go.P9.I))) - i) ∧ LC2.spec Go.P9.lc66a (l, f, z, List.set s ((0 : Nat) + Int.toNat i) (-1 : Int), i + (1 : Int), ()) Q)))) (Q
 (AX.exit (0 : Nat)) (stS (3 : Nat) Go.P9.sh66e (l, f, z, s, ())))) := by kernel_rfl
abbrev sh66b : SV := S [(2, bF), (4, .arr 1 I), (5, .arr 2 I), (19, .v L), (20, .v I), (21, .v I)]
def zeroD (s : List Int) (l : List Int) : List Int := l.foldl (fun s x => s.set x.toNat 0) s
def s66b (f : Fd) (z s l : List Int) (m i : Int) (Q : LQ) : Prop := (0 ≤ i ∧ i ≤ l.length ∧ m = l.length ∧ l.length ≤ 9223372036854775807 ∧ s.length = 8 ∧ ∀ x ∈ l, 0 ≤ x ∧ x < 8) ∧ Q (.exit 2) (stS 3 sh66 (f, z, zeroD s (l.drop i.toNat), ()))
abbrev lc66b : LC2 := ⟨0, sh66b, 3, fun x Q => s66b x.1 x.2.1 x.2.2.1 x.2.2.2.1 x.2.2.2.2.1 x.2.2.2.2.2.1 Q⟩
theorem v66b (f : Fd) (z s l : List Int) (m i : Int) (Q : AX → St → Prop) : (xloop2 Try.prog {} 5 66 1 lc66b (fun _ => some (sh66, 3)) (fun x => mL x.2.2.2.1 x.2.2.2.2.2.1) (f, z, s, l, m, i, ()) Q) =
(fork (decide (i < m)) (req (decide ((0 : Int) ≤ i ∧ i < (↑(List.length l) : Int))) (req (decide ((0 : Int) ≤ List.getD l (Int.toNat i) (0 : Int) ∧ List.getD l (Int.toNat i) (0 : Int) < (8 : Int))) (req (decide ((0 :
 Nat) + Int.toNat (List.getD l (Int.toNat i) (0 : Int)) < List.length s)) (req (inR Go.IntKind.i64 (i + (1 : Int))) (Go.P9.mL l (i + (1 : Int)) < Go.P9.mL l i ∧ LC2.spec Go.P9.lc66b (f, z, List.set s ((0 : Nat) +
 Int.toNat (List.getD l (Int.toNat i) (0 : Int))) (0 : Int), l, m, i + (1 : Int), ()) Q))))) (Q (AX.exit (2 : Nat)) (stS (3 : Nat) Go.P9.sh66 (f, z, s, ())))) := by kernel_rfl
abbrev sh66d : SV := S [(2, bF), (4, .arr 1 I), (5, .arr 2 I), (9, .arr 3 I), (31, .v LG), (32, .v I), (33, .v I)]
abbrev sh66x : SV := S [(2, bF), (4, .arr 1 I), (5, .arr 2 I), (9, .arr 3 I)]
def s66d (f : Fd) (z s d : List Int) (ws : List (Int × Int × Int)) (m i : Int) (Q : LQ) : Prop := (0 ≤ i ∧ i ≤ ws.length ∧ m = ws.length ∧ ws.length ≤ 9223372036854775807 ∧ d.length = 8 ∧ InvD d ∧ wsOk 8 ws) ∧ Q (.exit 6) (stS 4 sh66x (f, z, s, passD (ws.drop i.toNat) d, ()))
abbrev lc66d : LC2 := ⟨0, sh66d, 4, fun x Q => s66d x.1 x.2.1 x.2.2.1 x.2.2.2.1 x.2.2.2.2.1 x.2.2.2.2.2.1 x.2.2.2.2.2.2.1 Q⟩
theorem v66d (f : Fd) (z s d : List Int) (ws : List (Int × Int × Int)) (m i : Int) (Q : AX → St → Prop) : (xloop2 Try.prog {} 5 66 3 lc66d (fun _ => some (sh66x, 4)) (fun x => mL x.2.2.2.2.1 x.2.2.2.2.2.2.1) (f, z, s, d, ws, m, i, ()) Q) =
(fork (decide (i < m)) (req (decide ((0 : Int) ≤ i ∧ i < (↑(List.length ws) : Int))) (req (decide ((0 : Int) ≤ Prod.fst (List.getD ws (Int.toNat i) ((0 : Int), (0 : Int), (0 : Int))) ∧ Prod.fst (List.getD ws (Int.toNat
 i) ((0 : Int), (0 : Int), (0 : Int))) < (8 : Int))) (req (decide ((0 : Nat) + Int.toNat (Prod.fst (List.getD ws (Int.toNat i) ((0 : Int), (0 : Int), (0 : Int)))) < List.length d)) (fork (decide (List.getD d ((0 : Nat) +
 Int.toNat (Prod.fst (List.getD ws (Int.toNat i) ((0 : Int), (0 : Int), (0 : Int))))) (0 : Int) ≥ (0 : Int))) (req (decide ((0 : Int) ≤ Prod.fst (Prod.snd (List.getD ws (Int.toNat i) ((0 : Int), (0 : Int), (0 : Int)))) ∧
 Prod.fst (Prod.snd (List.getD ws (Int.toNat i) ((0 : Int), (0 : Int), (0 : Int)))) < (8 : Int))) (req (decide ((0 : Nat) + Int.toNat (Prod.fst (Prod.snd (List.getD ws (Int.toNat i) ((0 : Int), (0 : Int), (0 : Int))))) <
 List.length d)) (fork (decide (List.getD d ((0 : Nat) + Int.toNat (Prod.fst (Prod.snd (List.getD ws (Int.toNat i) ((0 : Int), (0 : Int), (0 : Int)))))) (0 : Int) < (0 : Int))) (req (inR Go.IntKind.i64 (List.getD d ((0 :
 Nat) + Int.toNat (Prod.fst (List.getD ws (Int.toNat i) ((0 : Int), (0 : Int), (0 : Int))))) (0 : Int) + Prod.snd (Prod.snd (List.getD ws (Int.toNat i) ((0 : Int), (0 : Int), (0 : Int)))))) (req (decide ((0 : Int) ≤
 Prod.fst (Prod.snd (List.getD ws (Int.toNat i) ((0 : Int), (0 : Int), (0 : Int)))) ∧ Prod.fst (Prod.snd (List.getD ws (Int.toNat i) ((0 : Int), (0 : Int), (0 : Int)))) < (8 : Int))) (req (decide ((0 : Nat) + Int.toNat
 (Prod.fst (Prod.snd (List.getD ws (Int.toNat i) ((0 : Int), (0 : Int), (0 : Int))))) < List.length d)) (req (inR Go.IntKind.i64 (i + (1 : Int))) (Go.P9.mL ws (i + (1 : Int)) < Go.P9.mL ws i ∧ LC2.spec Go.P9.lc66d (f, z,
 s, List.set d ((0 : Nat) + Int.toNat (Prod.fst (Prod.snd (List.getD ws (Int.toNat i) ((0 : Int), (0 : Int), (0 : Int)))))) (List.getD d ((0 : Nat) + Int.toNat (Prod.fst (List.getD ws (Int.toNat i) ((0 : Int), (0 : Int),
 (0 : Int))))) (0 : Int) + Prod.snd (Prod.snd (List.getD ws (Int.toNat i) ((0 : Int), (0 : Int), (0 : Int))))), ws, m, i + (1 : Int), ()) Q))))) (req (inR Go.IntKind.i64 (List.getD d ((0 : Nat) + Int.toNat (Prod.fst
 (List.getD ws (Int.toNat i) ((0 : Int), (0 : Int), (0 : Int))))) (0 : Int) + Prod.snd (Prod.snd (List.getD ws (Int.toNat i) ((0 : Int), (0 : Int), (0 : Int)))))) (req (decide ((0 : Int) ≤ Prod.fst (Prod.snd (List.getD ws
 (Int.toNat i) ((0 : Int), (0 : Int), (0 : Int)))) ∧ Prod.fst (Prod.snd (List.getD ws (Int.toNat i) ((0 : Int), (0 : Int), (0 : Int)))) < (8 : Int))) (req (decide ((0 : Nat) + Int.toNat (Prod.fst (Prod.snd (List.getD ws
 (Int.toNat i) ((0 : Int), (0 : Int), (0 : Int))))) < List.length d)) (fork (decide (List.getD d ((0 : Nat) + Int.toNat (Prod.fst (List.getD ws (Int.toNat i) ((0 : Int), (0 : Int), (0 : Int))))) (0 : Int) + Prod.snd
 (Prod.snd (List.getD ws (Int.toNat i) ((0 : Int), (0 : Int), (0 : Int)))) < List.getD d ((0 : Nat) + Int.toNat (Prod.fst (Prod.snd (List.getD ws (Int.toNat i) ((0 : Int), (0 : Int), (0 : Int)))))) (0 : Int))) (req (inR
 Go.IntKind.i64 (List.getD d ((0 : Nat) + Int.toNat (Prod.fst (List.getD ws (Int.toNat i) ((0 : Int), (0 : Int), (0 : Int))))) (0 : Int) + Prod.snd (Prod.snd (List.getD ws (Int.toNat i) ((0 : Int), (0 : Int), (0 :
 Int)))))) (req (decide ((0 : Int) ≤ Prod.fst (Prod.snd (List.getD ws (Int.toNat i) ((0 : Int), (0 : Int), (0 : Int)))) ∧ Prod.fst (Prod.snd (List.getD ws (Int.toNat i) ((0 : Int), (0 : Int), (0 : Int)))) < (8 : Int)))
 (req (decide ((0 : Nat) + Int.toNat (Prod.fst (Prod.snd (List.getD ws (Int.toNat i) ((0 : Int), (0 : Int), (0 : Int))))) < List.length d)) (req (inR Go.IntKind.i64 (i + (1 : Int))) (Go.P9.mL ws (i + (1 : Int)) < Go.P9.mL
 ws i ∧ LC2.spec Go.P9.lc66d (f, z, s, List.set d ((0 : Nat) + Int.toNat (Prod.fst (Prod.snd (List.getD ws (Int.toNat i) ((0 : Int), (0 : Int), (0 : Int)))))) (List.getD d ((0 : Nat) + Int.toNat (Prod.fst (List.getD ws
 (Int.toNat i) ((0 : Int), (0 : Int), (0 : Int))))) (0 : Int) + Prod.snd (Prod.snd (List.getD ws (Int.toNat i) ((0 : Int), (0 : Int), (0 : Int))))), ws, m, i + (1 : Int), ()) Q))))) (req (inR Go.IntKind.i64 (i + (1 :
 Int))) (Go.P9.mL ws (i + (1 : Int)) < Go.P9.mL ws i ∧ LC2.spec Go.P9.lc66d (f, z, s, d, ws, m, i + (1 : Int), ()) Q))))))))) (req (inR Go.IntKind.i64 (i + (1 : Int))) (Go.P9.mL ws (i + (1 : Int)) < Go.P9.mL ws i ∧
 LC2.spec Go.P9.lc66d (f, z, s, d, ws, m, i + (1 : Int), ()) Q)))))) (Q (AX.exit (6 : Nat)) (stS (4 : Nat) Go.P9.sh66x (f, z, s, d, ())))) := by kernel_rfl
def s66c (f : Fd) (z s : List Int) (Q : LQ) : Prop := (wsOk 8 (fWays f) ∧ bigF f ∧ s.length = 8 ∧ InvD s) ∧ ∀ r k, r = passN (fWays f) k s → passD (fWays f) r = r → Q (.exit 4) (stS 3 sh66 (f, z, r, ()))
abbrev lc66c : LC2 := ⟨0, sh66, 3, fun x Q => s66c x.1 x.2.1 x.2.2.1 Q⟩
theorem v66c (f : Fd) (z s : List Int) (Q : AX → St → Prop) : (xloop2 Try.prog { l2 := [(66, 3, lc66d)] } 5 66 2 lc66c (fun _ => some (sh66, 3)) (fun x => muD x.2.2.1) (f, z, s, ()) Q) =
(req (decide (List.length s = (8 : Nat))) (req (decide (List.length s = (8 : Nat))) (req (decide (List.length s = (8 : Nat))) (((0 : Int) ≤ (0 : Int) ∧ (0 : Int) ≤ (↑(List.length (Prod.fst (Prod.snd (Prod.snd (Prod.snd
 (Prod.snd (Prod.snd (Prod.snd f)))))))) : Int) ∧ (↑(List.length (Prod.fst (Prod.snd (Prod.snd (Prod.snd (Prod.snd (Prod.snd (Prod.snd f)))))))) : Int) = (↑(List.length (Prod.fst (Prod.snd (Prod.snd (Prod.snd (Prod.snd
 (Prod.snd (Prod.snd f)))))))) : Int) ∧ List.length (Prod.fst (Prod.snd (Prod.snd (Prod.snd (Prod.snd (Prod.snd (Prod.snd f))))))) ≤ (9223372036854775807 : Nat) ∧ List.length s = (8 : Nat) ∧ Go.P9.InvD s ∧ Go.P9.wsOk (8 :
 Nat) (Prod.fst (Prod.snd (Prod.snd (Prod.snd (Prod.snd (Prod.snd (Prod.snd f)))))))) ∧ req (decide (List.length (Go.P9.passD (List.drop (0 : Nat) (Prod.fst (Prod.snd (Prod.snd (Prod.snd (Prod.snd (Prod.snd (Prod.snd
 f)))))))) s) = (8 : Nat))) (req (decide (List.length s = (8 : Nat))) (req (decide (List.length (Go.P9.passD (List.drop (0 : Nat) (Prod.fst (Prod.snd (Prod.snd (Prod.snd (Prod.snd (Prod.snd (Prod.snd f)))))))) s) = (8 :
 Nat))) (req (decide (List.length s = (8 : Nat))) (fork (decide (Go.P9.passD (List.drop (0 : Nat) (Prod.fst (Prod.snd (Prod.snd (Prod.snd (Prod.snd (Prod.snd (Prod.snd f)))))))) s = s)) (Q (AX.exit (4 : Nat)) (stS (3 :
 Nat) Go.P9.sh66 (f, z, s, ()))) (req (decide (List.length (Go.P9.passD (List.drop (0 : Nat) (Prod.fst (Prod.snd (Prod.snd (Prod.snd (Prod.snd (Prod.snd (Prod.snd f)))))))) s) = (8 : Nat))) (req (decide (List.length
 (Go.P9.passD (List.drop (0 : Nat) (Prod.fst (Prod.snd (Prod.snd (Prod.snd (Prod.snd (Prod.snd (Prod.snd f)))))))) s) = (8 : Nat))) (req (decide (List.length (Go.P9.passD (List.drop (0 : Nat) (Prod.fst (Prod.snd (Prod.snd
 (Prod.snd (Prod.snd (Prod.snd (Prod.snd f)))))))) s) = List.length s)) (Go.P9.muD (Go.P9.passD (List.drop (0 : Nat) (Prod.fst (Prod.snd (Prod.snd (Prod.snd (Prod.snd (Prod.snd (Prod.snd f)))))))) s) < Go.P9.muD s ∧
 LC2.spec Go.P9.lc66c (f, z, Go.P9.passD (List.drop (0 : Nat) (Prod.fst (Prod.snd (Prod.snd (Prod.snd (Prod.snd (Prod.snd (Prod.snd f)))))))) s, ()) Q)))))))))))) := by kernel_rfl
abbrev fc66 : FC := ⟨[.v TF, .v L], [AR], fun x K => (okF x.1 = true ∧ x.2.1.length ≤ 9223372036854775807 ∧ inGrp x.1 x.2.1) ∧ ∀ r : List Int, r.length = 8 → r.take (fGroups x.1).length = startsL x.1 x.2.1 → K (r, ())⟩
theorem v66F (f : Fd) (l : List Int) (K : dens [AR] → Prop) : (xfn1 Try.prog { l2 := [(66, 0, lc66a), (66, 1, lc66b), (66, 2, lc66c)] } 5 66 fc66 (f, l, ()) K) =
(((0 : Int) ≤ (0 : Int) ∧ (0 : Int) ≤ (8 : Int) ∧ (8 : Nat) = (8 : Nat)) ∧ ((0 : Int) ≤ (0 : Int) ∧ (0 : Int) ≤ (↑(List.length l) : Int) ∧ (↑(List.length l) : Int) = (↑(List.length l) : Int) ∧ List.length l ≤
 (9223372036854775807 : Nat) ∧ (8 : Nat) = (8 : Nat) ∧ ∀ (x : Int), x ∈ l → (0 : Int) ≤ x ∧ x < (8 : Int)) ∧ (Go.P9.wsOk (8 : Nat) (Go.P9.fWays f) ∧ Go.P9.bigF f ∧ List.length (Go.P9.zeroD (List.take (0 : Nat) [(0 : Int),
 (0 : Int), (0 : Int), (0 : Int), (0 : Int), (0 : Int), (0 : Int), (0 : Int)] ++ List.replicate (8 : Nat) (-1 : Int)) (List.drop (0 : Nat) l)) = (8 : Nat) ∧ Go.P9.InvD (Go.P9.zeroD (List.take (0 : Nat) [(0 : Int), (0 :
 Int), (0 : Int), (0 : Int), (0 : Int), (0 : Int), (0 : Int), (0 : Int)] ++ List.replicate (8 : Nat) (-1 : Int)) (List.drop (0 : Nat) l))) ∧ ∀ (r : List Int) (k : Nat), r = Go.P9.passN (Go.P9.fWays f) k (Go.P9.zeroD
 (List.take (0 : Nat) [(0 : Int), (0 : Int), (0 : Int), (0 : Int), (0 : Int), (0 : Int), (0 : Int), (0 : Int)] ++ List.replicate (8 : Nat) (-1 : Int)) (List.drop (0 : Nat) l)) → Go.P9.passD (Go.P9.fWays f) r = r → req
 (decide (List.length r = (8 : Nat))) (req (decide (List.length r = (8 : Nat))) (req (decide (List.length r = (8 : Nat))) (req (decide (List.length r = (8 : Nat))) (req (decide (List.length r = (8 : Nat))) (K (r,
 ()))))))) := by kernel_rfl
/-! the reference's -/
end Go.P9
