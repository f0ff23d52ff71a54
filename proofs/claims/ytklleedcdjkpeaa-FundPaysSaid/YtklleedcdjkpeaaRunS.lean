/- Funds: runs that are allowed, the law of runs: states and what is to be shown, reduced. No conditions. -/
import Derived.Test.YtklleedcdjkpeaaStartsS
set_option linter.unusedSimpArgs false
set_option linter.unusedVariables false
set_option linter.constructorNameAsVariable false
set_option maxRecDepth 100000
set_option maxHeartbeats 2000000
namespace Go.P9
open Go.Lom Go.Proofs Go

/-! Starts of both -/
def startsE (f : Fd) (l : List Int) : Int := if okF f = true then (if listsB (fGroups f).length l 0 = true then 0 else 91) else 90
def startsR (f : Fd) (l : List Int) : List Int := if okF f = true ∧ listsB (fGroups f).length l 0 = true then startsL f l else []
abbrev fcStarts : FC := ⟨[.v TF, .v L], [L, E], fun x K => (bigF x.1 ∧ x.2.1.length ≤ 9223372036854775807) ∧ K (startsR x.1 x.2.1, startsE x.1 x.2.1, ())⟩
theorem v31F (f : Fd) (l : List Int) (K : dens [L, E] → Prop) : (xfn1 Try.prog { f := [(29, fcCheck), (65, fcLists), (66, fc66), (67, fcClone)] } 5 31 fcStarts (f, l, ()) K) =
(Go.P9.bigF f ∧ fork (Go.P9.chkE f != (0 : Int)) (K ([], Go.P9.chkE f, ())) ((List.length l ≤ (9223372036854775807 : Nat) ∧ Go.P9.bigF f) ∧ fork (!Go.P9.listsB (List.length (Go.P9.fGroups f)) l (0 : Int)) (K ([], (91 :
 Int), ())) ((Go.P9.okF f = Bool.true ∧ List.length l ≤ (9223372036854775807 : Nat) ∧ Go.P9.inGrp f l) ∧ ∀ (r : List Int), List.length r = (8 : Nat) → List.take (List.length (Go.P9.fGroups f)) r = Go.P9.startsL f l → req
 (decide (List.length r = (8 : Nat))) (req (decide (List.length r = (8 : Nat))) (req (decide ((0 : Int) ≤ (0 : Int) ∧ (0 : Int) ≤ (↑(List.length (Prod.fst (Prod.snd (Prod.snd (Prod.snd (Prod.snd (Prod.snd f))))))) : Int)
 ∧ (↑(List.length (Prod.fst (Prod.snd (Prod.snd (Prod.snd (Prod.snd (Prod.snd f))))))) : Int) ≤ (8 : Int))) (req (decide (List.length r = (8 : Nat))) (req (decide ((0 : Nat) + (Int.toNat (↑(List.length (Prod.fst (Prod.snd
 (Prod.snd (Prod.snd (Prod.snd (Prod.snd f))))))) : Int) - (0 : Nat)) ≤ List.length r)) (List.length (seg (0 : Nat) (Int.toNat (↑(List.length (Prod.fst (Prod.snd (Prod.snd (Prod.snd (Prod.snd (Prod.snd f))))))) : Int) -
 (0 : Nat)) r) ≤ (1000000 : Nat) ∧ K (seg (0 : Nat) (Int.toNat (↑(List.length (Prod.fst (Prod.snd (Prod.snd (Prod.snd (Prod.snd (Prod.snd f))))))) : Int) - (0 : Nat)) r, (0 : Int), ()))))))))) := by kernel_rfl

/-! runs -/
abbrev LL : Ty := .sl L
abbrev Grp := Int × Int × Int
def mayI (g : Grp) (st d : Int) : Int := if st < 0 ∨ d < st + g.2.2 then 0 else g.2.1
def cellOk (g : Grp) (st d n : Int) : Bool := decide (0 ≤ n ∧ n ≤ mayI g st d)
def cellsOk (g : Grp) (st : Int) (row : List Int) (j : Int) : Bool := ((List.range row.length).drop j.toNat).all fun k => cellOk g st k (row.getD k 0)
def rowOk (f : Fd) (s : List Int) (i : Nat) (row : List Int) : Bool :=
  decide (row.length = (fIn f).length) && (cellsOk ((fGroups f).getD i (0, 0, 0)) (s.getD i 0) row 0 && decide (row.sum ≤ ((fGroups f).getD i (0, 0, 0)).1))
def rowsOk (f : Fd) (s : List Int) (out : List (List Int)) (i : Int) : Bool := ((List.range out.length).drop i.toNat).all fun k => rowOk f s k (out.getD k [])
def allowB (f : Fd) (r : Rn) : Bool :=
  listsB (fGroups f).length r.1 0 && (decide ((r.1.length : Int) ≤ fBegin f) && (decide (r.2.length = (fGroups f).length) && rowsOk f (startsL f r.1) r.2 0))
def bigR (r : Rn) : Prop := r.1.length ≤ 9223372036854775807 ∧ r.2.length ≤ 9223372036854775807
def sOk (s : List Int) (i : Int) : Prop := -1 ≤ s.getD i.toNat 0 ∧ s.getD i.toNat 0 ≤ 96
abbrev fc75 : FC := ⟨[.v G3, .v I, .v I], [I], fun x K => (grpOk x.1 = true ∧ x.2.1 ≤ 96) ∧ K (mayI x.1 x.2.1 x.2.2.1, ())⟩
theorem v75F (g : Grp) (st d : Int) (K : dens [I] → Prop) : (xfn1 Try.prog {} 5 75 fc75 (g, st, d, ()) K) =
(fork (decide (st < (0 : Int))) (K ((0 : Int), ())) (req (inR Go.IntKind.i64 (st + Prod.snd (Prod.snd g))) (fork (decide (d < st + Prod.snd (Prod.snd g))) (K ((0 : Int), ())) (K (Prod.fst (Prod.snd g), ()))))) := by kernel_rfl
/-! the program's -/
abbrev sh48 : SV := S [(2, bF), (5, .arr 1 I), (40, .v LL), (41, .v I), (42, .v I)]
abbrev sh48x : SV := S [(2, bF), (5, .arr 1 I), (6, .v I), (7, .v L), (8, .box 2 (.v G3)), (40, .v LL), (41, .v I), (42, .v I)]
abbrev sh48b : SV := S [(2, bF), (5, .arr 1 I), (6, .v I), (7, .v L), (8, .box 2 (.v G3)), (40, .v LL), (41, .v I), (42, .v I), (58, .v L), (59, .v I), (60, .v I)]
def ex48b : Ex2
  | .ret => some (shR4, 0)
  | _ => some (sh48x, 3)
def s48b (f : Fd) (s : List Int) (i : Int) (row0 : List Int) (g : Grp) (out : List (List Int)) (m k : Int) (row : List Int) (n j : Int) (Q : LQ) : Prop :=
  (0 ≤ j ∧ j ≤ row.length ∧ n = row.length ∧ row.length ≤ 12 ∧ s.length = 8 ∧ 0 ≤ i ∧ i < 8 ∧ sOk s i ∧ grpOk g = true) ∧
  (cellsOk g (s.getD i.toNat 0) row j = true → Q (.exit 2) (stS 3 sh48x (f, s, i, row0, g, out, m, k, ()))) ∧ (cellsOk g (s.getD i.toNat 0) row j = false → Q .ret (stS 0 shR4 (false, ())))
abbrev lc48b : LC2 := ⟨0, sh48b, 3, fun (f, s, i, row0, g, out, m, k, row, n, j, _) Q => s48b f s i row0 g out m k row n j Q⟩
theorem v48b (f : Fd) (s : List Int) (i : Int) (row0 : List Int) (g : Grp) (out : List (List Int)) (m k : Int) (row : List Int) (n j : Int) (Q : AX → St → Prop) : (xloop2 Try.prog { f := [(71, fcWith)] } 5 48 1 lc48b ex48b (fun (_, _, _, _, _, _, _, _, row, _, j, _) => mL row j) (f, s, i, row0, g, out, m, k, row, n, j, ()) Q) =
(fork (decide (j < n)) (req (decide ((0 : Int) ≤ j ∧ j < (↑(List.length row) : Int))) (fork (!decide ((0 : Int) ≤ List.getD row (Int.toNat j) (0 : Int) ∧ List.getD row (Int.toNat j) (0 : Int) ≤ Prod.fst (Prod.snd g))) (Q
 AX.ret (stS (0 : Nat) Go.P9.shR4 (Bool.false, ()))) (fork (decide (List.getD row (Int.toNat j) (0 : Int) > (0 : Int))) (req (decide ((0 : Int) ≤ i ∧ i < (8 : Int))) (req (decide ((0 : Nat) + Int.toNat i < List.length s))
 (fork (decide (List.getD s ((0 : Nat) + Int.toNat i) (0 : Int) < (0 : Int))) (Q AX.ret (stS (0 : Nat) Go.P9.shR4 (Bool.false, ()))) (req (decide ((0 : Int) ≤ i ∧ i < (8 : Int))) (req (decide ((0 : Nat) + Int.toNat i <
 List.length s)) (req (inR Go.IntKind.i64 (List.getD s ((0 : Nat) + Int.toNat i) (0 : Int) + Prod.snd (Prod.snd g))) (fork (decide (j < List.getD s ((0 : Nat) + Int.toNat i) (0 : Int) + Prod.snd (Prod.snd g))) (Q AX.ret
 (stS (0 : Nat) Go.P9.shR4 (Bool.false, ()))) (req (inR Go.IntKind.i64 (j + (1 : Int))) (Go.P9.mL row (j + (1 : Int)) < Go.P9.mL row j ∧ LC2.spec Go.P9.lc48b (f, s, i, row0, g, out, m, k, row, n, j + (1 : Int), ())
 Q))))))))) (req (inR Go.IntKind.i64 (j + (1 : Int))) (Go.P9.mL row (j + (1 : Int)) < Go.P9.mL row j ∧ LC2.spec Go.P9.lc48b (f, s, i, row0, g, out, m, k, row, n, j + (1 : Int), ()) Q))))) (Q (AX.exit (2 : Nat)) (stS (3 :
 Nat) Go.P9.sh48x (f, s, i, row0, g, out, m, k, ())))) := by kernel_rfl
def ex48 : Ex2
  | .ret => some (shR4, 0)
  | _ => some (.nil, 0)
def s48 (f : Fd) (s : List Int) (out : List (List Int)) (m i : Int) (Q : LQ) : Prop :=
  (okF f = true ∧ 0 ≤ i ∧ i ≤ out.length ∧ m = out.length ∧ out.length = (fGroups f).length ∧ s.length = 8 ∧ ∀ k : Int, 0 ≤ k → k < out.length → sOk s k) ∧
  (rowsOk f s out i = true → Q (.exit 0) (stS 0 .nil ())) ∧ (rowsOk f s out i = false → Q .ret (stS 0 shR4 (false, ())))
abbrev lc48 : LC2 := ⟨0, sh48, 2, fun (f, s, out, m, i, _) Q => s48 f s out m i Q⟩
theorem v48a (f : Fd) (s : List Int) (out : List (List Int)) (m i : Int) (Q : AX → St → Prop) : (xloop2 Try.prog { f := [(71, fcWith), (74, fcSum)], l2 := [(48, 1, lc48b)] } 5 48 0 lc48 ex48 (fun (_, _, out, _, i, _) => mL out i) (f, s, out, m, i, ()) Q) =
(fork (decide (i < m)) (req (decide ((0 : Int) ≤ i ∧ i < (↑(List.length out) : Int))) (fork ((↑(List.length (List.getD out (Int.toNat i) [])) : Int) != (↑(List.length (Prod.fst (Prod.snd f))) : Int)) (Q AX.ret (stS (0 :
 Nat) Go.P9.shR4 (Bool.false, ()))) (req (decide ((0 : Int) ≤ i ∧ i < (↑(List.length (Prod.fst (Prod.snd (Prod.snd (Prod.snd (Prod.snd (Prod.snd f))))))) : Int))) (((0 : Int) ≤ (0 : Int) ∧ (0 : Int) ≤ (↑(List.length
 (List.getD out (Int.toNat i) [])) : Int) ∧ (↑(List.length (List.getD out (Int.toNat i) [])) : Int) = (↑(List.length (List.getD out (Int.toNat i) [])) : Int) ∧ List.length (List.getD out (Int.toNat i) []) ≤ (12 : Nat) ∧
 List.length s = (8 : Nat) ∧ (0 : Int) ≤ i ∧ i < (8 : Int) ∧ Go.P9.sOk s i ∧ Go.P9.grpOk (List.getD (Prod.fst (Prod.snd (Prod.snd (Prod.snd (Prod.snd (Prod.snd f)))))) (Int.toNat i) ((0 : Int), (0 : Int), (0 : Int))) =
 Bool.true) ∧ (Go.P9.cellsOk (List.getD (Prod.fst (Prod.snd (Prod.snd (Prod.snd (Prod.snd (Prod.snd f)))))) (Int.toNat i) ((0 : Int), (0 : Int), (0 : Int))) (List.getD s (Int.toNat i) (0 : Int)) (List.getD out (Int.toNat
 i) []) (0 : Int) = Bool.true → (List.length (List.getD out (Int.toNat i) []) ≤ (9223372036854775807 : Nat) ∧ Go.P9.fitS (0 : Int) (List.getD out (Int.toNat i) [])) ∧ AV.int Go.IntKind.i64 (Prod.fst (List.getD (Prod.fst
 (Prod.snd (Prod.snd (Prod.snd (Prod.snd (Prod.snd f)))))) (Int.toNat i) ((0 : Int), (0 : Int), (0 : Int)))) = AV.int Go.IntKind.i64 (Prod.fst (List.getD (Prod.fst (Prod.snd (Prod.snd (Prod.snd (Prod.snd (Prod.snd f))))))
 (Int.toNat i) ((0 : Int), (0 : Int), (0 : Int)))) ∧ fork (decide (List.sum (List.getD out (Int.toNat i) []) > Prod.fst (List.getD (Prod.fst (Prod.snd (Prod.snd (Prod.snd (Prod.snd (Prod.snd f)))))) (Int.toNat i) ((0 :
 Int), (0 : Int), (0 : Int))))) (Q AX.ret (stS (0 : Nat) Go.P9.shR4 (Bool.false, ()))) (req (inR Go.IntKind.i64 (i + (1 : Int))) (Go.P9.mL out (i + (1 : Int)) < Go.P9.mL out i ∧ LC2.spec Go.P9.lc48 (f, s, out, m, i + (1 :
 Int), ()) Q))) ∧ (Go.P9.cellsOk (List.getD (Prod.fst (Prod.snd (Prod.snd (Prod.snd (Prod.snd (Prod.snd f)))))) (Int.toNat i) ((0 : Int), (0 : Int), (0 : Int))) (List.getD s (Int.toNat i) (0 : Int)) (List.getD out
 (Int.toNat i) []) (0 : Int) = Bool.false → Q AX.ret (stS (0 : Nat) Go.P9.shR4 (Bool.false, ()))))))) (Q (AX.exit (0 : Nat)) (stS (0 : Nat) SV.nil ()))) := by kernel_rfl
abbrev fc48 : FC := ⟨[.v TF, .v TR], [.b], fun x K => (okF x.1 = true ∧ bigR x.2.1) ∧ K (allowB x.1 x.2.1, ())⟩
theorem v48F (f : Fd) (r : Rn) (K : dens [.b] → Prop) : (xfn1 Try.prog { f := [(65, fcLists), (66, fc66)], l2 := [(48, 0, lc48)] } 5 48 fc48 (f, r, ()) K) =
((List.length (Prod.fst r) ≤ (9223372036854775807 : Nat) ∧ Go.P9.bigF f) ∧ fork (!Go.P9.listsB (List.length (Go.P9.fGroups f)) (Prod.fst r) (0 : Int)) (K (Bool.false, ())) (fork (decide ((↑(List.length (Prod.fst r)) :
 Int) > Prod.fst (Prod.snd (Prod.snd (Prod.snd (Prod.snd (Prod.snd (Prod.snd (Prod.snd f))))))))) (K (Bool.false, ())) (fork ((↑(List.length (Prod.snd r)) : Int) != (↑(List.length (Prod.fst (Prod.snd (Prod.snd (Prod.snd
 (Prod.snd (Prod.snd f))))))) : Int)) (K (Bool.false, ())) ((Go.P9.okF f = Bool.true ∧ List.length (Prod.fst r) ≤ (9223372036854775807 : Nat) ∧ Go.P9.inGrp f (Prod.fst r)) ∧ ∀ (r_1 : List Int), List.length r_1 = (8 : Nat)
 → List.take (List.length (Go.P9.fGroups f)) r_1 = Go.P9.startsL f (Prod.fst r) → req (decide (List.length r_1 = (8 : Nat))) (req (decide (List.length r_1 = (8 : Nat))) ((Go.P9.okF f = Bool.true ∧ (0 : Int) ≤ (0 : Int) ∧
 (0 : Int) ≤ (↑(List.length (Prod.snd r)) : Int) ∧ (↑(List.length (Prod.snd r)) : Int) = (↑(List.length (Prod.snd r)) : Int) ∧ List.length (Prod.snd r) = List.length (Go.P9.fGroups f) ∧ List.length r_1 = (8 : Nat) ∧ ∀ (k
 : Int), (0 : Int) ≤ k → k < (↑(List.length (Prod.snd r)) : Int) → Go.P9.sOk r_1 k) ∧ (Go.P9.rowsOk f r_1 (Prod.snd r) (0 : Int) = Bool.true → K (Bool.true, ())) ∧ (Go.P9.rowsOk f r_1 (Prod.snd r) (0 : Int) = Bool.false →
 K (Bool.false, ())))))))) := by kernel_rfl
/-! the reference's -/
/-! the law -/
abbrev fcWorks : FC := ⟨[], [.b], fun _ K => K (true, ())⟩
end Go.P9
