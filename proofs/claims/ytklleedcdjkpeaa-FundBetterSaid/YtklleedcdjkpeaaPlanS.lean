/- Funds: plans, flows, sound plans: states and what is to be shown, reduced. No conditions. -/
import Derived.Test.YtklleedcdjkpeaaNeedsS
set_option linter.unusedSimpArgs false
set_option linter.unusedVariables false
set_option linter.constructorNameAsVariable false
set_option maxRecDepth 100000
set_option maxHeartbeats 2000000
namespace Go.P9
open Go.Lom Go.Proofs Go

/-! plans -/
def planC (f : Fd) (l : List Int) (i : Int) : Bool := ((List.range l.length).drop i.toNat).all fun k => decide (0 ≤ l.getD k 0 ∧ l.getD k 0 ≤ (fSell f).getD k 0)
def planB (f : Fd) (l : List Int) : Bool := decide (l.length = (fIn f).length) && (planC f l 0 && decide (l.sum ≤ fBars f))
abbrev fcPlan : FC := ⟨[.v TF, .v L], [.b], fun x K => (okF x.1 = true ∧ x.2.1.length ≤ 9223372036854775807) ∧ K (planB x.1 x.2.1, ())⟩
abbrev sh47 : SV := S [(1, .v L), (2, bF), (12, .v L), (13, .v I), (14, .v I)]
abbrev sh47e : SV := S [(1, .v L), (2, bF)]
def ex47 : Ex2
  | .ret => some (shR4, 0)
  | _ => some (sh47e, 1)
def s47 (l : List Int) (f : Fd) (l' : List Int) (m i : Int) (Q : LQ) : Prop := (okF f = true ∧ l.length = (fIn f).length ∧ l' = l ∧ m = l.length ∧ 0 ≤ i ∧ i ≤ l.length) ∧
  (planC f l i = true → Q (.exit 0) (stS 1 sh47e (l, f, ()))) ∧ (planC f l i = false → Q .ret (stS 0 shR4 (false, ())))
abbrev lc47 : LC2 := ⟨0, sh47, 1, fun (l, f, l', m, i, _) Q => s47 l f l' m i Q⟩
theorem v47L (l : List Int) (f : Fd) (l' : List Int) (m i : Int) (Q : AX → St → Prop) : (xloop2 Try.prog { f := [(71, fcWith)] } 5 47 0 lc47 ex47 (fun (l, _, _, _, i, _) => mL l i) (l, f, l', m, i, ()) Q) =
(fork (decide (i < m)) (req (decide ((0 : Int) ≤ i ∧ i < (↑(List.length l') : Int))) (req (decide ((0 : Int) ≤ i ∧ i < (↑(List.length (Prod.fst (Prod.snd (Prod.snd (Prod.snd f))))) : Int))) (fork (!decide ((0 : Int) ≤
 List.getD l' (Int.toNat i) (0 : Int) ∧ List.getD l' (Int.toNat i) (0 : Int) ≤ List.getD (Prod.fst (Prod.snd (Prod.snd (Prod.snd f)))) (Int.toNat i) (0 : Int))) (Q AX.ret (stS (0 : Nat) Go.P9.shR4 (Bool.false, ()))) (req
 (inR Go.IntKind.i64 (i + (1 : Int))) (Go.P9.mL l (i + (1 : Int)) < Go.P9.mL l i ∧ LC2.spec Go.P9.lc47 (l, f, l', m, i + (1 : Int), ()) Q))))) (Q (AX.exit (0 : Nat)) (stS (1 : Nat) Go.P9.sh47e (l, f, ())))) := by kernel_rfl
theorem v47F (f : Fd) (l : List Int) (K : dens [.b] → Prop) : (xfn1 Try.prog { f := [(74, fcSum)], l2 := [(47, 0, lc47)] } 5 47 fcPlan (f, l, ()) K) =
(fork ((↑(List.length l) : Int) != (↑(List.length (Prod.fst (Prod.snd f))) : Int)) (K (Bool.false, ())) ((Go.P9.okF f = Bool.true ∧ List.length l = List.length (Go.P9.fIn f) ∧ l = l ∧ (↑(List.length l) : Int) =
 (↑(List.length l) : Int) ∧ (0 : Int) ≤ (0 : Int) ∧ (0 : Int) ≤ (↑(List.length l) : Int)) ∧ (Go.P9.planC f l (0 : Int) = Bool.true → (List.length l ≤ (9223372036854775807 : Nat) ∧ Go.P9.fitS (0 : Int) l) ∧ AV.int
 Go.IntKind.i64 (Prod.snd (Prod.snd (Prod.snd (Prod.snd (Prod.snd (Prod.snd (Prod.snd (Prod.snd f)))))))) = AV.int Go.IntKind.i64 (Prod.snd (Prod.snd (Prod.snd (Prod.snd (Prod.snd (Prod.snd (Prod.snd (Prod.snd f)))))))) ∧
 K (decide (List.sum l ≤ Prod.snd (Prod.snd (Prod.snd (Prod.snd (Prod.snd (Prod.snd (Prod.snd (Prod.snd f)))))))), ())) ∧ (Go.P9.planC f l (0 : Int) = Bool.false → K (Bool.false, ())))) := by kernel_rfl

/-! flows -/
def spanC (l : List Int) (s : List (Int × Int)) (i : Int) : Bool := ((List.range s.length).drop i.toNat).all fun k => decide ((s.getD k (0, 0)).1 ≤ l.getD k 0 ∧ l.getD k 0 ≤ (s.getD k (0, 0)).2)
def flowB (l : List Int) (s : List (Int × Int)) : Bool := decide (l.length = s.length) && spanC l s 0

/-! sound plans -/
def monI (f : Fd) (l : List Int) (i m : Int) : Int := m + l.getD i.toNat 0 * ((fPrices f).getD i.toNat (0, 0)).1
def soundN (f : Fd) (l : List Int) : List Int → Int → Int → Bool
  | [], _, _ => true
  | n :: ns, i, m => if monI f l i m < n then false else soundN f l ns (i + 1) (monI f l i m)
def soundB (f : Fd) (l : List Int) : Bool := soundN f l (needsL f) 0 0
def soundE (f : Fd) (l : List Int) : Int := if okF f = true then (if planB f l = true then 0 else 93) else 90
abbrev shRS : SV := S [(4, .v .b), (5, .v E)]
abbrev sh17 : SV := S [(1, .v L), (2, bF), (8, .v I), (23, .v L), (24, .v I), (25, .v I)]
def ex17 : Ex2
  | .ret => some (shRS, 0)
  | _ => some (.nil, 0)
def okS (f : Fd) (l ns : List Int) (i m : Int) : Prop := okF f = true ∧ planB f l = true ∧ ns.length = (fIn f).length ∧ 0 ≤ i ∧ i ≤ ns.length ∧ 0 ≤ m ∧ m ≤ 67108864 * i
def s17 (l : List Int) (f : Fd) (m : Int) (ns : List Int) (k i : Int) (Q : LQ) : Prop := (okS f l ns i m ∧ k = ns.length) ∧
  (soundN f l (ns.drop i.toNat) i m = true → Q (.exit 0) (stS 0 .nil ())) ∧ (soundN f l (ns.drop i.toNat) i m = false → Q .ret (stS 0 shRS (false, 0, ())))
abbrev lc17 : LC2 := ⟨0, sh17, 1, fun (l, f, m, ns, k, i, _) Q => s17 l f m ns k i Q⟩
theorem v17L (l : List Int) (f : Fd) (m : Int) (ns : List Int) (k i : Int) (Q : AX → St → Prop) : (xloop2 Try.prog {} 5 17 0 lc17 ex17 (fun (_, _, _, ns, _, i, _) => mL ns i) (l, f, m, ns, k, i, ()) Q) =
(fork (decide (i < k)) (req (decide ((0 : Int) ≤ i ∧ i < (↑(List.length ns) : Int))) (req (decide ((0 : Int) ≤ i ∧ i < (↑(List.length l) : Int))) (req (decide ((0 : Int) ≤ i ∧ i < (↑(List.length (Prod.fst (Prod.snd
 (Prod.snd (Prod.snd (Prod.snd f)))))) : Int))) (req (inR Go.IntKind.i64 (List.getD l (Int.toNat i) (0 : Int) * Prod.fst (List.getD (Prod.fst (Prod.snd (Prod.snd (Prod.snd (Prod.snd f))))) (Int.toNat i) ((0 : Int), (0 :
 Int))))) (req (inR Go.IntKind.i64 (m + List.getD l (Int.toNat i) (0 : Int) * Prod.fst (List.getD (Prod.fst (Prod.snd (Prod.snd (Prod.snd (Prod.snd f))))) (Int.toNat i) ((0 : Int), (0 : Int))))) (fork (decide (m +
 List.getD l (Int.toNat i) (0 : Int) * Prod.fst (List.getD (Prod.fst (Prod.snd (Prod.snd (Prod.snd (Prod.snd f))))) (Int.toNat i) ((0 : Int), (0 : Int))) < List.getD ns (Int.toNat i) (0 : Int))) (Q AX.ret (stS (0 : Nat)
 Go.P9.shRS (Bool.false, (0 : Int), ()))) (req (inR Go.IntKind.i64 (i + (1 : Int))) (Go.P9.mL ns (i + (1 : Int)) < Go.P9.mL ns i ∧ LC2.spec Go.P9.lc17 (l, f, m + List.getD l (Int.toNat i) (0 : Int) * Prod.fst (List.getD
 (Prod.fst (Prod.snd (Prod.snd (Prod.snd (Prod.snd f))))) (Int.toNat i) ((0 : Int), (0 : Int))), ns, k, i + (1 : Int), ()) Q)))))))) (Q (AX.exit (0 : Nat)) (stS (0 : Nat) SV.nil ()))) := by kernel_rfl
abbrev fcSound : FC := ⟨[.v TF, .v L], [.b, E], fun x K => (bigF x.1 ∧ x.2.1.length ≤ 9223372036854775807) ∧ K (okF x.1 && (planB x.1 x.2.1 && soundB x.1 x.2.1), soundE x.1 x.2.1, ())⟩
theorem v17F (f : Fd) (l : List Int) (K : dens [.b, E] → Prop) : (xfn1 Try.prog { f := [(29, fcCheck), (47, fcPlan), (54, fcN0)], l2 := [(17, 0, lc17)] } 5 17 fcSound (f, l, ()) K) =
(Go.P9.bigF f ∧ fork (Go.P9.chkE f != (0 : Int)) (K (Bool.false, Go.P9.chkE f, ())) ((Go.P9.okF f = Bool.true ∧ List.length l ≤ (9223372036854775807 : Nat)) ∧ fork (!Go.P9.planB f l) (K (Bool.false, (93 : Int), ()))
 (Go.P9.okF f = Bool.true ∧ (Go.P9.okS f l (Go.P9.needsL f) (0 : Int) (0 : Int) ∧ (↑(List.length (Go.P9.needsL f)) : Int) = (↑(List.length (Go.P9.needsL f)) : Int)) ∧ (Go.P9.soundN f l (List.drop (0 : Nat) (Go.P9.needsL
 f)) (0 : Int) (0 : Int) = Bool.true → K (Bool.true, (0 : Int), ())) ∧ (Go.P9.soundN f l (List.drop (0 : Nat) (Go.P9.needsL f)) (0 : Int) (0 : Int) = Bool.false → K (Bool.false, (0 : SV.den (SV.slot (5 : Nat) (SV.v
 Go.P9.E))), ()))))) := by kernel_rfl
end Go.P9
