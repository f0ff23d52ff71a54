/- Funds: the worst run by the reference: states and what is to be shown, reduced. No conditions. -/
import Derived.Test.YtklleedcdjkpeaaWorstS
set_option linter.unusedSimpArgs false
set_option linter.unusedVariables false
set_option linter.constructorNameAsVariable false
set_option maxRecDepth 100000
set_option maxHeartbeats 2000000
namespace Go.P9
open Go.Lom Go.Proofs Go

def aheadI : List Int → List Int → Bool
  | [], [] => false
  | [], _ :: _ => true
  | _ :: _, [] => false
  | x :: a, y :: b => if x = y then aheadI a b else decide (x < y)
abbrev sh34 : SV := S [(0, .v L), (1, .v L), (5, .v I)]
abbrev sh34e : SV := S [(0, .v L), (1, .v L)]
def ex34 : Ex2
  | .ret => some (shR4, 0)
  | _ => some (sh34e, 0)
def s34 (a b : List Int) (i : Int) (Q : LQ) : Prop := (0 ≤ i ∧ a.length ≤ 9223372036854775807 ∧ i ≤ a.length ∧ i ≤ b.length) ∧
  ((aheadI (a.drop i.toNat) (b.drop i.toNat) = decide (a.length < b.length) → Q (.exit 0) (stS 0 sh34e (a, b, ()))) ∧ Q .ret (stS 0 shR4 (aheadI (a.drop i.toNat) (b.drop i.toNat), ())))
abbrev lc34 : LC2 := ⟨0, sh34, 0, fun (a, b, i, _) Q => s34 a b i Q⟩
theorem v34L (a b : List Int) (i : Int) (Q : AX → St → Prop) : (xloop2 Try.prog {} 5 34 0 lc34 ex34 (fun (a, _, i, _) => mL a i) (a, b, i, ()) Q) =
(fork (decide (i < (↑(List.length a) : Int))) (fork (decide (i < (↑(List.length b) : Int))) (req (decide ((0 : Int) ≤ i ∧ i < (↑(List.length a) : Int))) (req (decide ((0 : Int) ≤ i ∧ i < (↑(List.length b) : Int))) (fork
 (List.getD a (Int.toNat i) (0 : Int) != List.getD b (Int.toNat i) (0 : Int)) (req (decide ((0 : Int) ≤ i ∧ i < (↑(List.length a) : Int))) (req (decide ((0 : Int) ≤ i ∧ i < (↑(List.length b) : Int))) (Q AX.ret (stS (0 :
 Nat) Go.P9.shR4 (decide (List.getD a (Int.toNat i) (0 : Int) < List.getD b (Int.toNat i) (0 : Int)), ()))))) (req (inR Go.IntKind.i64 (i + (1 : Int))) (Go.P9.mL a (i + (1 : Int)) < Go.P9.mL a i ∧ LC2.spec Go.P9.lc34 (a,
 b, i + (1 : Int), ()) Q))))) (Q (AX.exit (0 : Nat)) (stS (0 : Nat) Go.P9.sh34e (a, b, ())))) (Q (AX.exit (0 : Nat)) (stS (0 : Nat) Go.P9.sh34e (a, b, ())))) := by kernel_rfl
abbrev fcAhead : FC := ⟨[.v L, .v L], [.b], fun x K => (x.1.length ≤ 9223372036854775807) ∧ K (aheadI x.1 x.2.1, ())⟩
theorem v34F (a b : List Int) (K : dens [.b] → Prop) : (xfn1 Try.prog { l2 := [(34, 0, lc34)] } 5 34 fcAhead (a, b, ()) K) =
(((0 : Int) ≤ (0 : Int) ∧ List.length a ≤ (9223372036854775807 : Nat) ∧ (0 : Int) ≤ (↑(List.length a) : Int) ∧ (0 : Int) ≤ (↑(List.length b) : Int)) ∧ (Go.P9.aheadI (List.drop (0 : Nat) a) (List.drop (0 : Nat) b) =
 decide (List.length a < List.length b) → K (decide ((↑(List.length a) : Int) < (↑(List.length b) : Int)), ())) ∧ K (Go.P9.aheadI (List.drop (0 : Nat) a) (List.drop (0 : Nat) b), ())) := by kernel_rfl

/-! what a group can take -/
def restT (g : Grp) (st day t : Int) : Int := if 0 ≤ st then g.2.1 * posI (day + 1 - (if t < st + g.2.2 then st + g.2.2 else t)) else 0
abbrev sh84 : SV := S [(1, .v I), (2, .v I), (3, .box 0 (.v G3)), (7, .v I), (8, .v I)]
abbrev sh84e : SV := S [(3, .box 0 (.v G3)), (7, .v I)]
def s84 (st day : Int) (g : Grp) (n t : Int) (Q : LQ) : Prop := (grpOk g = true ∧ -1 ≤ st ∧ st ≤ 96 ∧ 0 ≤ day ∧ day ≤ 12 ∧ 0 ≤ t ∧ t ≤ day + 1 ∧ 0 ≤ n ∧ n ≤ 1073741824 * t) ∧ Q (.exit 0) (stS 1 sh84e (g, n + restT g st day t, ()))
abbrev lc84 : LC2 := ⟨0, sh84, 1, fun (st, day, g, n, t, _) Q => s84 st day g n t Q⟩
theorem v84L (st day : Int) (g : Grp) (n t : Int) (Q : AX → St → Prop) : (xloop2 Try.prog { f := [(75, fc75)] } 5 84 0 lc84 (fun _ => some (sh84e, 1)) (fun (_, day, _, _, t, _) => (day + 1 - t).toNat) (st, day, g, n, t, ()) Q) =
(fork (decide (t ≤ day)) ((Go.P9.grpOk g = Bool.true ∧ st ≤ (96 : AT.den (AT.v Go.P9.I))) ∧ req (inR Go.IntKind.i64 (n + Go.P9.mayI g st t)) (req (inR Go.IntKind.i64 (t + (1 : Int))) (Int.toNat (day + (1 : SV.den
 (SV.slot (2 : Nat) (SV.v Go.P9.I))) - (t + (1 : Int))) < Int.toNat (day + (1 : SV.den (SV.slot (2 : Nat) (SV.v Go.P9.I))) - t) ∧ LC2.spec Go.P9.lc84 (st, day, g, n + Go.P9.mayI g st t, t + (1 : Int), ()) Q))) (Q (AX.exit
 (0 : Nat)) (stS (1 : Nat) Go.P9.sh84e (g, n, ())))) := by kernel_rfl
abbrev fc84 : FC := ⟨[.v G3, .v I, .v I], [I], fun x K => (grpOk x.1 = true ∧ -1 ≤ x.2.1 ∧ x.2.1 ≤ 96 ∧ 0 ≤ x.2.2.1 ∧ x.2.2.1 ≤ 12) ∧ K (tkI x.1 x.2.1 x.2.2.1, ())⟩
theorem v84F (g : Grp) (st day : Int) (K : dens [I] → Prop) : (xfn1 Try.prog { l2 := [(84, 0, lc84)] } 5 84 fc84 (g, st, day, ()) K) =
((Go.P9.grpOk g = Bool.true ∧ (-1 : Int) ≤ st ∧ st ≤ (96 : Int) ∧ (0 : Int) ≤ day ∧ day ≤ (12 : Int) ∧ (0 : Int) ≤ (0 : Int) ∧ (0 : Int) ≤ day + (1 : Int) ∧ (0 : Int) ≤ (0 : Int) ∧ (0 : Int) ≤ (0 : Int)) ∧ K (if Prod.fst
 g < (0 : Int) + Go.P9.restT g st day (0 : Int) then Prod.fst g else (0 : Int) + Go.P9.restT g st day (0 : Int), ())) := by kernel_rfl

/-! the groups of a number's bits -/
def bitB (bits : Int) (i : Nat) : Bool := Int.tmod (Int.fdiv bits (2 ^ min i 64)) 2 == 1
def beginD (n : Nat) (bits i : Int) : List Int := (((List.range n).drop i.toNat).filter (bitB bits)).map fun k : Nat => (k : Int)
abbrev sh83 : SV := S [(1, .v I), (2, bF), (5, .own 1 I), (6, .v I)]
abbrev sh83e : SV := S [(5, .own 0 I)]
def s83 (bits : Int) (f : Fd) (out : List Int) (i : Int) (Q : LQ) : Prop := ((fGroups f).length ≤ 8 ∧ 0 ≤ i ∧ i ≤ (fGroups f).length ∧ out.length ≤ i) ∧ Q (.exit 0) (stS 1 sh83e (out ++ beginD (fGroups f).length bits i, ()))
abbrev lc83 : LC2 := ⟨0, sh83, 2, fun (bits, f, out, i, _) Q => s83 bits f out i Q⟩
theorem v83L (bits : Int) (f : Fd) (out : List Int) (i : Int) (Q : AX → St → Prop) : (xloop2 Try.prog {} 5 83 0 lc83 (fun _ => some (sh83e, 1)) (fun (_, f, _, i, _) => mL (fGroups f) i) (bits, f, out, i, ()) Q) =
(fork (decide (i < (↑(List.length (Prod.fst (Prod.snd (Prod.snd (Prod.snd (Prod.snd (Prod.snd f))))))) : Int))) (req (decide ((0 : Int) ≤ i)) (fork (Int.tmod (Int.fdiv bits ((2 : Int) ^ Min.min (Int.toNat i) (64 : Nat)))
 (2 : Int) == (1 : Int)) (req (decide ((0 : Nat) + List.length out ≤ List.length out)) (req (fitsN (List.length out + List.length (seg (0 : Nat) (1 : Nat) [i])) (8 : Nat)) (req (inR Go.IntKind.i64 (i + (1 : Int))) (req
 (decide ((0 : Nat) + (List.length out + List.length (seg (0 : Nat) (1 : Nat) [i])) ≤ List.length (seg (0 : Nat) (List.length out) out ++ seg (0 : Nat) (1 : Nat) [i]))) (Go.P9.mL (Go.P9.fGroups f) (i + (1 : Int)) <
 Go.P9.mL (Go.P9.fGroups f) i ∧ LC2.spec Go.P9.lc83 (bits, f, seg (0 : Nat) (List.length out + List.length (seg (0 : Nat) (1 : Nat) [i])) (seg (0 : Nat) (List.length out) out ++ seg (0 : Nat) (1 : Nat) [i]), i + (1 :
 Int), ()) Q))))) (req (inR Go.IntKind.i64 (i + (1 : Int))) (req (decide ((0 : Nat) + List.length out ≤ List.length out)) (Go.P9.mL (Go.P9.fGroups f) (i + (1 : Int)) < Go.P9.mL (Go.P9.fGroups f) i ∧ LC2.spec Go.P9.lc83
 (bits, f, seg (0 : Nat) (List.length out) out, i + (1 : Int), ()) Q))))) (req (decide ((0 : Nat) + List.length out ≤ List.length out)) (Q (AX.exit (0 : Nat)) (stS (1 : Nat) Go.P9.sh83e (seg (0 : Nat) (List.length out)
 out, ()))))) := by kernel_rfl
abbrev fc83 : FC := ⟨[.v TF, .v I], [L], fun x K => ((fGroups x.1).length ≤ 8) ∧ K (beginD (fGroups x.1).length x.2.1 0, ())⟩
theorem v83F (f : Fd) (bits : Int) (K : dens [L] → Prop) : (xfn1 Try.prog { l2 := [(83, 0, lc83)] } 5 83 fc83 (f, bits, ()) K) =
((List.length (Go.P9.fGroups f) ≤ (8 : Nat) ∧ (0 : Int) ≤ (0 : Int) ∧ (0 : Int) ≤ (↑(List.length (Go.P9.fGroups f)) : Int) ∧ (0 : Int) ≤ (0 : Int)) ∧ req (decide ((0 : Nat) + List.length ([] ++ Go.P9.beginD (List.length
 (Go.P9.fGroups f)) bits (0 : Int)) ≤ List.length ([] ++ Go.P9.beginD (List.length (Go.P9.fGroups f)) bits (0 : Int)))) (K (seg (0 : Nat) (List.length ([] ++ Go.P9.beginD (List.length (Go.P9.fGroups f)) bits (0 : Int)))
 ([] ++ Go.P9.beginD (List.length (Go.P9.fGroups f)) bits (0 : Int)), ()))) := by kernel_rfl
/-! the worst -/
abbrev sh73 : SV := S [(1, .v I), (2, bF), (6, .v L), (7, .v I), (8, .v I)]
abbrev sh73e : SV := S [(6, .v L), (7, .v I)]
abbrev sh73x : SV := S [(1, .v I), (2, bF), (6, .v L), (7, .v I), (8, .v I), (9, .v L), (11, .v I)]
abbrev sh73b : SV := S [(1, .v I), (2, bF), (6, .v L), (7, .v I), (8, .v I), (9, .v L), (10, .v L), (11, .v I), (12, .v I)]
def s73b (day : Int) (f : Fd) (best : List Int) (most bits : Int) (l s : List Int) (n i : Int) (Q : LQ) : Prop :=
  (okF f = true ∧ 0 ≤ i ∧ i ≤ (fGroups f).length ∧ s.length = (fGroups f).length ∧ (∀ k : Int, 0 ≤ k → k < (fGroups f).length → sOk s k) ∧ 0 ≤ day ∧ day ≤ 12 ∧ 0 ≤ n ∧ n ≤ 1073741824 * i) ∧
  Q (.exit 2) (stS 1 sh73x (day, f, best, most, bits, l, n + tkSum (fGroups f) s day i, ()))
abbrev lc73b : LC2 := ⟨0, sh73b, 1, fun (day, f, best, most, bits, l, s, n, i, _) Q => s73b day f best most bits l s n i Q⟩
theorem v73b (day : Int) (f : Fd) (best : List Int) (most bits : Int) (l s : List Int) (n i : Int) (Q : AX → St → Prop) : (xloop2 Try.prog { f := [(84, fc84)] } 5 73 1 lc73b (fun _ => some (sh73x, 1)) (fun (_, _, _, _, _, _, s, _, i, _) => mL s i) (day, f, best, most, bits, l, s, n, i, ()) Q) =
(fork (decide (i < (↑(List.length s) : Int))) (req (decide ((0 : Int) ≤ i ∧ i < (↑(List.length (Prod.fst (Prod.snd (Prod.snd (Prod.snd (Prod.snd (Prod.snd f))))))) : Int))) (req (decide ((0 : Int) ≤ i ∧ i <
 (↑(List.length s) : Int))) ((Go.P9.grpOk (List.getD (Prod.fst (Prod.snd (Prod.snd (Prod.snd (Prod.snd (Prod.snd f)))))) (Int.toNat i) ((0 : Int), (0 : Int), (0 : Int))) = Bool.true ∧ (-1 : AT.den (AT.v Go.P9.I)) ≤
 List.getD s (Int.toNat i) (0 : Int) ∧ List.getD s (Int.toNat i) (0 : Int) ≤ (96 : AT.den (AT.v Go.P9.I)) ∧ (0 : AT.den (AT.v Go.P9.I)) ≤ day ∧ day ≤ (12 : AT.den (AT.v Go.P9.I))) ∧ req (inR Go.IntKind.i64 (n + Go.P9.tkI
 (List.getD (Prod.fst (Prod.snd (Prod.snd (Prod.snd (Prod.snd (Prod.snd f)))))) (Int.toNat i) ((0 : Int), (0 : Int), (0 : Int))) (List.getD s (Int.toNat i) (0 : Int)) day)) (req (inR Go.IntKind.i64 (i + (1 : Int)))
 (Go.P9.mL s (i + (1 : Int)) < Go.P9.mL s i ∧ LC2.spec Go.P9.lc73b (day, f, best, most, bits, l, s, n + Go.P9.tkI (List.getD (Prod.fst (Prod.snd (Prod.snd (Prod.snd (Prod.snd (Prod.snd f)))))) (Int.toNat i) ((0 : Int), (0
 : Int), (0 : Int))) (List.getD s (Int.toNat i) (0 : Int)) day, i + (1 : Int), ()) Q))))) (Q (AX.exit (2 : Nat)) (stS (1 : Nat) Go.P9.sh73x (day, f, best, most, bits, l, n, ())))) := by kernel_rfl
def updR (f : Fd) (day : Int) (x : List Int × Int) (bits : Int) : List Int × Int :=
  if (((beginD (fGroups f).length bits 0).length : Nat) : Int) > fBegin f then x
  else if takenL f (beginD (fGroups f).length bits 0) day > x.2 ∨ (takenL f (beginD (fGroups f).length bits 0) day = x.2 ∧ aheadI (beginD (fGroups f).length bits 0) x.1 = true) then (beginD (fGroups f).length bits 0, takenL f (beginD (fGroups f).length bits 0) day) else x
def runR (f : Fd) (day : Int) : Nat → Int → List Int × Int → List Int × Int
  | 0, _, x => x
  | k + 1, bits, x => runR f day k (bits + 1) (updR f day x bits)
def s73 (day : Int) (f : Fd) (best : List Int) (most bits : Int) (Q : LQ) : Prop :=
  (okF f = true ∧ 0 ≤ day ∧ day ≤ 12 ∧ 0 ≤ bits ∧ bits ≤ 2 ^ (fGroups f).length) ∧ Q (.exit 0) (stS 0 sh73e ((runR f day (2 ^ (fGroups f).length - bits).toNat bits (best, most)).1, (runR f day (2 ^ (fGroups f).length - bits).toNat bits (best, most)).2, ()))
abbrev lc73 : LC2 := ⟨0, sh73, 1, fun (day, f, best, most, bits, _) Q => s73 day f best most bits Q⟩
theorem v73a (day : Int) (f : Fd) (best : List Int) (most bits : Int) (Q : AX → St → Prop) : (xloop2 Try.prog { f := [(83, fc83), (69, fc69), (34, fcAhead)], l2 := [(73, 1, lc73b)] } 5 73 0 lc73 (fun _ => some (sh73e, 0)) (fun (_, f, _, _, bits, _) => (2 ^ (fGroups f).length - bits).toNat) (day, f, best, most, bits, ()) Q) =
(req (inR Go.IntKind.i64 ((1 : Int) * (2 : Int) ^ Min.min (Int.toNat (↑(List.length (Prod.fst (Prod.snd (Prod.snd (Prod.snd (Prod.snd (Prod.snd f))))))) : Int)) (64 : Nat))) (fork (decide (bits < (1 : Int) * (2 : Int) ^
 Min.min (Int.toNat (↑(List.length (Prod.fst (Prod.snd (Prod.snd (Prod.snd (Prod.snd (Prod.snd f))))))) : Int)) (64 : Nat))) (List.length (Go.P9.fGroups f) ≤ (8 : Nat) ∧ fork (decide ((↑(List.length (Go.P9.beginD
 (List.length (Go.P9.fGroups f)) bits (0 : Int))) : Int) > Prod.fst (Prod.snd (Prod.snd (Prod.snd (Prod.snd (Prod.snd (Prod.snd (Prod.snd f))))))))) (req (inR Go.IntKind.i64 (bits + (1 : Int))) (Int.toNat ((2 : SV.den
 (SV.slot (8 : Nat) (SV.v Go.P9.I))) ^ List.length (Go.P9.fGroups f) - (bits + (1 : Int))) < Int.toNat ((2 : SV.den (SV.slot (8 : Nat) (SV.v Go.P9.I))) ^ List.length (Go.P9.fGroups f) - bits) ∧ LC2.spec Go.P9.lc73 (day,
 f, best, most, bits + (1 : Int), ()) Q)) ((Go.P9.okF f = Bool.true ∧ List.length (Go.P9.beginD (List.length (Go.P9.fGroups f)) bits (0 : Int)) ≤ (9223372036854775807 : Nat)) ∧ (Go.P9.okF f = Bool.true ∧ (0 : Int) ≤ (0 :
 Int) ∧ (0 : Int) ≤ (↑(List.length (Go.P9.fGroups f)) : Int) ∧ List.length (Go.P9.startsL f (Go.P9.beginD (List.length (Go.P9.fGroups f)) bits (0 : Int))) = List.length (Go.P9.fGroups f) ∧ (∀ (k : Int), (0 : Int) ≤ k → k
 < (↑(List.length (Go.P9.fGroups f)) : Int) → Go.P9.sOk (Go.P9.startsL f (Go.P9.beginD (List.length (Go.P9.fGroups f)) bits (0 : Int))) k) ∧ (0 : Int) ≤ day ∧ day ≤ (12 : Int) ∧ (0 : Int) ≤ (0 : Int) ∧ (0 : Int) ≤ (0 :
 Int)) ∧ fork (decide ((0 : Int) + Go.P9.tkSum (Go.P9.fGroups f) (Go.P9.startsL f (Go.P9.beginD (List.length (Go.P9.fGroups f)) bits (0 : Int))) day (0 : Int) > most)) (req (inR Go.IntKind.i64 (bits + (1 : Int)))
 (Int.toNat ((2 : SV.den (SV.slot (8 : Nat) (SV.v Go.P9.I))) ^ List.length (Go.P9.fGroups f) - (bits + (1 : Int))) < Int.toNat ((2 : SV.den (SV.slot (8 : Nat) (SV.v Go.P9.I))) ^ List.length (Go.P9.fGroups f) - bits) ∧
 LC2.spec Go.P9.lc73 (day, f, Go.P9.beginD (List.length (Go.P9.fGroups f)) bits (0 : Int), (0 : Int) + Go.P9.tkSum (Go.P9.fGroups f) (Go.P9.startsL f (Go.P9.beginD (List.length (Go.P9.fGroups f)) bits (0 : Int))) day (0 :
 Int), bits + (1 : Int), ()) Q)) (fork ((0 : Int) + Go.P9.tkSum (Go.P9.fGroups f) (Go.P9.startsL f (Go.P9.beginD (List.length (Go.P9.fGroups f)) bits (0 : Int))) day (0 : Int) == most) (List.length (Go.P9.beginD
 (List.length (Go.P9.fGroups f)) bits (0 : Int)) ≤ (9223372036854775807 : Nat) ∧ fork (Go.P9.aheadI (Go.P9.beginD (List.length (Go.P9.fGroups f)) bits (0 : Int)) best) (req (inR Go.IntKind.i64 (bits + (1 : Int)))
 (Int.toNat ((2 : SV.den (SV.slot (8 : Nat) (SV.v Go.P9.I))) ^ List.length (Go.P9.fGroups f) - (bits + (1 : Int))) < Int.toNat ((2 : SV.den (SV.slot (8 : Nat) (SV.v Go.P9.I))) ^ List.length (Go.P9.fGroups f) - bits) ∧
 LC2.spec Go.P9.lc73 (day, f, Go.P9.beginD (List.length (Go.P9.fGroups f)) bits (0 : Int), (0 : Int) + Go.P9.tkSum (Go.P9.fGroups f) (Go.P9.startsL f (Go.P9.beginD (List.length (Go.P9.fGroups f)) bits (0 : Int))) day (0 :
 Int), bits + (1 : Int), ()) Q)) (req (inR Go.IntKind.i64 (bits + (1 : Int))) (Int.toNat ((2 : SV.den (SV.slot (8 : Nat) (SV.v Go.P9.I))) ^ List.length (Go.P9.fGroups f) - (bits + (1 : Int))) < Int.toNat ((2 : SV.den
 (SV.slot (8 : Nat) (SV.v Go.P9.I))) ^ List.length (Go.P9.fGroups f) - bits) ∧ LC2.spec Go.P9.lc73 (day, f, best, most, bits + (1 : Int), ()) Q))) (req (inR Go.IntKind.i64 (bits + (1 : Int))) (Int.toNat ((2 : SV.den
 (SV.slot (8 : Nat) (SV.v Go.P9.I))) ^ List.length (Go.P9.fGroups f) - (bits + (1 : Int))) < Int.toNat ((2 : SV.den (SV.slot (8 : Nat) (SV.v Go.P9.I))) ^ List.length (Go.P9.fGroups f) - bits) ∧ LC2.spec Go.P9.lc73 (day,
 f, best, most, bits + (1 : Int), ()) Q))))) (Q (AX.exit (0 : Nat)) (stS (0 : Nat) Go.P9.sh73e (best, most, ()))))) := by kernel_rfl
theorem v73F (f : Fd) (day : Int) (K : dens [L, I] → Prop) : (xfn1 Try.prog { l2 := [(73, 0, lc73)] } 5 73 fcWorst (f, day, ()) K) =
((Go.P9.okF f = Bool.true ∧ (0 : Int) ≤ day ∧ day ≤ (12 : Int) ∧ (0 : Int) ≤ (0 : Int) ∧ (0 : Int) ≤ (2 : Int) ^ List.length (Go.P9.fGroups f)) ∧ K (Prod.fst (Go.P9.runR f day (Int.toNat ((2 : Int) ^ List.length
 (Go.P9.fGroups f) - (0 : Int))) (0 : Int) ([], (-1 : Int))), Prod.snd (Go.P9.runR f day (Int.toNat ((2 : Int) ^ List.length (Go.P9.fGroups f) - (0 : Int))) (0 : Int) ([], (-1 : Int))), ())) := by kernel_rfl
end Go.P9
