/- Funds: the reference's least plan, capital, groups: states and what is to be shown, reduced. No conditions. -/
import Derived.Test.YtklleedcdjkpeaaLeastS
set_option linter.unusedSimpArgs false
set_option linter.unusedVariables false
set_option linter.constructorNameAsVariable false
set_option maxRecDepth 100000
set_option maxHeartbeats 2000000
namespace Go.P9
open Go.Lom Go.Proofs Go

abbrev AM : Ty := .ar 65 I
abbrev sh77 : SV := S [(0, .arr 0 I), (1, .arr 1 I), (2, .v I)]
abbrev sh77e : SV := S [(0, .arr 0 I), (1, .arr 1 I)]
def s77 (z a : List Int) (i : Int) (Q : LQ) : Prop := (z.length = 65 ∧ a.length = 65 ∧ 0 ≤ i ∧ i ≤ 65) ∧ Q (.exit 0) (stS 2 sh77e (z, a.take i.toNat ++ List.replicate (65 - i.toNat) (-1), ()))
abbrev lc77 : LC2 := ⟨0, sh77, 2, fun (z, a, i, _) Q => s77 z a i Q⟩
theorem v77L (z a : List Int) (i : Int) (Q : AX → St → Prop) : (xloop2 Try.prog {} 5 77 0 lc77 (fun _ => some (sh77e, 2)) (fun (_, _, i, _) => (65 - i).toNat) (z, a, i, ()) Q) =
(fork (decide (i < (65 : Int))) (req (decide ((0 : Int) ≤ i ∧ i < (65 : Int))) (req (decide ((0 : Nat) + Int.toNat i < List.length a)) (req (inR Go.IntKind.i64 (i + (1 : Int))) (Int.toNat ((65 : SV.den (SV.slot (2 : Nat)
 (SV.v Go.P9.I))) - (i + (1 : Int))) < Int.toNat ((65 : SV.den (SV.slot (2 : Nat) (SV.v Go.P9.I))) - i) ∧ LC2.spec Go.P9.lc77 (z, List.set a ((0 : Nat) + Int.toNat i) (-1 : Int), i + (1 : Int), ()) Q)))) (Q (AX.exit (0 :
 Nat)) (stS (2 : Nat) Go.P9.sh77e (z, a, ())))) := by kernel_rfl
abbrev fcNone : FC := ⟨[], [AM], fun x K => ∀ r : List Int, r = List.replicate 65 (-1) → K (r, ())⟩
theorem v77F (K : dens [AM] → Prop) : (xfn1 Try.prog { l2 := [(77, 0, lc77)] } 5 77 fcNone () K) =
(((65 : Nat) = (65 : Nat) ∧ (65 : Nat) = (65 : Nat) ∧ (0 : Int) ≤ (0 : Int) ∧ (0 : Int) ≤ (65 : Int)) ∧ K (List.take (0 : Nat) [(0 : Int), (0 : Int), (0 : Int), (0 : Int), (0 : Int), (0 : Int), (0 : Int), (0 : Int), (0 :
 Int), (0 : Int), (0 : Int), (0 : Int), (0 : Int), (0 : Int), (0 : Int), (0 : Int), (0 : Int), (0 : Int), (0 : Int), (0 : Int), (0 : Int), (0 : Int), (0 : Int), (0 : Int), (0 : Int), (0 : Int), (0 : Int), (0 : Int), (0 :
 Int), (0 : Int), (0 : Int), (0 : Int), (0 : Int), (0 : Int), (0 : Int), (0 : Int), (0 : Int), (0 : Int), (0 : Int), (0 : Int), (0 : Int), (0 : Int), (0 : Int), (0 : Int), (0 : Int), (0 : Int), (0 : Int), (0 : Int), (0 :
 Int), (0 : Int), (0 : Int), (0 : Int), (0 : Int), (0 : Int), (0 : Int), (0 : Int), (0 : Int), (0 : Int), (0 : Int), (0 : Int), (0 : Int), (0 : Int), (0 : Int), (0 : Int), (0 : Int)] ++ List.replicate (65 : Nat) (-1 :
 Int), ())) := by kernel_rfl

/-! what can have been brought -/
abbrev gM (m : List Int) (j : Int) : Int := m.getD j.toNat 0
/-- So far the sources below i, and i itself with fewer than k bars. -/
def befo (i k i' c : Int) : Prop := i' < i ∨ (i' = i ∧ c < k)
structure PartM (f : Fd) (need t : Int) (m nx : List Int) (i k : Int) : Prop where
  low : ∀ j, 0 ≤ j → j ≤ fBars f → 0 ≤ gM nx j → ∃ i' c, 0 ≤ i' ∧ 0 ≤ gM m i' ∧ 0 ≤ c ∧ c ≤ slF f t ∧ i' + c = j ∧ need ≤ gM m i' + c * prF f t ∧ gM nx j = gM m i' + c * prF f t
  all : ∀ i' c, befo i k i' c → 0 ≤ i' → 0 ≤ gM m i' → 0 ≤ c → c ≤ slF f t → i' + c ≤ fBars f → need ≤ gM m i' + c * prF f t → gM m i' + c * prF f t ≤ gM nx (i' + c)
def bdM (m : List Int) (t : Int) : Prop := m.length = 65 ∧ ∀ j, 0 ≤ j → j < 65 → gM m j ≤ 1073741824 + 67108864 * t
def okM (f : Fd) (ns m : List Int) (t : Int) : Prop := needB f ns (fBars f) ∧ 0 ≤ t ∧ t ≤ ns.length ∧ bdM m t
def soldP (f : Fd) (ns : List Int) (t : Int) (m r : List Int) : Prop := r.length = 65 ∧ ∀ b, 0 ≤ b → b ≤ fBars f → (0 ≤ gM r b ↔ ∃ i, 0 ≤ i ∧ i ≤ fBars f ∧ 0 ≤ gM m i ∧ feas (prF f) (slF f) (· = b) (ns.drop t.toNat) t i (gM m i))
abbrev sh59a : SV := S [(1, .v L), (5, bF), (10, .arr 1 I), (11, .arr 2 I), (12, .v I)]
abbrev sh59e : SV := S [(10, .arr 0 I), (11, .arr 1 I)]
abbrev sh59b : SV := S [(1, .v L), (5, bF), (10, .arr 1 I), (11, .arr 2 I), (12, .v I), (13, .arr 3 I), (14, .v I)]
abbrev sh59x : SV := S [(1, .v L), (5, bF), (10, .arr 1 I), (11, .arr 2 I), (12, .v I), (13, .arr 3 I)]
abbrev sh59c : SV := S [(1, .v L), (5, bF), (10, .arr 1 I), (11, .arr 2 I), (12, .v I), (13, .arr 3 I), (14, .v I), (15, .v I)]
def s59c (ns : List Int) (f : Fd) (z m : List Int) (t : Int) (nx : List Int) (i k : Int) (Q : LQ) : Prop :=
  (okM f ns m t ∧ t < ns.length ∧ 0 ≤ i ∧ i ≤ fBars f ∧ 0 ≤ k ∧ k ≤ 65 ∧ bdM nx (t + 1) ∧ PartM f (ns.getD t.toNat 0) t m nx i k) ∧
  ∀ nx', bdM nx' (t + 1) → PartM f (ns.getD t.toNat 0) t m nx' (i + 1) 0 → Q (.exit 4) (stS 4 sh59b (ns, f, z, m, t, nx', i, ()))
abbrev lc59c : LC2 := ⟨0, sh59c, 4, fun (ns, f, z, m, t, nx, i, k, _) Q => s59c ns f z m t nx i k Q⟩
theorem v59c (ns : List Int) (f : Fd) (z m : List Int) (t : Int) (nx : List Int) (i k : Int) (Q : AX → St → Prop) : (xloop2 Try.prog {} 5 59 2 lc59c (fun _ => some (sh59b, 4)) (fun (_, _, _, _, _, _, _, k, _) => (66 - k).toNat) (ns, f, z, m, t, nx, i, k, ()) Q) =
(req (decide ((0 : Int) ≤ i ∧ i < (65 : Int))) (req (decide ((0 : Nat) + Int.toNat i < List.length m)) (fork (decide (List.getD m ((0 : Nat) + Int.toNat i) (0 : Int) ≥ (0 : Int))) (req (decide ((0 : Int) ≤ t ∧ t <
 (↑(List.length (Prod.fst (Prod.snd (Prod.snd (Prod.snd f))))) : Int))) (fork (decide (k ≤ List.getD (Prod.fst (Prod.snd (Prod.snd (Prod.snd f)))) (Int.toNat t) (0 : Int))) (req (inR Go.IntKind.i64 (i + k)) (fork (decide
 (i + k ≤ Prod.snd (Prod.snd (Prod.snd (Prod.snd (Prod.snd (Prod.snd (Prod.snd (Prod.snd f))))))))) (req (decide ((0 : Int) ≤ i ∧ i < (65 : Int))) (req (decide ((0 : Nat) + Int.toNat i < List.length m)) (req (decide ((0 :
 Int) ≤ t ∧ t < (↑(List.length (Prod.fst (Prod.snd (Prod.snd (Prod.snd (Prod.snd f)))))) : Int))) (req (inR Go.IntKind.i64 (k * Prod.fst (List.getD (Prod.fst (Prod.snd (Prod.snd (Prod.snd (Prod.snd f))))) (Int.toNat t)
 ((0 : Int), (0 : Int))))) (req (inR Go.IntKind.i64 (List.getD m ((0 : Nat) + Int.toNat i) (0 : Int) + k * Prod.fst (List.getD (Prod.fst (Prod.snd (Prod.snd (Prod.snd (Prod.snd f))))) (Int.toNat t) ((0 : Int), (0 :
 Int))))) (req (decide ((0 : Int) ≤ t ∧ t < (↑(List.length ns) : Int))) (fork (decide (List.getD m ((0 : Nat) + Int.toNat i) (0 : Int) + k * Prod.fst (List.getD (Prod.fst (Prod.snd (Prod.snd (Prod.snd (Prod.snd f)))))
 (Int.toNat t) ((0 : Int), (0 : Int))) ≥ List.getD ns (Int.toNat t) (0 : Int))) (req (inR Go.IntKind.i64 (i + k)) (req (decide ((0 : Int) ≤ i + k ∧ i + k < (65 : Int))) (req (decide ((0 : Nat) + Int.toNat (i + k) <
 List.length nx)) (fork (decide (List.getD m ((0 : Nat) + Int.toNat i) (0 : Int) + k * Prod.fst (List.getD (Prod.fst (Prod.snd (Prod.snd (Prod.snd (Prod.snd f))))) (Int.toNat t) ((0 : Int), (0 : Int))) > List.getD nx ((0
 : Nat) + Int.toNat (i + k)) (0 : Int))) (req (inR Go.IntKind.i64 (i + k)) (req (decide ((0 : Int) ≤ i + k ∧ i + k < (65 : Int))) (req (decide ((0 : Nat) + Int.toNat (i + k) < List.length nx)) (req (inR Go.IntKind.i64 (k
 + (1 : Int))) (Int.toNat ((66 : SV.den (SV.slot (15 : Nat) (SV.v Go.P9.I))) - (k + (1 : Int))) < Int.toNat ((66 : SV.den (SV.slot (15 : Nat) (SV.v Go.P9.I))) - k) ∧ LC2.spec Go.P9.lc59c (ns, f, z, m, t, List.set nx ((0 :
 Nat) + Int.toNat (i + k)) (List.getD m ((0 : Nat) + Int.toNat i) (0 : Int) + k * Prod.fst (List.getD (Prod.fst (Prod.snd (Prod.snd (Prod.snd (Prod.snd f))))) (Int.toNat t) ((0 : Int), (0 : Int)))), i, k + (1 : Int), ())
 Q))))) (req (inR Go.IntKind.i64 (k + (1 : Int))) (Int.toNat ((66 : SV.den (SV.slot (15 : Nat) (SV.v Go.P9.I))) - (k + (1 : Int))) < Int.toNat ((66 : SV.den (SV.slot (15 : Nat) (SV.v Go.P9.I))) - k) ∧ LC2.spec Go.P9.lc59c
 (ns, f, z, m, t, nx, i, k + (1 : Int), ()) Q)))))) (req (inR Go.IntKind.i64 (k + (1 : Int))) (Int.toNat ((66 : SV.den (SV.slot (15 : Nat) (SV.v Go.P9.I))) - (k + (1 : Int))) < Int.toNat ((66 : SV.den (SV.slot (15 : Nat)
 (SV.v Go.P9.I))) - k) ∧ LC2.spec Go.P9.lc59c (ns, f, z, m, t, nx, i, k + (1 : Int), ()) Q))))))))) (Q (AX.exit (4 : Nat)) (stS (4 : Nat) Go.P9.sh59b (ns, f, z, m, t, nx, i, ()))))) (Q (AX.exit (4 : Nat)) (stS (4 : Nat)
 Go.P9.sh59b (ns, f, z, m, t, nx, i, ()))))) (Q (AX.exit (4 : Nat)) (stS (4 : Nat) Go.P9.sh59b (ns, f, z, m, t, nx, i, ())))))) := by kernel_rfl
def s59b (ns : List Int) (f : Fd) (z m : List Int) (t : Int) (nx : List Int) (i : Int) (Q : LQ) : Prop :=
  (okM f ns m t ∧ t < ns.length ∧ 0 ≤ i ∧ i ≤ fBars f + 1 ∧ bdM nx (t + 1) ∧ PartM f (ns.getD t.toNat 0) t m nx i 0) ∧
  ∀ nx', bdM nx' (t + 1) → PartM f (ns.getD t.toNat 0) t m nx' (fBars f + 1) 0 → Q (.exit 2) (stS 4 sh59x (ns, f, z, m, t, nx', ()))
abbrev lc59b : LC2 := ⟨0, sh59b, 4, fun (ns, f, z, m, t, nx, i, _) Q => s59b ns f z m t nx i Q⟩
theorem v59b (ns : List Int) (f : Fd) (z m : List Int) (t : Int) (nx : List Int) (i : Int) (Q : AX → St → Prop) : (xloop2 Try.prog { l2 := [(59, 2, lc59c)] } 5 59 1 lc59b (fun _ => some (sh59x, 4)) (fun (_, _, _, _, _, _, i, _) => (66 - i).toNat) (ns, f, z, m, t, nx, i, ()) Q) =
(fork (decide (i ≤ Prod.snd (Prod.snd (Prod.snd (Prod.snd (Prod.snd (Prod.snd (Prod.snd (Prod.snd f))))))))) ((Go.P9.okM f ns m t ∧ t < (↑(List.length ns) : Int) ∧ (0 : Int) ≤ i ∧ i ≤ Go.P9.fBars f ∧ (0 : Int) ≤ (0 :
 Int) ∧ (0 : Int) ≤ (65 : Int) ∧ Go.P9.bdM nx (t + (1 : Int)) ∧ Go.P9.PartM f (List.getD ns (Int.toNat t) (0 : Int)) t m nx i (0 : Int)) ∧ ∀ (nx' : List Int), Go.P9.bdM nx' (t + (1 : Int)) → Go.P9.PartM f (List.getD ns
 (Int.toNat t) (0 : Int)) t m nx' (i + (1 : Int)) (0 : Int) → req (inR Go.IntKind.i64 (i + (1 : Int))) (Int.toNat ((66 : SV.den (SV.slot (14 : Nat) (SV.v Go.P9.I))) - (i + (1 : Int))) < Int.toNat ((66 : SV.den (SV.slot
 (14 : Nat) (SV.v Go.P9.I))) - i) ∧ LC2.spec Go.P9.lc59b (ns, f, z, m, t, nx', i + (1 : Int), ()) Q)) (Q (AX.exit (2 : Nat)) (stS (4 : Nat) Go.P9.sh59x (ns, f, z, m, t, nx, ())))) := by kernel_rfl
def s59a (ns : List Int) (f : Fd) (z m : List Int) (t : Int) (Q : LQ) : Prop :=
  (okM f ns m t ∧ z.length = 65) ∧ ∀ r, soldP f ns t m r → Q (.exit 0) (stS 2 sh59e (z, r, ()))
abbrev lc59a : LC2 := ⟨0, sh59a, 3, fun (ns, f, z, m, t, _) Q => s59a ns f z m t Q⟩
theorem v59a (ns : List Int) (f : Fd) (z m : List Int) (t : Int) (Q : AX → St → Prop) : (xloop2 Try.prog { f := [(77, fcNone)], l2 := [(59, 1, lc59b)] } 5 59 0 lc59a (fun _ => some (sh59e, 2)) (fun (ns, _, _, _, t, _) => mL ns t) (ns, f, z, m, t, ()) Q) =
(fork (decide (t < (↑(List.length ns) : Int))) (∀ (r : List Int), r = List.replicate (65 : Nat) (-1 : Int) → req (decide (List.length r = (65 : Nat))) (req (decide (List.length r = (65 : Nat))) ((Go.P9.okM f ns m t ∧ t <
 (↑(List.length ns) : Int) ∧ (0 : Int) ≤ (0 : Int) ∧ (0 : Int) ≤ Go.P9.fBars f + (1 : Int) ∧ Go.P9.bdM r (t + (1 : Int)) ∧ Go.P9.PartM f (List.getD ns (Int.toNat t) (0 : Int)) t m r (0 : Int) (0 : Int)) ∧ ∀ (nx' : List
 Int), Go.P9.bdM nx' (t + (1 : Int)) → Go.P9.PartM f (List.getD ns (Int.toNat t) (0 : Int)) t m nx' (Go.P9.fBars f + (1 : Int)) (0 : Int) → req (decide (List.length nx' = (65 : Nat))) (req (decide (List.length nx' = (65 :
 Nat))) (req (decide (List.length nx' = List.length m)) (req (inR Go.IntKind.i64 (t + (1 : Int))) (Go.P9.mL ns (t + (1 : Int)) < Go.P9.mL ns t ∧ LC2.spec Go.P9.lc59a (ns, f, z, nx', t + (1 : Int), ()) Q))))))) (Q (AX.exit
 (0 : Nat)) (stS (2 : Nat) Go.P9.sh59e (z, m, ())))) := by kernel_rfl
abbrev fcSold : FC := ⟨[.v TF, .v L, .v I, .v I, .v I], [AM], fun (f, ns, t, b, br, _) K => (needB f ns (fBars f) ∧ 0 ≤ t ∧ t ≤ ns.length ∧ 0 ≤ b ∧ b ≤ fBars f ∧ 0 ≤ br ∧ br ≤ 1073741824) ∧
  ∀ r : List Int, r.length = 65 → (∀ b', 0 ≤ b' → b' ≤ fBars f → (0 ≤ gM r b' ↔ feas (prF f) (slF f) (· = b') (ns.drop t.toNat) t b br)) → K (r, ())⟩
theorem v59F (f : Fd) (ns : List Int) (t b br : Int) (K : dens [AM] → Prop) : (xfn1 Try.prog { f := [(77, fcNone)], l2 := [(59, 0, lc59a)] } 5 59 fcSold (f, ns, t, b, br, ()) K) =
(∀ (r : List Int), r = List.replicate (65 : Nat) (-1 : Int) → req (decide (List.length r = (65 : Nat))) (req (decide (List.length r = (65 : Nat))) (req (decide ((0 : Int) ≤ b ∧ b < (65 : Int))) (req (decide ((0 : Nat) +
 Int.toNat b < List.length r)) ((Go.P9.okM f ns (List.set r ((0 : Nat) + Int.toNat b) br) t ∧ (65 : Nat) = (65 : Nat)) ∧ ∀ (r_1 : List Int), Go.P9.soldP f ns t (List.set r ((0 : Nat) + Int.toNat b) br) r_1 → req (decide
 (List.length r_1 = (65 : Nat))) (req (decide (List.length r_1 = (65 : Nat))) (req (decide (List.length r_1 = (65 : Nat))) (req (decide (List.length r_1 = (65 : Nat))) (req (decide (List.length r_1 = (65 : Nat))) (K (r_1,
 ()))))))))))) := by kernel_rfl

/-! the fewest -/
abbrev sh58 : SV := S [(2, bF), (5, .arr 1 I), (6, .v I)]
def ex58 : Ex2
  | .ret => some (S [(4, .v I)], 0)
  | _ => some (.nil, 0)
abbrev lc58 (ns : List Int) : LC2 := ⟨0, sh58, 2, fun (f, r, i, _) Q => (okF f = true ∧ r.length = 65 ∧ 0 ≤ i ∧ i ≤ fBars f + 1 ∧ (∀ b, 0 ≤ b → b ≤ fBars f → (0 ≤ gM r b ↔ askF f ns b true 0 0 ≤ 0))) ∧
  (fewI f ns (fBars f + 1 - i).toNat i < 0 → Q (.exit 0) (stS 0 .nil ())) ∧ (∀ v, v = fewI f ns (fBars f + 1 - i).toNat i → 0 ≤ v → Q .ret (stS 0 (S [(4, .v I)]) (v, ())))⟩
theorem v58L (ns : List Int) (f : Fd) (r : List Int) (i : Int) (Q : AX → St → Prop) : (xloop2 Try.prog {} 5 58 0 (lc58 ns) ex58 (fun (_, _, i, _) => (66 - i).toNat) (f, r, i, ()) Q) =
(fork (decide (i ≤ Prod.snd (Prod.snd (Prod.snd (Prod.snd (Prod.snd (Prod.snd (Prod.snd (Prod.snd f))))))))) (req (decide ((0 : Int) ≤ i ∧ i < (65 : Int))) (req (decide ((0 : Nat) + Int.toNat i < List.length r)) (fork
 (decide (List.getD r ((0 : Nat) + Int.toNat i) (0 : Int) ≥ (0 : Int))) (Q AX.ret (stS (0 : Nat) (Go.P9.S [((4 : Nat), SV.v Go.P9.I)]) (i, ()))) (req (inR Go.IntKind.i64 (i + (1 : Int))) (Int.toNat ((66 : SV.den (SV.slot
 (6 : Nat) (SV.v Go.P9.I))) - (i + (1 : Int))) < Int.toNat ((66 : SV.den (SV.slot (6 : Nat) (SV.v Go.P9.I))) - i) ∧ LC2.spec (Go.P9.lc58 ns) (f, r, i + (1 : Int), ()) Q))))) (Q (AX.exit (0 : Nat)) (stS (0 : Nat) SV.nil
 ()))) := by kernel_rfl
abbrev fcFew : FC := ⟨[.v TF, .v L], [I], fun (f, ns, _) K => needB f ns (fBars f) ∧ ∀ v, v = fewN f ns → K (v, ())⟩
theorem v58F (f : Fd) (ns : List Int) (K : dens [I] → Prop) : (xfn1 Try.prog { f := [(59, fcSold)], l2 := [(58, 0, lc58 ns)] } 5 58 fcFew (f, ns, ()) K) =
((Go.P9.needB f ns (Go.P9.fBars f) ∧ (0 : AT.den (AT.v Go.P9.I)) ≤ (0 : Int) ∧ (0 : Int) ≤ (↑(List.length ns) : AT.den (AT.v Go.P9.I)) ∧ (0 : AT.den (AT.v Go.P9.I)) ≤ (0 : Int) ∧ (0 : Int) ≤ Go.P9.fBars f ∧ (0 : AT.den
 (AT.v Go.P9.I)) ≤ (0 : Int) ∧ (0 : Int) ≤ (1073741824 : AT.den (AT.v Go.P9.I))) ∧ ∀ (r : List Int), List.length r = (65 : Nat) → (∀ (b' : Int), (0 : Int) ≤ b' → b' ≤ Go.P9.fBars f → ((0 : Int) ≤ Go.P9.gM r b' ↔
 Go.P9.feas (Go.P9.prF f) (Go.P9.slF f) (fun x => x = b') (List.drop (0 : Nat) ns) (0 : Int) (0 : Int) (0 : Int))) → req (decide (List.length r = (65 : Nat))) (req (decide (List.length r = (65 : Nat))) ((Go.P9.okF f =
 Bool.true ∧ List.length r = (65 : Nat) ∧ (0 : SV.den (SV.slot (6 : Nat) (SV.v Go.P9.I))) ≤ (0 : Int) ∧ (0 : Int) ≤ Go.P9.fBars f + (1 : SV.den (SV.slot (6 : Nat) (SV.v Go.P9.I))) ∧ ∀ (b : Int), (0 : Int) ≤ b → b ≤
 Go.P9.fBars f → ((0 : Int) ≤ Go.P9.gM r b ↔ Go.P9.askF f ns b Bool.true (0 : Int) (0 : Int) ≤ (0 : Int))) ∧ (Go.P9.fewI f ns (Int.toNat (Go.P9.fBars f + (1 : Int) - (0 : Int))) (0 : Int) < (0 : Int) → K ((-1 : Int), ()))
 ∧ ∀ (v : Int), v = Go.P9.fewI f ns (Int.toNat (Go.P9.fBars f + (1 : Int) - (0 : Int))) (0 : Int) → (0 : Int) ≤ v → K (v, ())))) := by kernel_rfl

/-! the least plan -/
abbrev sh21a : SV := S [(1, bF), (6, .v L), (7, .v I), (8, .own 1 I), (9, .v I), (10, .v I), (11, .v I)]
abbrev sh21e : SV := S [(7, .v I), (8, .own 0 I)]
abbrev sh21b : SV := S [(1, bF), (6, .v L), (7, .v I), (8, .own 1 I), (9, .v I), (10, .v I), (11, .v I), (12, .v I)]
def okQ (f : Fd) (ns : List Int) (B i k m : Int) (out : List Int) : Prop := needB f ns (fBars f) ∧ B ≤ fBars f ∧ okP f ns B i k m out
def s21b (f : Fd) (ns : List Int) (B : Int) (out : List Int) (k m i n : Int) (Q : LQ) : Prop :=
  (okQ f ns B i k m out ∧ i < ns.length ∧ 0 ≤ n ∧ n ≤ cF f ns B i k m) ∧ Q (.exit 2) (stS 2 sh21b (f, ns, B, out, k, m, i, cF f ns B i k m, ()))
abbrev lc21b : LC2 := ⟨0, sh21b, 2, fun (f, ns, B, out, k, m, i, n, _) Q => s21b f ns B out k m i n Q⟩
theorem v21b (f : Fd) (ns : List Int) (B : Int) (out : List Int) (k m i n : Int) (Q : AX → St → Prop) : (xloop2 Try.prog { f := [(30, fcFrom), (59, fcSold)] } 5 21 1 lc21b (fun _ => some (sh21b, 2)) (fun (_, _, _, _, _, _, _, n, _) => (66 - n).toNat) (f, ns, B, out, k, m, i, n, ()) Q) =
(req (decide ((0 : Int) ≤ i ∧ i < (↑(List.length (Prod.fst (Prod.snd (Prod.snd (Prod.snd f))))) : Int))) (fork (!decide ((0 : Int) ≤ n ∧ n ≤ List.getD (Prod.fst (Prod.snd (Prod.snd (Prod.snd f)))) (Int.toNat i) (0 :
 Int))) (req (inR Go.IntKind.i64 (n + (1 : Int))) (req (decide ((0 : Nat) + List.length out ≤ List.length out)) (Int.toNat ((66 : SV.den (SV.slot (12 : Nat) (SV.v Go.P9.I))) - (n + (1 : Int))) < Int.toNat ((66 : SV.den
 (SV.slot (12 : Nat) (SV.v Go.P9.I))) - n) ∧ LC2.spec Go.P9.lc21b (f, ns, B, seg (0 : Nat) (List.length out) out, k, m, i, n + (1 : Int), ()) Q))) (req (decide ((0 : Int) ≤ i ∧ i < (↑(List.length (Prod.fst (Prod.snd
 (Prod.snd (Prod.snd (Prod.snd f)))))) : Int))) (req (inR Go.IntKind.i64 (n * Prod.fst (List.getD (Prod.fst (Prod.snd (Prod.snd (Prod.snd (Prod.snd f))))) (Int.toNat i) ((0 : Int), (0 : Int))))) (req (inR Go.IntKind.i64
 (m + n * Prod.fst (List.getD (Prod.fst (Prod.snd (Prod.snd (Prod.snd (Prod.snd f))))) (Int.toNat i) ((0 : Int), (0 : Int))))) (req (decide ((0 : Int) ≤ i ∧ i < (↑(List.length ns) : Int))) (fork (decide (m + n * Prod.fst
 (List.getD (Prod.fst (Prod.snd (Prod.snd (Prod.snd (Prod.snd f))))) (Int.toNat i) ((0 : Int), (0 : Int))) < List.getD ns (Int.toNat i) (0 : Int))) (req (inR Go.IntKind.i64 (n + (1 : Int))) (req (decide ((0 : Nat) +
 List.length out ≤ List.length out)) (Int.toNat ((66 : SV.den (SV.slot (12 : Nat) (SV.v Go.P9.I))) - (n + (1 : Int))) < Int.toNat ((66 : SV.den (SV.slot (12 : Nat) (SV.v Go.P9.I))) - n) ∧ LC2.spec Go.P9.lc21b (f, ns, B,
 seg (0 : Nat) (List.length out) out, k, m, i, n + (1 : Int), ()) Q))) (req (inR Go.IntKind.i64 (i + (1 : Int))) (req (inR Go.IntKind.i64 (k + n)) (req (decide ((0 : Int) ≤ i ∧ i < (↑(List.length (Prod.fst (Prod.snd
 (Prod.snd (Prod.snd (Prod.snd f)))))) : Int))) (req (inR Go.IntKind.i64 (n * Prod.fst (List.getD (Prod.fst (Prod.snd (Prod.snd (Prod.snd (Prod.snd f))))) (Int.toNat i) ((0 : Int), (0 : Int))))) (req (inR Go.IntKind.i64
 (m + n * Prod.fst (List.getD (Prod.fst (Prod.snd (Prod.snd (Prod.snd (Prod.snd f))))) (Int.toNat i) ((0 : Int), (0 : Int))))) ((Go.P9.needB f ns (Go.P9.fBars f) ∧ (0 : AT.den (AT.v Go.P9.I)) ≤ i + (1 : Int) ∧ i + (1 :
 Int) ≤ (↑(List.length ns) : AT.den (AT.v Go.P9.I)) ∧ (0 : AT.den (AT.v Go.P9.I)) ≤ k + n ∧ k + n ≤ Go.P9.fBars f ∧ (0 : AT.den (AT.v Go.P9.I)) ≤ m + n * Prod.fst (List.getD (Prod.fst (Prod.snd (Prod.snd (Prod.snd
 (Prod.snd f))))) (Int.toNat i) ((0 : Int), (0 : Int))) ∧ m + n * Prod.fst (List.getD (Prod.fst (Prod.snd (Prod.snd (Prod.snd (Prod.snd f))))) (Int.toNat i) ((0 : Int), (0 : Int))) ≤ (1073741824 : AT.den (AT.v Go.P9.I)))
 ∧ ∀ (r : List Int), List.length r = (65 : Nat) → (∀ (b' : Int), (0 : Int) ≤ b' → b' ≤ Go.P9.fBars f → ((0 : Int) ≤ Go.P9.gM r b' ↔ Go.P9.feas (Go.P9.prF f) (Go.P9.slF f) (fun x => x = b') (List.drop (Int.toNat (i + (1 :
 Int))) ns) (i + (1 : Int)) (k + n) (m + n * Prod.fst (List.getD (Prod.fst (Prod.snd (Prod.snd (Prod.snd (Prod.snd f))))) (Int.toNat i) ((0 : Int), (0 : Int)))))) → req (decide ((0 : Int) ≤ B ∧ B < (65 : Int))) (req
 (decide (B < (↑(List.length r) : Int))) (fork (decide (List.getD r (Int.toNat B) (0 : Int) < (0 : Int))) (req (inR Go.IntKind.i64 (n + (1 : Int))) (req (decide ((0 : Nat) + List.length out ≤ List.length out)) (Int.toNat
 ((66 : SV.den (SV.slot (12 : Nat) (SV.v Go.P9.I))) - (n + (1 : Int))) < Int.toNat ((66 : SV.den (SV.slot (12 : Nat) (SV.v Go.P9.I))) - n) ∧ LC2.spec Go.P9.lc21b (f, ns, B, seg (0 : Nat) (List.length out) out, k, m, i, n
 + (1 : Int), ()) Q))) (req (decide ((0 : Nat) + List.length out ≤ List.length out)) (Q (AX.exit (2 : Nat)) (stS (2 : Nat) Go.P9.sh21b (f, ns, B, seg (0 : Nat) (List.length out) out, k, m, i, n, ()))))))))))))))))))) := by kernel_rfl
def s21a (f : Fd) (ns : List Int) (B : Int) (out : List Int) (k m i : Int) (Q : LQ) : Prop :=
  okQ f ns B i k m out ∧ Q (.exit 0) (stS 1 sh21e (B, out ++ plK f ns B i k m, ()))
abbrev lc21a : LC2 := ⟨0, sh21a, 2, fun (f, ns, B, out, k, m, i, _) Q => s21a f ns B out k m i Q⟩
theorem v21a (f : Fd) (ns : List Int) (B : Int) (out : List Int) (k m i : Int) (Q : AX → St → Prop) : (xloop2 Try.prog { l2 := [(21, 1, lc21b)] } 5 21 0 lc21a (fun _ => some (sh21e, 1)) (fun (_, ns, _, _, _, _, i, _) => mL ns i) (f, ns, B, out, k, m, i, ()) Q) =
(fork (decide (i < (↑(List.length ns) : Int))) (req (decide ((0 : Nat) + List.length out ≤ List.length out)) ((Go.P9.okQ f ns B i k m (seg (0 : Nat) (List.length out) out) ∧ i < (↑(List.length ns) : Int) ∧ (0 : Int) ≤ (0
 : Int) ∧ (0 : Int) ≤ Go.P9.cF f ns B i k m) ∧ req (decide ((0 : Nat) + List.length (seg (0 : Nat) (List.length out) out) ≤ List.length (seg (0 : Nat) (List.length out) out))) (req (fitsN (List.length (seg (0 : Nat)
 (List.length out) out) + List.length (seg (0 : Nat) (1 : Nat) [Go.P9.cF f ns B i k m])) (8 : Nat)) (req (inR Go.IntKind.i64 (k + Go.P9.cF f ns B i k m)) (req (decide ((0 : Int) ≤ i ∧ i < (↑(List.length (Prod.fst
 (Prod.snd (Prod.snd (Prod.snd (Prod.snd f)))))) : Int))) (req (inR Go.IntKind.i64 (Go.P9.cF f ns B i k m * Prod.fst (List.getD (Prod.fst (Prod.snd (Prod.snd (Prod.snd (Prod.snd f))))) (Int.toNat i) ((0 : Int), (0 :
 Int))))) (req (inR Go.IntKind.i64 (m + Go.P9.cF f ns B i k m * Prod.fst (List.getD (Prod.fst (Prod.snd (Prod.snd (Prod.snd (Prod.snd f))))) (Int.toNat i) ((0 : Int), (0 : Int))))) (AV.int Go.IntKind.i64 (Prod.fst
 (List.getD (Prod.fst (Prod.snd (Prod.snd (Prod.snd (Prod.snd f))))) (Int.toNat i) ((0 : Int), (0 : Int)))) = AV.int Go.IntKind.i64 (Prod.fst (List.getD (Prod.fst (Prod.snd (Prod.snd (Prod.snd (Prod.snd f))))) (Int.toNat
 i) ((0 : Int), (0 : Int)))) ∧ AV.rl Go.P9.Sp (Prod.fst (Prod.snd (Prod.snd (Prod.snd (Prod.snd f))))) = AV.rl Go.P9.Sp (Prod.fst (Prod.snd (Prod.snd (Prod.snd (Prod.snd f))))) ∧ req (inR Go.IntKind.i64 (i + (1 : Int)))
 (req (decide ((0 : Nat) + (List.length (seg (0 : Nat) (List.length out) out) + List.length (seg (0 : Nat) (1 : Nat) [Go.P9.cF f ns B i k m])) ≤ List.length (seg (0 : Nat) (List.length (seg (0 : Nat) (List.length out)
 out)) (seg (0 : Nat) (List.length out) out) ++ seg (0 : Nat) (1 : Nat) [Go.P9.cF f ns B i k m]))) (Go.P9.mL ns (i + (1 : Int)) < Go.P9.mL ns i ∧ LC2.spec Go.P9.lc21a (f, ns, B, seg (0 : Nat) (List.length (seg (0 : Nat)
 (List.length out) out) + List.length (seg (0 : Nat) (1 : Nat) [Go.P9.cF f ns B i k m])) (seg (0 : Nat) (List.length (seg (0 : Nat) (List.length out) out)) (seg (0 : Nat) (List.length out) out) ++ seg (0 : Nat) (1 : Nat)
 [Go.P9.cF f ns B i k m]), k + Go.P9.cF f ns B i k m, m + Go.P9.cF f ns B i k m * Prod.fst (List.getD (Prod.fst (Prod.snd (Prod.snd (Prod.snd (Prod.snd f))))) (Int.toNat i) ((0 : Int), (0 : Int))), i + (1 : Int), ())
 Q)))))))))) (req (decide ((0 : Nat) + List.length out ≤ List.length out)) (Q (AX.exit (0 : Nat)) (stS (1 : Nat) Go.P9.sh21e (B, seg (0 : Nat) (List.length out) out, ()))))) := by kernel_rfl
theorem v21F (f : Fd) (K : dens [L, I, E] → Prop) : (xfn1 Try.prog { f := [(36, fcCheck), (57, fcN0), (58, fcFew)], l2 := [(21, 0, lc21a)] } 5 21 fcLeast (f, ()) K) =
(Go.P9.bigF f ∧ fork (Go.P9.chkE f != (0 : Int)) (K ([], (0 : Int), Go.P9.chkE f, ())) (Go.P9.okF f = Bool.true ∧ Go.P9.needB f (Go.P9.needsL f) (Go.P9.fBars f) ∧ ∀ (v : Int), v = Go.P9.fewN f (Go.P9.needsL f) → fork
 (decide (v < (0 : Int))) (K ([], (0 : Int), (4 : Int), ())) (Go.P9.okQ f (Go.P9.needsL f) v (0 : Int) (0 : Int) (0 : Int) [] ∧ req (decide ((0 : Nat) + List.length ([] ++ Go.P9.plK f (Go.P9.needsL f) v (0 : Int) (0 :
 Int) (0 : Int)) ≤ List.length ([] ++ Go.P9.plK f (Go.P9.needsL f) v (0 : Int) (0 : Int) (0 : Int)))) (K (seg (0 : Nat) (List.length ([] ++ Go.P9.plK f (Go.P9.needsL f) v (0 : Int) (0 : Int) (0 : Int))) ([] ++ Go.P9.plK f
 (Go.P9.needsL f) v (0 : Int) (0 : Int) (0 : Int)), v, (0 : Int), ()))))) := by kernel_rfl

/-! the capital -/
abbrev sh24a : SV := S [(1, bF), (5, .v L), (6, .v I), (7, .v I), (8, .v I)]
abbrev sh24b : SV := S [(1, bF), (5, .v L), (6, .v I), (7, .v I)]
def needH (f : Fd) (ns : List Int) : Prop := needB f ns (fBars f) ∧ ∀ x ∈ ns, -562949953421312 ≤ x ∧ x ≤ 562949953421312
def s24a (f : Fd) (ns : List Int) (lo hi t : Int) (Q : LQ) : Prop := (needH f ns ∧ 0 ≤ t ∧ t ≤ ns.length ∧ 0 ≤ hi ∧ hi ≤ 562949953421312) ∧
  ∀ h, hi ≤ h → h ≤ 562949953421312 → (∀ x ∈ ns.drop t.toNat, x ≤ h) → Q (.exit 0) (stS 1 sh24b (f, ns, lo, h, ()))
abbrev lc24a : LC2 := ⟨0, sh24a, 1, fun (f, ns, lo, hi, t, _) Q => s24a f ns lo hi t Q⟩
theorem v24a (f : Fd) (ns : List Int) (lo hi t : Int) (Q : AX → St → Prop) : (xloop2 Try.prog {} 5 24 0 lc24a (fun _ => some (sh24b, 1)) (fun (_, ns, _, _, t, _) => mL ns t) (f, ns, lo, hi, t, ()) Q) =
(fork (decide (t < (↑(List.length ns) : Int))) (req (decide ((0 : Int) ≤ t ∧ t < (↑(List.length ns) : Int))) (req (inR Go.IntKind.i64 (t + (1 : Int))) (Go.P9.mL ns (t + (1 : Int)) < Go.P9.mL ns t ∧ LC2.spec Go.P9.lc24a
 (f, ns, lo, if List.getD ns (Int.toNat t) (0 : Int) > hi then List.getD ns (Int.toNat t) (0 : Int) else hi, t + (1 : Int), ()) Q))) (Q (AX.exit (0 : Nat)) (stS (1 : Nat) Go.P9.sh24b (f, ns, lo, hi, ())))) := by kernel_rfl
abbrev sh24c : SV := S [(1, bF), (5, .v L), (6, .v I), (7, .v I), (9, .v I), (10, .own 1 I), (11, .v I)]
abbrev sh24d : SV := S [(1, bF), (5, .v L), (6, .v I), (7, .v I), (9, .v I), (10, .v L)]
def s24c (f : Fd) (ns : List Int) (lo hi mid : Int) (less : List Int) (t : Int) (Q : LQ) : Prop := (needH f ns ∧ 0 ≤ t ∧ t ≤ ns.length ∧ less.length ≤ t ∧ 0 ≤ mid ∧ mid ≤ 562949953421312) ∧
  Q (.exit 4) (stS 1 sh24d (f, ns, lo, hi, mid, less ++ (ns.drop t.toNat).map (· - mid), ()))
abbrev lc24c : LC2 := ⟨0, sh24c, 2, fun (f, ns, lo, hi, mid, less, t, _) Q => s24c f ns lo hi mid less t Q⟩
theorem v24c (f : Fd) (ns : List Int) (lo hi mid : Int) (less : List Int) (t : Int) (Q : AX → St → Prop) : (xloop2 Try.prog {} 5 24 2 lc24c (fun _ => some (sh24d, 1)) (fun (_, ns, _, _, _, _, t, _) => mL ns t) (f, ns, lo, hi, mid, less, t, ()) Q) =
(fork (decide (t < (↑(List.length ns) : Int))) (req (decide ((0 : Int) ≤ t ∧ t < (↑(List.length ns) : Int))) (req (inR Go.IntKind.i64 (List.getD ns (Int.toNat t) (0 : Int) - mid)) (req (decide ((0 : Nat) + List.length
 less ≤ List.length less)) (req (fitsN (List.length less + List.length (seg (0 : Nat) (1 : Nat) [List.getD ns (Int.toNat t) (0 : Int) - mid])) (8 : Nat)) (req (inR Go.IntKind.i64 (t + (1 : Int))) (req (decide ((0 : Nat) +
 (List.length less + List.length (seg (0 : Nat) (1 : Nat) [List.getD ns (Int.toNat t) (0 : Int) - mid])) ≤ List.length (seg (0 : Nat) (List.length less) less ++ seg (0 : Nat) (1 : Nat) [List.getD ns (Int.toNat t) (0 :
 Int) - mid]))) (Go.P9.mL ns (t + (1 : Int)) < Go.P9.mL ns t ∧ LC2.spec Go.P9.lc24c (f, ns, lo, hi, mid, seg (0 : Nat) (List.length less + List.length (seg (0 : Nat) (1 : Nat) [List.getD ns (Int.toNat t) (0 : Int) -
 mid])) (seg (0 : Nat) (List.length less) less ++ seg (0 : Nat) (1 : Nat) [List.getD ns (Int.toNat t) (0 : Int) - mid]), t + (1 : Int), ()) Q))))))) (req (decide ((0 : Nat) + List.length less ≤ List.length less)) (Q
 (AX.exit (4 : Nat)) (stS (1 : Nat) Go.P9.sh24d (f, ns, lo, hi, mid, seg (0 : Nat) (List.length less) less, ()))))) := by kernel_rfl
abbrev sh24e : SV := S [(7, .v I)]
def s24b (f : Fd) (ns : List Int) (lo hi : Int) (Q : LQ) : Prop := (needH f ns ∧ 0 ≤ lo ∧ lo < askF f ns (fBars f) false 0 0 ∧ askF f ns (fBars f) false 0 0 ≤ hi ∧ hi ≤ 562949953421312) ∧
  ∀ h, h = askF f ns (fBars f) false 0 0 → Q (.exit 2) (stS 0 sh24e (h, ()))
abbrev lc24b : LC2 := ⟨0, sh24b, 1, fun (f, ns, lo, hi, _) Q => s24b f ns lo hi Q⟩
theorem v24b (f : Fd) (ns : List Int) (lo hi : Int) (Q : AX → St → Prop) : (xloop2 Try.prog { f := [(58, fcFew)], l2 := [(24, 2, lc24c)] } 5 24 1 lc24b (fun _ => some (sh24e, 0)) (fun (_, _, lo, hi, _) => (hi - lo).toNat) (f, ns, lo, hi, ()) Q) =
(req (inR Go.IntKind.i64 (hi - lo)) (fork (decide (hi - lo > (1 : Int))) (req (inR Go.IntKind.i64 (lo + hi)) (req (inR Go.IntKind.i64 (Int.tdiv (lo + hi) (2 : Int))) ((Go.P9.needH f ns ∧ (0 : Int) ≤ (0 : Int) ∧ (0 : Int)
 ≤ (↑(List.length ns) : Int) ∧ (0 : Int) ≤ (0 : Int) ∧ (0 : Int) ≤ Int.tdiv (lo + hi) (2 : Int) ∧ Int.tdiv (lo + hi) (2 : Int) ≤ (562949953421312 : Int)) ∧ Go.P9.needB f ([] ++ List.map (fun x => x - Int.tdiv (lo + hi) (2
 : Int)) (List.drop (0 : Nat) ns)) (Go.P9.fBars f) ∧ ∀ (v : Int), v = Go.P9.fewN f ([] ++ List.map (fun x => x - Int.tdiv (lo + hi) (2 : Int)) (List.drop (0 : Nat) ns)) → fork (decide (v ≥ (0 : Int))) (Int.toNat (Int.tdiv
 (lo + hi) (2 : Int) - lo) < Int.toNat (hi - lo) ∧ LC2.spec Go.P9.lc24b (f, ns, lo, Int.tdiv (lo + hi) (2 : Int), ()) Q) (Int.toNat (hi - Int.tdiv (lo + hi) (2 : Int)) < Int.toNat (hi - lo) ∧ LC2.spec Go.P9.lc24b (f, ns,
 Int.tdiv (lo + hi) (2 : Int), hi, ()) Q)))) (Q (AX.exit (2 : Nat)) (stS (0 : Nat) Go.P9.sh24e (hi, ()))))) := by kernel_rfl
theorem v24F (f : Fd) (K : dens [I, E] → Prop) : (xfn1 Try.prog { f := [(36, fcCheck), (57, fcN0), (58, fcFew)], l2 := [(24, 0, lc24a), (24, 1, lc24b)] } 5 24 fcCap (f, ()) K) =
(Go.P9.bigF f ∧ fork (Go.P9.chkE f != (0 : Int)) (K ((0 : Int), Go.P9.chkE f, ())) (Go.P9.okF f = Bool.true ∧ Go.P9.needB f (Go.P9.needsL f) (Go.P9.fBars f) ∧ ∀ (v : Int), v = Go.P9.fewN f (Go.P9.needsL f) → fork (decide
 (v ≥ (0 : Int))) (K ((0 : Int), (0 : Int), ())) ((Go.P9.needH f (Go.P9.needsL f) ∧ (0 : Int) ≤ (0 : Int) ∧ (0 : Int) ≤ (↑(List.length (Go.P9.needsL f)) : Int) ∧ (0 : Int) ≤ (0 : Int) ∧ (0 : Int) ≤ (562949953421312 :
 Int)) ∧ ∀ (h : Int), (0 : Int) ≤ h → h ≤ (562949953421312 : Int) → (∀ (x : Int), x ∈ List.drop (0 : Nat) (Go.P9.needsL f) → x ≤ h) → (Go.P9.needH f (Go.P9.needsL f) ∧ (0 : Int) ≤ (0 : Int) ∧ (0 : Int) < Go.P9.askF f
 (Go.P9.needsL f) (Go.P9.fBars f) Bool.false (0 : Int) (0 : Int) ∧ Go.P9.askF f (Go.P9.needsL f) (Go.P9.fBars f) Bool.false (0 : Int) (0 : Int) ≤ h ∧ h ≤ (562949953421312 : Int)) ∧ ∀ (h : Int), h = Go.P9.askF f
 (Go.P9.needsL f) (Go.P9.fBars f) Bool.false (0 : Int) (0 : Int) → K (h, (0 : Int), ())))) := by kernel_rfl

/-! how many groups -/
abbrev fcPoss : FC := ⟨[.v TF], [.b], fun (f, _) K => okF f = true ∧ K (decide (lackF f ≤ 0), ())⟩
theorem v63F (f : Fd) (K : dens [.b] → Prop) : (xfn1 Try.prog { f := [(57, fcN0), (58, fcFew)] } 5 63 fcPoss (f, ()) K) =
(Go.P9.okF f = Bool.true ∧ AV.agg [AV.int Go.IntKind.i64 (Prod.fst f), AV.rl Go.P9.Sp (Prod.fst (Prod.snd f)), AV.rl Go.P9.I (Prod.fst (Prod.snd (Prod.snd f))), AV.rl Go.P9.I (Prod.fst (Prod.snd (Prod.snd (Prod.snd
 f)))), AV.rl Go.P9.Sp (Prod.fst (Prod.snd (Prod.snd (Prod.snd (Prod.snd f))))), AV.rl Go.P9.G3 (Prod.fst (Prod.snd (Prod.snd (Prod.snd (Prod.snd (Prod.snd f)))))), AV.rl Go.P9.G3 (Prod.fst (Prod.snd (Prod.snd (Prod.snd
 (Prod.snd (Prod.snd (Prod.snd f))))))), AV.int Go.IntKind.i64 (Prod.fst (Prod.snd (Prod.snd (Prod.snd (Prod.snd (Prod.snd (Prod.snd (Prod.snd f)))))))), AV.int Go.IntKind.i64 (Prod.snd (Prod.snd (Prod.snd (Prod.snd
 (Prod.snd (Prod.snd (Prod.snd (Prod.snd f))))))))] = AV.agg [AV.int Go.IntKind.i64 (Prod.fst f), AV.rl Go.P9.Sp (Prod.fst (Prod.snd f)), AV.rl Go.P9.I (Prod.fst (Prod.snd (Prod.snd f))), AV.rl Go.P9.I (Prod.fst (Prod.snd
 (Prod.snd (Prod.snd f)))), AV.rl Go.P9.Sp (Prod.fst (Prod.snd (Prod.snd (Prod.snd (Prod.snd f))))), AV.rl Go.P9.G3 (Prod.fst (Prod.snd (Prod.snd (Prod.snd (Prod.snd (Prod.snd f)))))), AV.rl Go.P9.G3 (Prod.fst (Prod.snd
 (Prod.snd (Prod.snd (Prod.snd (Prod.snd (Prod.snd f))))))), AV.int Go.IntKind.i64 (Prod.fst (Prod.snd (Prod.snd (Prod.snd (Prod.snd (Prod.snd (Prod.snd (Prod.snd f)))))))), AV.int Go.IntKind.i64 (Prod.snd (Prod.snd
 (Prod.snd (Prod.snd (Prod.snd (Prod.snd (Prod.snd (Prod.snd f))))))))] ∧ Go.P9.needB f (Go.P9.needsL f) (Go.P9.fBars f) ∧ ∀ (v : Int), v = Go.P9.fewN f (Go.P9.needsL f) → K (decide (v ≥ (0 : Int)), ())) := by kernel_rfl
abbrev shR26 : SV := S [(2, .v I), (3, .v E)]
def ex26 : Ex2
  | .ret => some (shR26, 0)
  | _ => some (.nil, 0)
abbrev sh26 : SV := S [(1, bF), (5, .v I)]
def topI (f : Fd) : Nat → Int
  | 0 => -1
  | n + 1 => if lackB f n = true then topI f n else n
def s26 (f : Fd) (n : Int) (Q : LQ) : Prop := (okF f = true ∧ -1 ≤ n ∧ n ≤ (fGroups f).length) ∧ (topI f (n + 1).toNat < 0 → Q (.exit 0) (stS 0 .nil ())) ∧ (∀ v, v = topI f (n + 1).toNat → 0 ≤ v → Q .ret (stS 0 shR26 (v, 0, ())))
abbrev lc26 : LC2 := ⟨0, sh26, 1, fun (f, n, _) Q => s26 f n Q⟩
theorem v26L (f : Fd) (n : Int) (Q : AX → St → Prop) : (xloop2 Try.prog { f := [(63, fcPoss)] } 5 26 0 lc26 ex26 (fun (_, n, _) => (n + 1).toNat) (f, n, ()) Q) =
(fork (decide (n ≥ (0 : Int))) (Go.P9.okF (Prod.fst f, Prod.fst (Prod.snd f), Prod.fst (Prod.snd (Prod.snd f)), Prod.fst (Prod.snd (Prod.snd (Prod.snd f))), Prod.fst (Prod.snd (Prod.snd (Prod.snd (Prod.snd f)))),
 Prod.fst (Prod.snd (Prod.snd (Prod.snd (Prod.snd (Prod.snd f))))), Prod.fst (Prod.snd (Prod.snd (Prod.snd (Prod.snd (Prod.snd (Prod.snd f)))))), n, Prod.snd (Prod.snd (Prod.snd (Prod.snd (Prod.snd (Prod.snd (Prod.snd
 (Prod.snd f)))))))) = Bool.true ∧ fork (decide (Go.P9.lackF (Prod.fst f, Prod.fst (Prod.snd f), Prod.fst (Prod.snd (Prod.snd f)), Prod.fst (Prod.snd (Prod.snd (Prod.snd f))), Prod.fst (Prod.snd (Prod.snd (Prod.snd
 (Prod.snd f)))), Prod.fst (Prod.snd (Prod.snd (Prod.snd (Prod.snd (Prod.snd f))))), Prod.fst (Prod.snd (Prod.snd (Prod.snd (Prod.snd (Prod.snd (Prod.snd f)))))), n, Prod.snd (Prod.snd (Prod.snd (Prod.snd (Prod.snd
 (Prod.snd (Prod.snd (Prod.snd f)))))))) ≤ (0 : Int))) (Q AX.ret (stS (0 : Nat) Go.P9.shR26 (n, (0 : Int), ()))) (req (inR Go.IntKind.i64 (n - (1 : Int))) (Int.toNat (n - (1 : Int) + (1 : SV.den (SV.slot (5 : Nat) (SV.v
 Go.P9.I)))) < Int.toNat (n + (1 : SV.den (SV.slot (5 : Nat) (SV.v Go.P9.I)))) ∧ LC2.spec Go.P9.lc26 (f, n - (1 : Int), ()) Q))) (Q (AX.exit (0 : Nat)) (stS (0 : Nat) SV.nil ()))) := by kernel_rfl
theorem v26F (f : Fd) (K : dens [I, E] → Prop) : (xfn1 Try.prog { f := [(36, fcCheck)], l2 := [(26, 0, lc26)] } 5 26 fcBears (f, ()) K) =
(Go.P9.bigF f ∧ fork (Go.P9.chkE f != (0 : Int)) (K ((0 : Int), Go.P9.chkE f, ())) ((Go.P9.okF f = Bool.true ∧ (-1 : Int) ≤ (↑(List.length (Prod.fst (Prod.snd (Prod.snd (Prod.snd (Prod.snd (Prod.snd f))))))) : Int) ∧
 (↑(List.length (Prod.fst (Prod.snd (Prod.snd (Prod.snd (Prod.snd (Prod.snd f))))))) : Int) ≤ (↑(List.length (Go.P9.fGroups f)) : Int)) ∧ (Go.P9.topI f (Int.toNat ((↑(List.length (Prod.fst (Prod.snd (Prod.snd (Prod.snd
 (Prod.snd (Prod.snd f))))))) : Int) + (1 : Int))) < (0 : Int) → K ((0 : Int), (4 : Int), ())) ∧ ∀ (v : Int), v = Go.P9.topI f (Int.toNat ((↑(List.length (Prod.fst (Prod.snd (Prod.snd (Prod.snd (Prod.snd (Prod.snd
 f))))))) : Int) + (1 : Int))) → (0 : Int) ≤ v → K (v, (0 : SV.den (SV.slot (3 : Nat) (SV.v Go.P9.E))), ()))) := by kernel_rfl
end Go.P9
