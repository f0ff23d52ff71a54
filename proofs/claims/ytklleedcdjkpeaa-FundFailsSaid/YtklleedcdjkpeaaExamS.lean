/- Funds: an example of the worst run: states and what is to be shown, reduced. No conditions. -/
import Derived.Test.YtklleedcdjkpeaaNeedsS
set_option linter.unusedSimpArgs false
set_option linter.unusedVariables false
set_option linter.constructorNameAsVariable false
set_option maxRecDepth 100000
set_option maxHeartbeats 2000000
namespace Go.P9
open Go.Lom Go.Proofs Go

def cutI (g : Grp) (st d left : Int) : Int := if 0 ≤ st ∧ st + g.2.2 ≤ d then minI left g.2.1 else 0
def rowK (g : Grp) (st : Int) : Nat → Int → Int → List Int
  | 0, _, _ => []
  | k + 1, d, left => cutI g st d left :: rowK g st k (d + 1) (left - cutI g st d left)
def outK (f : Fd) (s : List Int) (i : Int) : List (List Int) :=
  ((List.range (fGroups f).length).drop i.toNat).map fun k : Nat => rowK ((fGroups f).getD k (0, 0, 0)) (s.getD k 0) (fIn f).length 0 ((fGroups f).getD k (0, 0, 0)).1
abbrev bRun : SV := .box 2 (A [.v L, .own 3 L])
abbrev bRun' : SV := .box 2 (A [.v L, .own 3 L])
abbrev sh43b : SV := S [(2, bF), (4, .box 1 (.v TR)), (9, bRun), (10, .arr 4 I), (11, .v I), (12, .box 5 (.v G3)), (13, .lst 6 I), (14, .v I), (34, .v LG), (35, .v I), (36, .v I), (48, .v I), (49, .v I)]
abbrev sh43x : SV := S [(2, bF), (4, .box 1 (.v TR)), (9, bRun), (10, .arr 4 I), (11, .v I), (12, .box 5 (.v G3)), (13, .v L), (34, .v LG), (35, .v I), (36, .v I)]
abbrev Ru := List Int × List (List Int) × Unit
def s43b (f : Fd) (z : Rn) (r : Ru) (s : List Int) (i : Int) (g : Grp) (row : List Int) (left : Int) (gs : List Grp) (m k n d : Int) (Q : LQ) : Prop :=
  (0 ≤ d ∧ d ≤ row.length ∧ n = row.length ∧ row.length ≤ 12 ∧ row.drop d.toNat = List.replicate (row.length - d.toNat) 0 ∧ s.length = 8 ∧ 0 ≤ i ∧ i < 8 ∧ sOk s i ∧ grpOk g = true ∧ 0 ≤ left ∧ left ≤ 1073741824) ∧
  Q (.exit 2) (stS 6 sh43x (f, z, r, s, i, g, row.take d.toNat ++ rowK g (s.getD i.toNat 0) (row.length - d.toNat) d left, gs, m, k, ()))
abbrev lc43b : LC2 := ⟨0, sh43b, 7, fun (f, z, r, s, i, g, row, left, gs, m, k, n, d, _) Q => s43b f z r s i g row left gs m k n d Q⟩
theorem v43b (f : Fd) (z : Rn) (bg : List Int) (out : List (List Int)) (s : List Int) (i : Int) (g : Grp) (row : List Int) (left : Int) (gs : List Grp) (m k n d : Int) (Q : AX → St → Prop) : (xloop2 Try.prog {} 5 43 1 lc43b (fun _ => some (sh43x, 6)) (fun (_, _, _, _, _, _, row, _, _, _, _, _, d, _) => mL row d) (f, z, (bg, out, ()), s, i, g, row, left, gs, m, k, n, d, ()) Q) =
  (Go.Lom.fork (Decidable.decide (d < n))
      (Go.Lom.req (Decidable.decide ((0 : Int) ≤ i ∧ i < (8 : Int)))
        (Go.Lom.req (Decidable.decide ((0 : Nat) + Int.toNat i < List.length s))
          (Go.Lom.fork (Decidable.decide (List.getD s ((0 : Nat) + Int.toNat i) (0 : Int) ≥ (0 : Int)))
            (Go.Lom.req (Decidable.decide ((0 : Int) ≤ i ∧ i < (8 : Int)))
              (Go.Lom.req (Decidable.decide ((0 : Nat) + Int.toNat i < List.length s))
                (Go.Lom.req
                  (Go.Lom.inR Go.IntKind.i64 (List.getD s ((0 : Nat) + Int.toNat i) (0 : Int) + Prod.snd (Prod.snd g)))
                  (Go.Lom.fork
                    (Decidable.decide (d ≥ List.getD s ((0 : Nat) + Int.toNat i) (0 : Int) + Prod.snd (Prod.snd g)))
                    (Go.Lom.req (Decidable.decide ((0 : Int) ≤ d ∧ d < (↑(List.length row) : Int)))
                      (Go.Lom.req (Decidable.decide (Int.toNat d + (0 : Nat) < List.length row))
                        (Go.Lom.req (Decidable.decide ((0 : Int) ≤ d ∧ d < (↑(List.length row) : Int)))
                          (Go.Lom.req
                            (Decidable.decide
                              (Int.toNat d + (0 : Nat) <
                                List.length
                                  (List.set row (Int.toNat d + (0 : Nat))
                                    (if Prod.fst (Prod.snd g) < left then Prod.fst (Prod.snd g) else left))))
                            (Go.Lom.req
                              (Go.Lom.inR Go.IntKind.i64
                                (left -
                                  List.getD
                                    (List.set row (Int.toNat d + (0 : Nat))
                                      (if Prod.fst (Prod.snd g) < left then Prod.fst (Prod.snd g) else left))
                                    (Int.toNat d + (0 : Nat)) (0 : Int)))
                              (Go.Lom.req (Go.Lom.inR Go.IntKind.i64 (d + (1 : Int)))
                                (Go.Lom.req (Decidable.decide ((0 : Nat) + List.length out ≤ List.length out))
                                  (Go.Lom.req
                                    (Decidable.decide
                                      (List.length row =
                                        List.length
                                          (List.set row (Int.toNat d + (0 : Nat))
                                            (if Prod.fst (Prod.snd g) < left then Prod.fst (Prod.snd g) else left))))
                                    (Go.P9.mL
                                          (List.set row (Int.toNat d + (0 : Nat))
                                            (if Prod.fst (Prod.snd g) < left then Prod.fst (Prod.snd g) else left))
                                          (d + (1 : Int)) <
                                        Go.P9.mL row d ∧
                                      Go.Lom.LC2.spec Go.P9.lc43b
                                        (f, z, (bg, Go.Lom.seg (0 : Nat) (List.length out) out, ()), s, i, g,
                                          List.set row (Int.toNat d + (0 : Nat))
                                            (if Prod.fst (Prod.snd g) < left then Prod.fst (Prod.snd g) else left),
                                          left -
                                            List.getD
                                              (List.set row (Int.toNat d + (0 : Nat))
                                                (if Prod.fst (Prod.snd g) < left then Prod.fst (Prod.snd g) else left))
                                              (Int.toNat d + (0 : Nat)) (0 : Int),
                                          gs, m, k, n, d + (1 : Int), ())
                                        Q)))))))))
                    (Go.Lom.req (Go.Lom.inR Go.IntKind.i64 (d + (1 : Int)))
                      (Go.Lom.req (Decidable.decide ((0 : Nat) + List.length out ≤ List.length out))
                        (Go.Lom.req (Decidable.decide (List.length row = List.length row))
                          (Go.P9.mL row (d + (1 : Int)) < Go.P9.mL row d ∧
                            Go.Lom.LC2.spec Go.P9.lc43b
                              (f, z, (bg, Go.Lom.seg (0 : Nat) (List.length out) out, ()), s, i, g, row, left, gs, m, k, n,
                                d + (1 : Int), ())
                              Q))))))))
            (Go.Lom.req (Go.Lom.inR Go.IntKind.i64 (d + (1 : Int)))
              (Go.Lom.req (Decidable.decide ((0 : Nat) + List.length out ≤ List.length out))
                (Go.Lom.req (Decidable.decide (List.length row = List.length row))
                  (Go.P9.mL row (d + (1 : Int)) < Go.P9.mL row d ∧
                    Go.Lom.LC2.spec Go.P9.lc43b
                      (f, z, (bg, Go.Lom.seg (0 : Nat) (List.length out) out, ()), s, i, g, row, left, gs, m, k, n,
                        d + (1 : Int), ())
                      Q)))))))
      (Go.Lom.req (Decidable.decide ((0 : Nat) + List.length out ≤ List.length out))
        (Go.Lom.req (Decidable.decide ((0 : Nat) + List.length row ≤ List.length row))
          (Q (Go.Lom.AX.exit (2 : Nat))
            (Go.Lom.stS (6 : Nat) Go.P9.sh43x
              (f, z, (bg, Go.Lom.seg (0 : Nat) (List.length out) out, ()), s, i, g,
                Go.Lom.seg (0 : Nat) (List.length row) row, gs, m, k, ())))))) := by kernel_rfl
abbrev sh43 : SV := S [(2, bF), (4, .box 1 (.v TR)), (9, bRun), (10, .arr 4 I), (34, .v LG), (35, .v I), (36, .v I)]
abbrev sh43e : SV := S [(4, .box 0 (.v TR)), (9, .box 1 (.v TR))]
def s43a (f : Fd) (z : Rn) (r : Ru) (s : List Int) (gs : List Grp) (m k : Int) (Q : LQ) : Prop :=
  (okF f = true ∧ gs = fGroups f ∧ m = (fGroups f).length ∧ 0 ≤ k ∧ k ≤ (fGroups f).length ∧ r.2.1.length ≤ k ∧ s.length = 8 ∧ ∀ j : Int, 0 ≤ j → j < (fGroups f).length → sOk s j) ∧
  Q (.exit 0) (stS 2 sh43e (z, (r.1, r.2.1 ++ outK f s k), ()))
abbrev lc43a : LC2 := ⟨0, sh43, 5, fun (f, z, r, s, gs, m, k, _) Q => s43a f z r s gs m k Q⟩
theorem v43a (f : Fd) (z : Rn) (bg : List Int) (out : List (List Int)) (s : List Int) (gs : List Grp) (m k : Int) (Q : AX → St → Prop) : (xloop2 Try.prog { l2 := [(43, 1, lc43b)] } 5 43 0 lc43a (fun _ => some (sh43e, 2)) (fun (_, _, _, _, gs, _, k, _) => mL gs k) (f, z, (bg, out, ()), s, gs, m, k, ()) Q) =
  (Go.Lom.fork (Decidable.decide (k < m))
      (Go.Lom.req (Decidable.decide ((0 : Int) ≤ k ∧ k < (↑(List.length gs) : Int)))
        (Go.Lom.req
          (Decidable.decide
            ((0 : Int) ≤ (↑(List.length (Prod.fst (Prod.snd f))) : Int) ∧
              (↑(List.length (Prod.fst (Prod.snd f))) : Int) ≤ (↑(List.length (Prod.fst (Prod.snd f))) : Int) ∧
                (8 : Int) * (↑(List.length (Prod.fst (Prod.snd f))) : Int) ≤ (281474976710656 : Int) ∧
                  (↑(List.length (Prod.fst (Prod.snd f))) : Int) ≤ (281474976710656 : Int)))
          (Go.Lom.req (Decidable.decide ((0 : Nat) + List.length out ≤ List.length out))
            (Go.Lom.req
              (Decidable.decide
                (Int.toNat (↑(List.length (Prod.fst (Prod.snd f))) : Int) =
                  List.length (List.replicate (Int.toNat (↑(List.length (Prod.fst (Prod.snd f))) : Int)) (0 : Int))))
              (((0 : Int) ≤ (0 : Int) ∧
                  (0 : Int) ≤
                      (↑(List.length
                            (List.replicate (Int.toNat (↑(List.length (Prod.fst (Prod.snd f))) : Int)) (0 : Int))) :
                        Int) ∧
                    (↑(Int.toNat (↑(List.length (Prod.fst (Prod.snd f))) : Int)) : Int) =
                        (↑(List.length
                              (List.replicate (Int.toNat (↑(List.length (Prod.fst (Prod.snd f))) : Int)) (0 : Int))) :
                          Int) ∧
                      List.length (List.replicate (Int.toNat (↑(List.length (Prod.fst (Prod.snd f))) : Int)) (0 : Int)) ≤
                          (12 : Nat) ∧
                        List.drop (0 : Nat)
                              (List.replicate (Int.toNat (↑(List.length (Prod.fst (Prod.snd f))) : Int)) (0 : Int)) =
                            List.replicate
                              (List.length
                                  (List.replicate (Int.toNat (↑(List.length (Prod.fst (Prod.snd f))) : Int)) (0 : Int)) -
                                (0 : Nat))
                              (0 : Int) ∧
                          List.length s = (8 : Nat) ∧
                            (0 : Int) ≤ k ∧
                              k < (8 : Int) ∧
                                Go.P9.sOk s k ∧
                                  Go.P9.grpOk (List.getD gs (Int.toNat k) ((0 : Int), (0 : Int), (0 : Int))) = Bool.true ∧
                                    (0 : Int) ≤ Prod.fst (List.getD gs (Int.toNat k) ((0 : Int), (0 : Int), (0 : Int))) ∧
                                      Prod.fst (List.getD gs (Int.toNat k) ((0 : Int), (0 : Int), (0 : Int))) ≤
                                        (1073741824 : Int)) ∧
                Go.Lom.req
                  (Decidable.decide
                    ((0 : Nat) + List.length (Go.Lom.seg (0 : Nat) (List.length out) out) ≤
                      List.length (Go.Lom.seg (0 : Nat) (List.length out) out)))
                  (Go.Lom.req
                    (Go.Lom.fitsN
                      (List.length (Go.Lom.seg (0 : Nat) (List.length out) out) +
                        List.length
                          (Go.Lom.seg (0 : Nat) (1 : Nat)
                            [List.take (0 : Nat)
                                  (List.replicate (Int.toNat (↑(List.length (Prod.fst (Prod.snd f))) : Int)) (0 : Int)) ++
                                Go.P9.rowK (List.getD gs (Int.toNat k) ((0 : Int), (0 : Int), (0 : Int)))
                                  (List.getD s (Int.toNat k) (0 : Int))
                                  (List.length
                                      (List.replicate (Int.toNat (↑(List.length (Prod.fst (Prod.snd f))) : Int))
                                        (0 : Int)) -
                                    (0 : Nat))
                                  (0 : Int) (Prod.fst (List.getD gs (Int.toNat k) ((0 : Int), (0 : Int), (0 : Int))))]))
                      (24 : Nat))
                    (Go.Lom.req (Go.Lom.inR Go.IntKind.i64 (k + (1 : Int)))
                      (Go.Lom.req
                        (Decidable.decide
                          ((0 : Nat) +
                              (List.length (Go.Lom.seg (0 : Nat) (List.length out) out) +
                                List.length
                                  (Go.Lom.seg (0 : Nat) (1 : Nat)
                                    [List.take (0 : Nat)
                                          (List.replicate (Int.toNat (↑(List.length (Prod.fst (Prod.snd f))) : Int))
                                            (0 : Int)) ++
                                        Go.P9.rowK (List.getD gs (Int.toNat k) ((0 : Int), (0 : Int), (0 : Int)))
                                          (List.getD s (Int.toNat k) (0 : Int))
                                          (List.length
                                              (List.replicate (Int.toNat (↑(List.length (Prod.fst (Prod.snd f))) : Int))
                                                (0 : Int)) -
                                            (0 : Nat))
                                          (0 : Int)
                                          (Prod.fst (List.getD gs (Int.toNat k) ((0 : Int), (0 : Int), (0 : Int))))])) ≤
                            List.length
                              (Go.Lom.seg (0 : Nat) (List.length (Go.Lom.seg (0 : Nat) (List.length out) out))
                                  (Go.Lom.seg (0 : Nat) (List.length out) out) ++
                                Go.Lom.seg (0 : Nat) (1 : Nat)
                                  [List.take (0 : Nat)
                                        (List.replicate (Int.toNat (↑(List.length (Prod.fst (Prod.snd f))) : Int))
                                          (0 : Int)) ++
                                      Go.P9.rowK (List.getD gs (Int.toNat k) ((0 : Int), (0 : Int), (0 : Int)))
                                        (List.getD s (Int.toNat k) (0 : Int))
                                        (List.length
                                            (List.replicate (Int.toNat (↑(List.length (Prod.fst (Prod.snd f))) : Int))
                                              (0 : Int)) -
                                          (0 : Nat))
                                        (0 : Int)
                                        (Prod.fst (List.getD gs (Int.toNat k) ((0 : Int), (0 : Int), (0 : Int))))])))
                        (Go.P9.mL gs (k + (1 : Int)) < Go.P9.mL gs k ∧
                          Go.Lom.LC2.spec Go.P9.lc43a
                            (f, z,
                              (bg,
                                Go.Lom.seg (0 : Nat)
                                  (List.length (Go.Lom.seg (0 : Nat) (List.length out) out) +
                                    List.length
                                      (Go.Lom.seg (0 : Nat) (1 : Nat)
                                        [List.take (0 : Nat)
                                              (List.replicate (Int.toNat (↑(List.length (Prod.fst (Prod.snd f))) : Int))
                                                (0 : Int)) ++
                                            Go.P9.rowK (List.getD gs (Int.toNat k) ((0 : Int), (0 : Int), (0 : Int)))
                                              (List.getD s (Int.toNat k) (0 : Int))
                                              (List.length
                                                  (List.replicate (Int.toNat (↑(List.length (Prod.fst (Prod.snd f))) : Int))
                                                    (0 : Int)) -
                                                (0 : Nat))
                                              (0 : Int)
                                              (Prod.fst (List.getD gs (Int.toNat k) ((0 : Int), (0 : Int), (0 : Int))))]))
                                  (Go.Lom.seg (0 : Nat) (List.length (Go.Lom.seg (0 : Nat) (List.length out) out))
                                      (Go.Lom.seg (0 : Nat) (List.length out) out) ++
                                    Go.Lom.seg (0 : Nat) (1 : Nat)
                                      [List.take (0 : Nat)
                                            (List.replicate (Int.toNat (↑(List.length (Prod.fst (Prod.snd f))) : Int))
                                              (0 : Int)) ++
                                          Go.P9.rowK (List.getD gs (Int.toNat k) ((0 : Int), (0 : Int), (0 : Int)))
                                            (List.getD s (Int.toNat k) (0 : Int))
                                            (List.length
                                                (List.replicate (Int.toNat (↑(List.length (Prod.fst (Prod.snd f))) : Int))
                                                  (0 : Int)) -
                                              (0 : Nat))
                                            (0 : Int)
                                            (Prod.fst (List.getD gs (Int.toNat k) ((0 : Int), (0 : Int), (0 : Int))))]),
                                ()),
                              s, gs, m, k + (1 : Int), ())
                            Q)))))))))
      (Go.Lom.req (Decidable.decide ((0 : Nat) + List.length out ≤ List.length out))
        (Q (Go.Lom.AX.exit (0 : Nat))
          (Go.Lom.stS (2 : Nat) Go.P9.sh43e (z, (bg, Go.Lom.seg (0 : Nat) (List.length out) out), ()))))) := by kernel_rfl
def exR (f : Fd) (day : Int) : Rn := if okF f = true ∧ dayIn f day then ((worstW f day).1, outK f (startsL f (worstW f day).1) 0) else ([], [])
abbrev fcExam : FC := ⟨[.v TF, .v I], [TR, E], fun x K => (bigF x.1) ∧ K (exR x.1 x.2.1, (worstE x.1 x.2.1).2.2, ())⟩
theorem v43F (f : Fd) (day : Int) (K : dens [TR, E] → Prop) : (xfn1 Try.prog { f := [(41, fcWorstE), (66, fc66)], l2 := [(43, 0, lc43a)] } 5 43 fcExam (f, day, ()) K) =
  (Go.P9.bigF f ∧
      Go.Lom.fork (Prod.snd (Prod.snd (Go.P9.worstE f day)) != (0 : Int))
        (K (([], []), Prod.snd (Prod.snd (Go.P9.worstE f day)), ()))
        ((Go.P9.okF f = Bool.true ∧
            List.length (Prod.fst (Go.P9.worstE f day)) ≤ (9223372036854775807 : Nat) ∧
              Go.P9.inGrp f (Prod.fst (Go.P9.worstE f day))) ∧
          ∀ (r : List Int),
            List.length r = (8 : Nat) →
              List.take (List.length (Go.P9.fGroups f)) r = Go.P9.startsL f (Prod.fst (Go.P9.worstE f day)) →
                Go.Lom.req (Decidable.decide (List.length r = (8 : Nat)))
                  (Go.Lom.req (Decidable.decide (List.length r = (8 : Nat)))
                    ((Go.P9.okF f = Bool.true ∧
                        Prod.fst (Prod.snd (Prod.snd (Prod.snd (Prod.snd (Prod.snd f))))) = Go.P9.fGroups f ∧
                          (↑(List.length (Prod.fst (Prod.snd (Prod.snd (Prod.snd (Prod.snd (Prod.snd f))))))) : Int) =
                              (↑(List.length (Go.P9.fGroups f)) : Int) ∧
                            (0 : Int) ≤ (0 : Int) ∧
                              (0 : Int) ≤ (↑(List.length (Go.P9.fGroups f)) : Int) ∧
                                (0 : Int) ≤ (0 : Int) ∧
                                  List.length r = (8 : Nat) ∧
                                    ∀ (j : Int),
                                      (0 : Int) ≤ j → j < (↑(List.length (Go.P9.fGroups f)) : Int) → Go.P9.sOk r j) ∧
                      K ((Prod.fst (Go.P9.worstE f day), [] ++ Go.P9.outK f r (0 : Int)), (0 : Int), ()))))) := by kernel_rfl

/-! how much is taken -/
def byRow (row : List Int) (day t : Int) : Int := ((row.take (day + 1).toNat).drop t.toNat).sum
def byI (out : List (List Int)) (day i : Int) : Int := ((out.drop i.toNat).map fun row => byRow row day 0).sum
abbrev sh44 : SV := S [(1, .v I), (2, .box 0 (.v TR)), (5, .v I), (6, .v I)]
abbrev sh44e : SV := S [(5, .v I)]
abbrev sh44b : SV := S [(1, .v I), (2, .box 0 (.v TR)), (5, .v I), (6, .v I), (7, .v I)]
def inRun (r : Rn) : Prop := r.2.length ≤ 8 ∧ ∀ row ∈ r.2, row.length ≤ 12 ∧ ∀ x ∈ row, 0 ≤ x ∧ x ≤ 1073741824
def s44b (day : Int) (r : Rn) (n i t : Int) (Q : LQ) : Prop := (inRun r ∧ 0 ≤ day ∧ day ≤ 12 ∧ 0 ≤ i ∧ i < r.2.length ∧ 0 ≤ t ∧ t ≤ 12 ∧ t ≤ day + 1 ∧ t ≤ (r.2.getD i.toNat []).length ∧ 0 ≤ n ∧ n ≤ 12884901888 * i + 1073741824 * t) ∧
  Q (.exit 2) (stS 1 sh44 (day, r, n + byRow (r.2.getD i.toNat []) day t, i, ()))
abbrev lc44b : LC2 := ⟨0, sh44b, 1, fun (day, r, n, i, t, _) Q => s44b day r n i t Q⟩
theorem v44b (day : Int) (r : Rn) (n i t : Int) (Q : AX → St → Prop) : (xloop2 Try.prog {} 5 44 1 lc44b (fun _ => some (sh44, 1)) (fun (day, _, _, _, t, _) => (day + 1 - t).toNat) (day, r, n, i, t, ()) Q) =
  (Go.Lom.fork (Decidable.decide (t ≤ day))
      (Go.Lom.req (Decidable.decide ((0 : Int) ≤ i ∧ i < (↑(List.length (Prod.snd r)) : Int)))
        (Go.Lom.fork (Decidable.decide (t < (↑(List.length (List.getD (Prod.snd r) (Int.toNat i) [])) : Int)))
          (Go.Lom.req (Decidable.decide ((0 : Int) ≤ i ∧ i < (↑(List.length (Prod.snd r)) : Int)))
            (Go.Lom.req
              (Decidable.decide ((0 : Int) ≤ t ∧ t < (↑(List.length (List.getD (Prod.snd r) (Int.toNat i) [])) : Int)))
              (Go.Lom.req
                (Go.Lom.inR Go.IntKind.i64
                  (n + List.getD (List.getD (Prod.snd r) (Int.toNat i) []) (Int.toNat t) (0 : Int)))
                (Go.Lom.req (Go.Lom.inR Go.IntKind.i64 (t + (1 : Int)))
                  (Int.toNat
                        (day + (1 : Go.Lom.SV.den (Go.Lom.SV.slot (1 : Nat) (Go.Lom.SV.v Go.P9.I))) - (t + (1 : Int))) <
                      Int.toNat (day + (1 : Go.Lom.SV.den (Go.Lom.SV.slot (1 : Nat) (Go.Lom.SV.v Go.P9.I))) - t) ∧
                    Go.Lom.LC2.spec Go.P9.lc44b
                      (day, r, n + List.getD (List.getD (Prod.snd r) (Int.toNat i) []) (Int.toNat t) (0 : Int), i,
                        t + (1 : Int), ())
                      Q)))))
          (Q (Go.Lom.AX.exit (2 : Nat)) (Go.Lom.stS (1 : Nat) Go.P9.sh44 (day, r, n, i, ())))))
      (Q (Go.Lom.AX.exit (2 : Nat)) (Go.Lom.stS (1 : Nat) Go.P9.sh44 (day, r, n, i, ())))) := by kernel_rfl
def s44a (day : Int) (r : Rn) (n i : Int) (Q : LQ) : Prop := (inRun r ∧ 0 ≤ day ∧ day ≤ 12 ∧ 0 ≤ i ∧ i ≤ r.2.length ∧ 0 ≤ n ∧ n ≤ 12884901888 * i) ∧ Q (.exit 0) (stS 0 sh44e (n + byI r.2 day i, ()))
abbrev lc44a : LC2 := ⟨0, sh44, 1, fun (day, r, n, i, _) Q => s44a day r n i Q⟩
theorem v44a (day : Int) (r : Rn) (n i : Int) (Q : AX → St → Prop) : (xloop2 Try.prog { l2 := [(44, 1, lc44b)] } 5 44 0 lc44a (fun _ => some (sh44e, 0)) (fun (_, r, _, i, _) => mL r.2 i) (day, r, n, i, ()) Q) =
  (Go.Lom.fork (Decidable.decide (i < (↑(List.length (Prod.snd r)) : Int)))
      ((Go.P9.inRun r ∧
          (0 : Int) ≤ day ∧
            day ≤ (12 : Int) ∧
              (0 : Int) ≤ i ∧
                i < (↑(List.length (Prod.snd r)) : Int) ∧
                  (0 : Int) ≤ (0 : Int) ∧
                    (0 : Int) ≤ (12 : Int) ∧
                      (0 : Int) ≤ day + (1 : Int) ∧
                        (0 : Int) ≤ (↑(List.length (List.getD (Prod.snd r) (Int.toNat i) [])) : Int) ∧
                          (0 : Int) ≤ n ∧ n ≤ (12884901888 : Int) * i + (0 : Int)) ∧
        Go.Lom.req (Go.Lom.inR Go.IntKind.i64 (i + (1 : Int)))
          (Go.P9.mL (Prod.snd r) (i + (1 : Int)) < Go.P9.mL (Prod.snd r) i ∧
            Go.Lom.LC2.spec Go.P9.lc44a
              (day, r, n + Go.P9.byRow (List.getD (Prod.snd r) (Int.toNat i) []) day (0 : Int), i + (1 : Int), ()) Q))
      (Q (Go.Lom.AX.exit (0 : Nat)) (Go.Lom.stS (0 : Nat) Go.P9.sh44e (n, ())))) := by kernel_rfl
abbrev fcBy : FC := ⟨[.v TR, .v I], [I], fun x K => (inRun x.1 ∧ 0 ≤ x.2.1 ∧ x.2.1 ≤ 12) ∧ K (byI x.1.2 x.2.1 0, ())⟩
theorem v44F (r : Rn) (day : Int) (K : dens [I] → Prop) : (xfn1 Try.prog { l2 := [(44, 0, lc44a)] } 5 44 fcBy (r, day, ()) K) =
  ((Go.P9.inRun r ∧
        (0 : Int) ≤ day ∧
          day ≤ (12 : Int) ∧
            (0 : Int) ≤ (0 : Int) ∧
              (0 : Int) ≤ (↑(List.length (Prod.snd r)) : Int) ∧ (0 : Int) ≤ (0 : Int) ∧ (0 : Int) ≤ (0 : Int)) ∧
      K ((0 : Int) + Go.P9.byI (Prod.snd r) day (0 : Int), ())) := by kernel_rfl
/-! the law -/
abbrev fc11 : FC := ⟨[.v TF, .v I], [.b], fun x K => bigF x.1 ∧ K (true, ())⟩
theorem v11F (f : Fd) (day : Int) (K : dens [.b] → Prop) : (xfn1 Try.prog { f := [(39, fcNeeds), (40, fcNeeds), (16, fcSame), (41, fcWorstE), (42, fcWorstE), (43, fcExam), (38, fcAllow), (44, fcBy), (19, fcWorks)] } 5 11 fc11 (f, day, ()) K) =
  (Go.P9.bigF f ∧
      Go.P9.bigF f ∧
        List.length (Go.P9.needsR f) ≤ (9223372036854775807 : Nat) ∧
          Go.Lom.fork (!Decidable.decide (Go.P9.needsR f = Go.P9.needsR f)) (K (Bool.false, ()))
            (Go.Lom.fork (Go.P9.chkE f != Go.P9.chkE f) (K (Bool.false, ()))
              (Go.P9.bigF f ∧
                Go.P9.bigF f ∧
                  List.length (Prod.fst (Go.P9.worstE f day)) ≤ (9223372036854775807 : Nat) ∧
                    Go.Lom.fork (!Decidable.decide (Prod.fst (Go.P9.worstE f day) = Prod.fst (Go.P9.worstE f day)))
                      (K (Bool.false, ()))
                      (Go.Lom.fork (Prod.fst (Prod.snd (Go.P9.worstE f day)) != Prod.fst (Prod.snd (Go.P9.worstE f day)))
                        (K (Bool.false, ()))
                        (Go.Lom.fork (Prod.snd (Prod.snd (Go.P9.worstE f day)) != Prod.snd (Prod.snd (Go.P9.worstE f day)))
                          (K (Bool.false, ()))
                          (Go.P9.bigF f ∧
                            Go.Lom.fork (Prod.snd (Prod.snd (Go.P9.worstE f day)) != (0 : Int))
                              (Go.Lom.fork
                                (Prod.snd (Prod.snd (Go.P9.worstE f day)) == Prod.snd (Prod.snd (Go.P9.worstE f day)))
                                (Go.Lom.fork ((↑(List.length (Prod.fst (Go.P9.exR f day))) : Int) == (0 : Int))
                                  (Go.Lom.fork ((↑(List.length (Prod.snd (Go.P9.exR f day))) : Int) == (0 : Int))
                                    (K (Bool.true, ())) (K (Bool.false, ())))
                                  (K (Bool.false, ())))
                                (K (Bool.false, ())))
                              ((Go.P9.bigF f ∧ Go.P9.bigR (Go.P9.exR f day)) ∧
                                Go.Lom.fork (Prod.snd (Prod.snd (Go.P9.worstE f day)) == (0 : Int))
                                  (Go.Lom.fork (Go.P9.chkE f == (0 : Int))
                                    (Go.Lom.fork (Go.P9.okF f && Go.P9.allowB f (Go.P9.exR f day))
                                      ((Go.P9.inRun (Go.P9.exR f day) ∧
                                          (0 : Go.Lom.AT.den (Go.Lom.AT.v Go.P9.I)) ≤ day ∧
                                            day ≤ (12 : Go.Lom.AT.den (Go.Lom.AT.v Go.P9.I))) ∧
                                        Go.Lom.fork
                                          (Go.P9.byI (Prod.snd (Go.P9.exR f day)) day (0 : Int) ==
                                            Prod.fst (Prod.snd (Go.P9.worstE f day)))
                                          (K (Bool.true, ())) (K (Bool.false, ())))
                                      (K (Bool.false, ())))
                                    (K (Bool.false, ())))
                                  (K (Bool.false, ()))))))))) := by kernel_rfl
end Go.P9
