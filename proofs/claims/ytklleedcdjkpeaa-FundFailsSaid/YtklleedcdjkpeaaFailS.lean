/- Funds: the law of plans that fail: states and what is to be shown, reduced. No conditions. -/
import Derived.Test.YtklleedcdjkpeaaFollowS
import Derived.Test.YtklleedcdjkpeaaExamS
set_option linter.unusedSimpArgs false
set_option linter.unusedVariables false
set_option linter.constructorNameAsVariable false
set_option maxRecDepth 100000
set_option maxHeartbeats 2000000
namespace Go.P9
open Go.Lom Go.Proofs Go

def lowsL (s : List (Int × Int)) : List Int := s.map (·.1)
abbrev sh45 : SV := S [(0, .v LSp), (3, .own 0 I), (4, .v I)]
abbrev sh45e : SV := S [(3, .own 0 I)]
def s45 (s : List (Int × Int)) (out : List Int) (i : Int) (Q : LQ) : Prop := (s.length ≤ 1000000 ∧ 0 ≤ i ∧ i ≤ s.length ∧ out.length ≤ i) ∧ Q (.exit 0) (stS 1 sh45e (out ++ lowsL (s.drop i.toNat), ()))
abbrev lc45 : LC2 := ⟨0, sh45, 1, fun (s, out, i, _) Q => s45 s out i Q⟩
theorem v45L (s : List (Int × Int)) (out : List Int) (i : Int) (Q : AX → St → Prop) : (xloop2 Try.prog {} 5 45 0 lc45 (fun _ => some (sh45e, 1)) (fun (s, _, i, _) => mL s i) (s, out, i, ()) Q) =
  (Go.Lom.fork (Decidable.decide (i < (↑(List.length s) : Int)))
      (Go.Lom.req (Decidable.decide ((0 : Int) ≤ i ∧ i < (↑(List.length s) : Int)))
        (Go.Lom.req (Decidable.decide ((0 : Nat) + List.length out ≤ List.length out))
          (Go.Lom.req
            (Go.Lom.fitsN
              (List.length out +
                List.length (Go.Lom.seg (0 : Nat) (1 : Nat) [Prod.fst (List.getD s (Int.toNat i) ((0 : Int), (0 : Int)))]))
              (8 : Nat))
            (Go.Lom.req (Go.Lom.inR Go.IntKind.i64 (i + (1 : Int)))
              (Go.Lom.req
                (Decidable.decide
                  ((0 : Nat) +
                      (List.length out +
                        List.length
                          (Go.Lom.seg (0 : Nat) (1 : Nat) [Prod.fst (List.getD s (Int.toNat i) ((0 : Int), (0 : Int)))])) ≤
                    List.length
                      (Go.Lom.seg (0 : Nat) (List.length out) out ++
                        Go.Lom.seg (0 : Nat) (1 : Nat) [Prod.fst (List.getD s (Int.toNat i) ((0 : Int), (0 : Int)))])))
                (Go.P9.mL s (i + (1 : Int)) < Go.P9.mL s i ∧
                  Go.Lom.LC2.spec Go.P9.lc45
                    (s,
                      Go.Lom.seg (0 : Nat)
                        (List.length out +
                          List.length
                            (Go.Lom.seg (0 : Nat) (1 : Nat) [Prod.fst (List.getD s (Int.toNat i) ((0 : Int), (0 : Int)))]))
                        (Go.Lom.seg (0 : Nat) (List.length out) out ++
                          Go.Lom.seg (0 : Nat) (1 : Nat) [Prod.fst (List.getD s (Int.toNat i) ((0 : Int), (0 : Int)))]),
                      i + (1 : Int), ())
                    Q))))))
      (Go.Lom.req (Decidable.decide ((0 : Nat) + List.length out ≤ List.length out))
        (Q (Go.Lom.AX.exit (0 : Nat)) (Go.Lom.stS (1 : Nat) Go.P9.sh45e (Go.Lom.seg (0 : Nat) (List.length out) out, ()))))) := by kernel_rfl
abbrev fcLows : FC := ⟨[.v LSp], [L], fun x K => x.1.length ≤ 1000000 ∧ K (lowsL x.1, ())⟩
theorem v45F (s : List (Int × Int)) (K : dens [L] → Prop) : (xfn1 Try.prog { l2 := [(45, 0, lc45)] } 5 45 fcLows (s, ()) K) =
  ((List.length s ≤ (1000000 : Nat) ∧
        (0 : Int) ≤ (0 : Int) ∧ (0 : Int) ≤ (↑(List.length s) : Int) ∧ (0 : Int) ≤ (0 : Int)) ∧
      Go.Lom.req
        (Decidable.decide
          ((0 : Nat) + List.length ([] ++ Go.P9.lowsL (List.drop (0 : Nat) s)) ≤
            List.length ([] ++ Go.P9.lowsL (List.drop (0 : Nat) s))))
        (K
          (Go.Lom.seg (0 : Nat) (List.length ([] ++ Go.P9.lowsL (List.drop (0 : Nat) s)))
              ([] ++ Go.P9.lowsL (List.drop (0 : Nat) s)),
            ()))) := by kernel_rfl
abbrev sh12 : SV := S [(1, .v L), (2, bF), (5, .v .b), (7, .v L), (8, .v I), (9, .v .b), (10, .v I)]
abbrev sh12e : SV := S [(5, .v .b), (9, .v .b)]
def ex12 : Ex2
  | .ret => some (shR4, 0)
  | _ => some (sh12e, 0)
def s12 (l : List Int) (f : Fd) (is : Bool) (n : List Int) (br : Int) (fl : Bool) (t : Int) (Q : LQ) : Prop :=
  (okS f l n t br ∧ n = needsL f ∧ br = (((List.range t.toNat).map fun j => l.getD j 0 * ((fPrices f).getD j (0, 0)).1).sum)) ∧ Q (.exit 0) (stS 0 sh12e (is, fl || !soundN f l (n.drop t.toNat) t br, ()))
abbrev lc12 : LC2 := ⟨0, sh12, 1, fun (l, f, is, n, br, fl, t, _) Q => s12 l f is n br fl t Q⟩
theorem v12L (l : List Int) (f : Fd) (is : Bool) (n : List Int) (br : Int) (fl : Bool) (t : Int) (Q : AX → St → Prop) : (xloop2 Try.prog { f := [(43, fcExam), (45, fcLows), (14, fcFollow), (41, fcWorstE), (44, fcBy)] } 5 12 0 lc12 ex12 (fun (_, _, _, n, _, _, t, _) => mL n t) (l, f, is, n, br, fl, t, ()) Q) =
  (Go.Lom.fork (Decidable.decide (t < (↑(List.length n) : Int)))
      (Go.Lom.req (Decidable.decide ((0 : Int) ≤ t ∧ t < (↑(List.length l) : Int)))
        (Go.Lom.req
          (Decidable.decide
            ((0 : Int) ≤ t ∧ t < (↑(List.length (Prod.fst (Prod.snd (Prod.snd (Prod.snd (Prod.snd f)))))) : Int)))
          (Go.Lom.req
            (Go.Lom.inR Go.IntKind.i64
              (List.getD l (Int.toNat t) (0 : Int) *
                Prod.fst
                  (List.getD (Prod.fst (Prod.snd (Prod.snd (Prod.snd (Prod.snd f))))) (Int.toNat t)
                    ((0 : Int), (0 : Int)))))
            (Go.Lom.req
              (Go.Lom.inR Go.IntKind.i64
                (br +
                  List.getD l (Int.toNat t) (0 : Int) *
                    Prod.fst
                      (List.getD (Prod.fst (Prod.snd (Prod.snd (Prod.snd (Prod.snd f))))) (Int.toNat t)
                        ((0 : Int), (0 : Int)))))
              (Go.P9.bigF f ∧
                List.length (Prod.fst (Prod.snd f)) ≤ (1000000 : Nat) ∧
                  Go.Lom.AV.rl Go.P9.Sp (Prod.fst (Prod.snd (Prod.snd (Prod.snd (Prod.snd f))))) =
                      Go.Lom.AV.rl Go.P9.Sp (Prod.fst (Prod.snd (Prod.snd (Prod.snd (Prod.snd f))))) ∧
                    Go.Lom.AV.agg
                          [Go.Lom.AV.rl Go.P9.I (Prod.fst (Go.P9.exR f t)),
                            Go.Lom.AV.rl Go.P9.L (Prod.snd (Go.P9.exR f t))] =
                        Go.Lom.AV.agg
                          [Go.Lom.AV.rl Go.P9.I (Prod.fst (Go.P9.exR f t)),
                            Go.Lom.AV.rl Go.P9.L (Prod.snd (Go.P9.exR f t))] ∧
                      Go.Lom.AV.agg
                            [Go.Lom.AV.int Go.IntKind.i64 (Prod.fst f), Go.Lom.AV.rl Go.P9.Sp (Prod.fst (Prod.snd f)),
                              Go.Lom.AV.rl Go.P9.I (Prod.fst (Prod.snd (Prod.snd f))),
                              Go.Lom.AV.rl Go.P9.I (Prod.fst (Prod.snd (Prod.snd (Prod.snd f)))),
                              Go.Lom.AV.rl Go.P9.Sp (Prod.fst (Prod.snd (Prod.snd (Prod.snd (Prod.snd f))))),
                              Go.Lom.AV.rl Go.P9.G3 (Prod.fst (Prod.snd (Prod.snd (Prod.snd (Prod.snd (Prod.snd f)))))),
                              Go.Lom.AV.rl Go.P9.G3
                                (Prod.fst (Prod.snd (Prod.snd (Prod.snd (Prod.snd (Prod.snd (Prod.snd f))))))),
                              Go.Lom.AV.int Go.IntKind.i64
                                (Prod.fst (Prod.snd (Prod.snd (Prod.snd (Prod.snd (Prod.snd (Prod.snd (Prod.snd f)))))))),
                              Go.Lom.AV.int Go.IntKind.i64
                                (Prod.snd (Prod.snd (Prod.snd (Prod.snd (Prod.snd (Prod.snd (Prod.snd (Prod.snd f))))))))] =
                          Go.Lom.AV.agg
                            [Go.Lom.AV.int Go.IntKind.i64 (Prod.fst f), Go.Lom.AV.rl Go.P9.Sp (Prod.fst (Prod.snd f)),
                              Go.Lom.AV.rl Go.P9.I (Prod.fst (Prod.snd (Prod.snd f))),
                              Go.Lom.AV.rl Go.P9.I (Prod.fst (Prod.snd (Prod.snd (Prod.snd f)))),
                              Go.Lom.AV.rl Go.P9.Sp (Prod.fst (Prod.snd (Prod.snd (Prod.snd (Prod.snd f))))),
                              Go.Lom.AV.rl Go.P9.G3 (Prod.fst (Prod.snd (Prod.snd (Prod.snd (Prod.snd (Prod.snd f)))))),
                              Go.Lom.AV.rl Go.P9.G3
                                (Prod.fst (Prod.snd (Prod.snd (Prod.snd (Prod.snd (Prod.snd (Prod.snd f))))))),
                              Go.Lom.AV.int Go.IntKind.i64
                                (Prod.fst (Prod.snd (Prod.snd (Prod.snd (Prod.snd (Prod.snd (Prod.snd (Prod.snd f)))))))),
                              Go.Lom.AV.int Go.IntKind.i64
                                (Prod.snd (Prod.snd (Prod.snd (Prod.snd (Prod.snd (Prod.snd (Prod.snd (Prod.snd f))))))))] ∧
                        List.length (Prod.fst (Prod.snd (Prod.snd (Prod.snd (Prod.snd f))))) ≤ (1000000 : Nat) ∧
                          Go.Lom.AV.agg
                                [Go.Lom.AV.rl Go.P9.I (Prod.fst (Go.P9.exR f t)),
                                  Go.Lom.AV.rl Go.P9.L (Prod.snd (Go.P9.exR f t))] =
                              Go.Lom.AV.agg
                                [Go.Lom.AV.rl Go.P9.I (Prod.fst (Go.P9.exR f t)),
                                  Go.Lom.AV.rl Go.P9.L (Prod.snd (Go.P9.exR f t))] ∧
                            Go.Lom.AV.agg
                                  [Go.Lom.AV.int Go.IntKind.i64 (Prod.fst f), Go.Lom.AV.rl Go.P9.Sp (Prod.fst (Prod.snd f)),
                                    Go.Lom.AV.rl Go.P9.I (Prod.fst (Prod.snd (Prod.snd f))),
                                    Go.Lom.AV.rl Go.P9.I (Prod.fst (Prod.snd (Prod.snd (Prod.snd f)))),
                                    Go.Lom.AV.rl Go.P9.Sp (Prod.fst (Prod.snd (Prod.snd (Prod.snd (Prod.snd f))))),
                                    Go.Lom.AV.rl Go.P9.G3
                                      (Prod.fst (Prod.snd (Prod.snd (Prod.snd (Prod.snd (Prod.snd f)))))),
                                    Go.Lom.AV.rl Go.P9.G3
                                      (Prod.fst (Prod.snd (Prod.snd (Prod.snd (Prod.snd (Prod.snd (Prod.snd f))))))),
                                    Go.Lom.AV.int Go.IntKind.i64
                                      (Prod.fst
                                        (Prod.snd (Prod.snd (Prod.snd (Prod.snd (Prod.snd (Prod.snd (Prod.snd f)))))))),
                                    Go.Lom.AV.int Go.IntKind.i64
                                      (Prod.snd
                                        (Prod.snd (Prod.snd (Prod.snd (Prod.snd (Prod.snd (Prod.snd (Prod.snd f))))))))] =
                                Go.Lom.AV.agg
                                  [Go.Lom.AV.int Go.IntKind.i64 (Prod.fst f), Go.Lom.AV.rl Go.P9.Sp (Prod.fst (Prod.snd f)),
                                    Go.Lom.AV.rl Go.P9.I (Prod.fst (Prod.snd (Prod.snd f))),
                                    Go.Lom.AV.rl Go.P9.I (Prod.fst (Prod.snd (Prod.snd (Prod.snd f)))),
                                    Go.Lom.AV.rl Go.P9.Sp (Prod.fst (Prod.snd (Prod.snd (Prod.snd (Prod.snd f))))),
                                    Go.Lom.AV.rl Go.P9.G3
                                      (Prod.fst (Prod.snd (Prod.snd (Prod.snd (Prod.snd (Prod.snd f)))))),
                                    Go.Lom.AV.rl Go.P9.G3
                                      (Prod.fst (Prod.snd (Prod.snd (Prod.snd (Prod.snd (Prod.snd (Prod.snd f))))))),
                                    Go.Lom.AV.int Go.IntKind.i64
                                      (Prod.fst
                                        (Prod.snd (Prod.snd (Prod.snd (Prod.snd (Prod.snd (Prod.snd (Prod.snd f)))))))),
                                    Go.Lom.AV.int Go.IntKind.i64
                                      (Prod.snd
                                        (Prod.snd (Prod.snd (Prod.snd (Prod.snd (Prod.snd (Prod.snd (Prod.snd f))))))))] ∧
                              (Go.P9.bigF f ∧
                                  Go.P9.bigC
                                    (l, Go.P9.exR f t, Go.P9.lowsL (Prod.fst (Prod.snd f)),
                                      Go.P9.lowsL (Prod.fst (Prod.snd (Prod.snd (Prod.snd (Prod.snd f))))))) ∧
                                Go.P9.bigF f ∧
                                  Go.Lom.fork (Prod.snd (Prod.snd (Go.P9.worstE f t)) != (0 : Int))
                                    (Q Go.Lom.AX.ret (Go.Lom.stS (0 : Nat) Go.P9.shR4 (Bool.false, ())))
                                    (Go.Lom.fork
                                      (Go.P9.folE f
                                          (l, Go.P9.exR f t, Go.P9.lowsL (Prod.fst (Prod.snd f)),
                                            Go.P9.lowsL (Prod.fst (Prod.snd (Prod.snd (Prod.snd (Prod.snd f)))))) !=
                                        (0 : Int))
                                      (Q Go.Lom.AX.ret (Go.Lom.stS (0 : Nat) Go.P9.shR4 (Bool.false, ())))
                                      (Go.Lom.fork (Prod.snd (Prod.snd (Go.P9.worstE f t)) != (0 : Int))
                                        (Q Go.Lom.AX.ret (Go.Lom.stS (0 : Nat) Go.P9.shR4 (Bool.false, ())))
                                        (Go.Lom.fork
                                          ((↑(List.length
                                                  (Go.P9.folR f
                                                    (l, Go.P9.exR f t, Go.P9.lowsL (Prod.fst (Prod.snd f)),
                                                      Go.P9.lowsL
                                                        (Prod.fst (Prod.snd (Prod.snd (Prod.snd (Prod.snd f)))))))) :
                                              Int) !=
                                            (↑(List.length n) : Int))
                                          (Q Go.Lom.AX.ret (Go.Lom.stS (0 : Nat) Go.P9.shR4 (Bool.false, ())))
                                          (Go.Lom.req
                                            (Decidable.decide
                                              ((0 : Int) ≤ t ∧
                                                t <
                                                  (↑(List.length
                                                        (Go.P9.folR f
                                                          (l, Go.P9.exR f t, Go.P9.lowsL (Prod.fst (Prod.snd f)),
                                                            Go.P9.lowsL
                                                              (Prod.fst (Prod.snd (Prod.snd (Prod.snd (Prod.snd f)))))))) :
                                                    Int)))
                                            (Go.Lom.req (Decidable.decide ((0 : Int) ≤ t ∧ t < (↑(List.length n) : Int)))
                                              (Go.Lom.req
                                                (Go.Lom.inR Go.IntKind.i64
                                                  (br +
                                                      List.getD l (Int.toNat t) (0 : Int) *
                                                        Prod.fst
                                                          (List.getD
                                                            (Prod.fst (Prod.snd (Prod.snd (Prod.snd (Prod.snd f)))))
                                                            (Int.toNat t) ((0 : Int), (0 : Int))) -
                                                    List.getD n (Int.toNat t) (0 : Int)))
                                                (Go.Lom.fork
                                                  (List.getD
                                                      (Go.P9.folR f
                                                        (l, Go.P9.exR f t, Go.P9.lowsL (Prod.fst (Prod.snd f)),
                                                          Go.P9.lowsL
                                                            (Prod.fst (Prod.snd (Prod.snd (Prod.snd (Prod.snd f)))))))
                                                      (Int.toNat t) (0 : Int) !=
                                                    br +
                                                        List.getD l (Int.toNat t) (0 : Int) *
                                                          Prod.fst
                                                            (List.getD
                                                              (Prod.fst (Prod.snd (Prod.snd (Prod.snd (Prod.snd f)))))
                                                              (Int.toNat t) ((0 : Int), (0 : Int))) -
                                                      List.getD n (Int.toNat t) (0 : Int))
                                                  (Q Go.Lom.AX.ret (Go.Lom.stS (0 : Nat) Go.P9.shR4 (Bool.false, ())))
                                                  ((Go.P9.inRun (Go.P9.exR f t) ∧
                                                      (0 : Go.Lom.AT.den (Go.Lom.AT.v Go.P9.I)) ≤ t ∧
                                                        t ≤ (12 : Go.Lom.AT.den (Go.Lom.AT.v Go.P9.I))) ∧
                                                    Go.Lom.fork
                                                      (Go.P9.byI (Prod.snd (Go.P9.exR f t)) t (0 : Int) !=
                                                        Prod.fst (Prod.snd (Go.P9.worstE f t)))
                                                      (Q Go.Lom.AX.ret (Go.Lom.stS (0 : Nat) Go.P9.shR4 (Bool.false, ())))
                                                      (Go.Lom.fork
                                                        (Decidable.decide
                                                          ((↑(List.length (Prod.fst (Go.P9.worstE f t))) : Int) >
                                                            Prod.fst
                                                              (Prod.snd
                                                                (Prod.snd
                                                                  (Prod.snd
                                                                    (Prod.snd (Prod.snd (Prod.snd (Prod.snd f)))))))))
                                                        (Q Go.Lom.AX.ret (Go.Lom.stS (0 : Nat) Go.P9.shR4 (Bool.false, ())))
                                                        (Go.Lom.fork fl
                                                          (Go.Lom.req (Go.Lom.inR Go.IntKind.i64 (t + (1 : Int)))
                                                            (Go.P9.mL n (t + (1 : Int)) < Go.P9.mL n t ∧
                                                              Go.Lom.LC2.spec Go.P9.lc12
                                                                (l, f, is, n,
                                                                  br +
                                                                    List.getD l (Int.toNat t) (0 : Int) *
                                                                      Prod.fst
                                                                        (List.getD
                                                                          (Prod.fst
                                                                            (Prod.snd (Prod.snd (Prod.snd (Prod.snd f)))))
                                                                          (Int.toNat t) ((0 : Int), (0 : Int))),
                                                                  Bool.true, t + (1 : Int), ())
                                                                Q))
                                                          (Go.Lom.req
                                                            (Decidable.decide
                                                              ((0 : Int) ≤ t ∧
                                                                t <
                                                                  (↑(List.length
                                                                        (Go.P9.folR f
                                                                          (l, Go.P9.exR f t,
                                                                            Go.P9.lowsL (Prod.fst (Prod.snd f)),
                                                                            Go.P9.lowsL
                                                                              (Prod.fst
                                                                                (Prod.snd
                                                                                  (Prod.snd (Prod.snd (Prod.snd f)))))))) :
                                                                    Int)))
                                                            (Go.Lom.req (Go.Lom.inR Go.IntKind.i64 (t + (1 : Int)))
                                                              (Go.P9.mL n (t + (1 : Int)) < Go.P9.mL n t ∧
                                                                Go.Lom.LC2.spec Go.P9.lc12
                                                                  (l, f, is, n,
                                                                    br +
                                                                      List.getD l (Int.toNat t) (0 : Int) *
                                                                        Prod.fst
                                                                          (List.getD
                                                                            (Prod.fst
                                                                              (Prod.snd (Prod.snd (Prod.snd (Prod.snd f)))))
                                                                            (Int.toNat t) ((0 : Int), (0 : Int))),
                                                                    Decidable.decide
                                                                      (List.getD
                                                                          (Go.P9.folR f
                                                                            (l, Go.P9.exR f t,
                                                                              Go.P9.lowsL (Prod.fst (Prod.snd f)),
                                                                              Go.P9.lowsL
                                                                                (Prod.fst
                                                                                  (Prod.snd
                                                                                    (Prod.snd (Prod.snd (Prod.snd f)))))))
                                                                          (Int.toNat t) (0 : Int) <
                                                                        (0 : Int)),
                                                                    t + (1 : Int), ())
                                                                  Q))))))))))))))))))
      (Q (Go.Lom.AX.exit (0 : Nat)) (Go.Lom.stS (0 : Nat) Go.P9.sh12e (is, fl, ())))) := by kernel_rfl
abbrev fc12 : FC := ⟨[.v TF, .v L], [.b], fun x K => (bigF x.1 ∧ x.2.1.length ≤ 9223372036854775807) ∧ K (true, ())⟩
theorem v12F (f : Fd) (l : List Int) (K : dens [.b] → Prop) : (xfn1 Try.prog { f := [(17, fcSound), (39, fcNeeds), (19, fcWorks)], l2 := [(12, 0, lc12)] } 5 12 fc12 (f, l, ()) K) =
  ((Go.P9.bigF f ∧ List.length l ≤ (9223372036854775807 : Nat)) ∧
      Go.Lom.fork (Go.P9.soundE f l != (0 : Int))
        (Go.Lom.fork (!(Go.P9.okF f && (Go.P9.planB f l && Go.P9.soundB f l))) (K (Bool.true, ())) (K (Bool.false, ())))
        (Go.P9.bigF f ∧
          Go.Lom.fork (Go.P9.chkE f != (0 : Int)) (K (Bool.false, ()))
            (Go.Lom.fork ((↑(List.length (Go.P9.needsR f)) : Int) != (↑(List.length (Prod.fst (Prod.snd f))) : Int))
              (K (Bool.false, ()))
              (Go.Lom.fork ((↑(List.length l) : Int) != (↑(List.length (Go.P9.needsR f)) : Int)) (K (Bool.false, ()))
                (Go.Lom.fork
                  ((↑(List.length (Prod.fst (Prod.snd (Prod.snd (Prod.snd (Prod.snd f)))))) : Int) !=
                    (↑(List.length (Go.P9.needsR f)) : Int))
                  (K (Bool.false, ()))
                  ((Go.P9.okS f l (Go.P9.needsR f) (0 : Int) (0 : Int) ∧
                      Go.P9.needsR f = Go.P9.needsL f ∧
                        (0 : Int) =
                          List.sum
                            (List.map
                              (fun j =>
                                List.getD l j (0 : Int) * Prod.fst (List.getD (Go.P9.fPrices f) j ((0 : Int), (0 : Int))))
                              (List.range (0 : Nat)))) ∧
                    Go.Lom.fork
                      (!(Go.P9.okF f && (Go.P9.planB f l && Go.P9.soundB f l)) ==
                          (Bool.false || !Go.P9.soundN f l (List.drop (0 : Nat) (Go.P9.needsR f)) (0 : Int) (0 : Int)))
                      (K (Bool.true, ())) (K (Bool.false, ())))))))) := by kernel_rfl
end Go.P9
