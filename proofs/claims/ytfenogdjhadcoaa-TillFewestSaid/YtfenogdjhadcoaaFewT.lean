/- TillFewest: what is to be shown of change. No conditions. -/
import Derived.Test.YtfenogdjhadcoaaFewS
set_option linter.unusedSimpArgs false
set_option linter.unusedVariables false
set_option linter.constructorNameAsVariable false
set_option maxRecDepth 100000
namespace Go.P8
open Go.Lom Go.Proofs Go
def tailP (d : Dr) (g : List Int) (p : Int) (K : dens [.b] → Prop) : Prop :=
  ((List.length (Prod.fst d) ≤ (9223372036854775807 : Nat) ∧
                          List.length (Prod.snd d) ≤ (9223372036854775807 : Nat) ∧
                            List.length g ≤ (9223372036854775807 : Nat)) ∧
                        ∀ (r : List Int) (e : Int),
                          (r, e) = Go.P8.changeE d g p →
                            Go.Lom.fork (e != (0 : Int))
                              (Go.Lom.fork ((↑(List.length r) : Int) == (0 : Int)) (K (Bool.true, ())) (K (Bool.false, ())))
                              (Go.Lom.fork ((↑(List.length g) : Int) != (↑(List.length (Prod.snd d)) : Int))
                                (K (Bool.false, ()))
                                (Go.Lom.fork ((↑(List.length g) : Int) != (↑(List.length (Prod.fst d)) : Int))
                                  (K (Bool.false, ()))
                                  (((0 : Go.Lom.SV.den (Go.Lom.SV.slot (17 : Nat) (Go.Lom.SV.v Go.P8.I))) ≤ (0 : Int) ∧
                                      (0 : Int) ≤
                                          (↑(List.length g) :
                                            Go.Lom.SV.den (Go.Lom.SV.slot (17 : Nat) (Go.Lom.SV.v Go.P8.I))) ∧
                                        List.length g ≤ (8 : Nat) ∧
                                          List.length (Prod.snd d) = List.length g ∧
                                            (0 : Int) ≤ (0 : Int) ∧
                                              (∀ (x : Go.Lom.Ty.den Go.P8.I),
                                                  x ∈ g →
                                                    (0 : Go.Lom.Ty.den Go.P8.I) ≤ x ∧ x ≤ (50 : Go.Lom.Ty.den Go.P8.I)) ∧
                                                ∀ (x : Go.Lom.Ty.den Go.P8.I),
                                                  x ∈ Prod.snd d →
                                                    (0 : Go.Lom.Ty.den Go.P8.I) ≤ x ∧ x ≤ (50 : Go.Lom.Ty.den Go.P8.I)) ∧
                                    ∀
                                      (r_1 :
                                        Go.Lom.SV.den
                                          (Go.Lom.SV.slot (Prod.fst ((16 : Nat), Go.Lom.SV.own (1 : Nat) Go.P8.I))
                                            (Prod.snd ((16 : Nat), Go.Lom.SV.own (1 : Nat) Go.P8.I)))),
                                      r_1 = [] ++ Go.P8.addL (List.drop (0 : Nat) (Prod.snd d)) (List.drop (0 : Nat) g) →
                                        List.length (Prod.snd d) ≤ (9223372036854775807 : Nat) ∧
                                          ∀ (n : Int) (b : Bool),
                                            b =
                                                (Go.P8.goodF (Prod.fst d) (Prod.snd d) (Prod.snd d) (0 : Nat) &&
                                                  Decidable.decide (List.length (Prod.snd d) = List.length (Prod.fst d))) →
                                              Go.Lom.inR Go.IntKind.i64 n = Bool.true →
                                                (List.length (Prod.fst d) ≤ (8 : Nat) →
                                                    Go.P8.goodF (Prod.fst d) (Prod.snd d) (Prod.snd d) (0 : Nat) =
                                                        Bool.true →
                                                      n = Go.P8.valueN (Prod.fst d) (Prod.snd d)) →
                                                  Go.Lom.req
                                                    (Decidable.decide ((0 : Nat) + List.length r_1 ≤ List.length r_1))
                                                    (Go.Lom.req
                                                      (Decidable.decide ((0 : Nat) + List.length r_1 ≤ List.length r_1))
                                                      (List.length (Go.Lom.seg (0 : Nat) (List.length r_1) r_1) ≤
                                                          (9223372036854775807 : Nat) ∧
                                                        ∀ (n_1 : Int) (b : Bool),
                                                          b =
                                                              (Go.P8.goodF (Prod.fst d)
                                                                  (Go.Lom.seg (0 : Nat) (List.length r_1) r_1)
                                                                  (Go.Lom.seg (0 : Nat) (List.length r_1) r_1) (0 : Nat) &&
                                                                Decidable.decide
                                                                  (List.length
                                                                      (Go.Lom.seg (0 : Nat) (List.length r_1) r_1) =
                                                                    List.length (Prod.fst d))) →
                                                            Go.Lom.inR Go.IntKind.i64 n_1 = Bool.true →
                                                              (List.length (Prod.fst d) ≤ (8 : Nat) →
                                                                  Go.P8.goodF (Prod.fst d)
                                                                        (Go.Lom.seg (0 : Nat) (List.length r_1) r_1)
                                                                        (Go.Lom.seg (0 : Nat) (List.length r_1) r_1)
                                                                        (0 : Nat) =
                                                                      Bool.true →
                                                                    n_1 =
                                                                      Go.P8.valueN (Prod.fst d)
                                                                        (Go.Lom.seg (0 : Nat) (List.length r_1) r_1)) →
                                                                Go.Lom.req
                                                                  (Decidable.decide
                                                                    ((0 : Nat) + List.length r_1 ≤ List.length r_1))
                                                                  (List.length r ≤ (9223372036854775807 : Nat) ∧
                                                                    ∀ (n_2 : Int) (b : Bool),
                                                                      b =
                                                                          (Go.P8.goodF (Prod.fst d) r
                                                                              (Go.Lom.seg (0 : Nat) (List.length r_1) r_1)
                                                                              (0 : Nat) &&
                                                                            Decidable.decide
                                                                              (List.length r = List.length (Prod.fst d))) →
                                                                        Go.Lom.inR Go.IntKind.i64 n_2 = Bool.true →
                                                                          (List.length (Prod.fst d) ≤ (8 : Nat) →
                                                                              Go.P8.goodF (Prod.fst d) r
                                                                                    (Go.Lom.seg (0 : Nat) (List.length r_1)
                                                                                      r_1)
                                                                                    (0 : Nat) =
                                                                                  Bool.true →
                                                                                n_2 = Go.P8.valueN (Prod.fst d) r) →
                                                                            Go.Lom.fork b
                                                                              (Go.Lom.req
                                                                                (Go.Lom.inR Go.IntKind.i64 (n_1 - n_2))
                                                                                (Go.Lom.req
                                                                                  (Go.Lom.inR Go.IntKind.i64 (n + p))
                                                                                  (Go.Lom.fork (n_1 - n_2 == n + p)
                                                                                    (K (Bool.true, ()))
                                                                                    (K (Bool.false, ())))))
                                                                              (K (Bool.false, ())))))))))
end Go.P8
