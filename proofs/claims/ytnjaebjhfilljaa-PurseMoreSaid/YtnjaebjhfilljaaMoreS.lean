/- The law of more: states and what is to be shown, reduced. No conditions. -/
import Derived.Test.YtnjaebjhfilljaaAloneS
set_option linter.unusedSimpArgs false
set_option linter.constructorNameAsVariable false
set_option maxRecDepth 100000
set_option maxHeartbeats 2000000
set_option linter.unusedVariables false
namespace Go.P7
open Go.Lom Go.Proofs Go

abbrev A3 : Ty := .pr I (.pr I I)
abbrev shR6m : Shape := [(6, .v .b)]
abbrev sh6 : Shape := [(0, .v L), (7, .v L), (9, .v L), (10, .v I), (12, .v L), (13, .v I)]
def ex6 : AX → Option Shape
  | .ret => some shR6m
  | _ => some []
def p6 (w l k : List Int) (i : Int) (m : List Int) : Prop := w.length ≤ 24 ∧ l.length = w.length ∧ k.length = w.length ∧ m.length = w.length ∧
  (∀ j : Nat, j < w.length → l.getD j 0 ≤ k.getD j 0 ∧ ((j : Int) = i → l.getD j 0 ≤ m.getD j 0) ∧ ((j : Int) ≠ i → m.getD j 0 ≤ l.getD j 0))
def s6L (w l k : List Int) (i : Int) (m : List Int) (j : Int) (Q : LQ) : Prop := (p6 w l k i m ∧ 0 ≤ j ∧ j ≤ w.length) ∧ Q (.exit 0) (shSt [] ())
abbrev lc6 : LC := ⟨sh6, fun x Q => s6L x.1 x.2.1 x.2.2.1 x.2.2.2.1 x.2.2.2.2.1 x.2.2.2.2.2.1 Q⟩
theorem v6L (w l k : List Int) (i : Int) (m : List Int) (j : Int) (Q : AX → St → Prop) : (xloop Try.prog [] [] 5 6 0 lc6 ex6 (fun x => mLen x.1 x.2.2.2.2.2.1) (w, l, k, i, m, j, ()) Q) =
  (Go.Lom.fork (Decidable.decide (j < (↑(List.length w) : Int)))
      (Go.Lom.req (Decidable.decide ((0 : Int) ≤ j ∧ j < (↑(List.length k) : Int)))
        (Go.Lom.req (Decidable.decide ((0 : Int) ≤ j ∧ j < (↑(List.length l) : Int)))
          (Go.Lom.fork (Decidable.decide (List.getD k (Int.toNat j) (0 : Int) < List.getD l (Int.toNat j) (0 : Int)))
            (Q Go.Lom.AX.ret (Go.Lom.shSt Go.P7.shR6m (Bool.false, ())))
            (Go.Lom.fork (j == i)
              (Go.Lom.req (Decidable.decide ((0 : Int) ≤ j ∧ j < (↑(List.length m) : Int)))
                (Go.Lom.req (Decidable.decide ((0 : Int) ≤ j ∧ j < (↑(List.length l) : Int)))
                  (Go.Lom.fork
                    (Decidable.decide (List.getD m (Int.toNat j) (0 : Int) < List.getD l (Int.toNat j) (0 : Int)))
                    (Q Go.Lom.AX.ret (Go.Lom.shSt Go.P7.shR6m (Bool.false, ())))
                    (Go.Lom.fork (j != i)
                      (Go.Lom.req (Decidable.decide ((0 : Int) ≤ j ∧ j < (↑(List.length m) : Int)))
                        (Go.Lom.req (Decidable.decide ((0 : Int) ≤ j ∧ j < (↑(List.length l) : Int)))
                          (Go.Lom.fork
                            (Decidable.decide (List.getD m (Int.toNat j) (0 : Int) > List.getD l (Int.toNat j) (0 : Int)))
                            (Q Go.Lom.AX.ret (Go.Lom.shSt Go.P7.shR6m (Bool.false, ())))
                            (Go.Lom.req (Go.Lom.inR Go.IntKind.i64 (j + (1 : Int)))
                              (Go.P7.mLen w (j + (1 : Int)) < Go.P7.mLen w j ∧
                                Go.Lom.LC.spec Go.P7.lc6 (w, l, k, i, m, j + (1 : Int), ()) Q)))))
                      (Go.Lom.req (Go.Lom.inR Go.IntKind.i64 (j + (1 : Int)))
                        (Go.P7.mLen w (j + (1 : Int)) < Go.P7.mLen w j ∧
                          Go.Lom.LC.spec Go.P7.lc6 (w, l, k, i, m, j + (1 : Int), ()) Q))))))
              (Go.Lom.fork (j != i)
                (Go.Lom.req (Decidable.decide ((0 : Int) ≤ j ∧ j < (↑(List.length m) : Int)))
                  (Go.Lom.req (Decidable.decide ((0 : Int) ≤ j ∧ j < (↑(List.length l) : Int)))
                    (Go.Lom.fork
                      (Decidable.decide (List.getD m (Int.toNat j) (0 : Int) > List.getD l (Int.toNat j) (0 : Int)))
                      (Q Go.Lom.AX.ret (Go.Lom.shSt Go.P7.shR6m (Bool.false, ())))
                      (Go.Lom.req (Go.Lom.inR Go.IntKind.i64 (j + (1 : Int)))
                        (Go.P7.mLen w (j + (1 : Int)) < Go.P7.mLen w j ∧
                          Go.Lom.LC.spec Go.P7.lc6 (w, l, k, i, m, j + (1 : Int), ()) Q)))))
                (Go.Lom.req (Go.Lom.inR Go.IntKind.i64 (j + (1 : Int)))
                  (Go.P7.mLen w (j + (1 : Int)) < Go.P7.mLen w j ∧
                    Go.Lom.LC.spec Go.P7.lc6 (w, l, k, i, m, j + (1 : Int), ()) Q)))))))
      (Q (Go.Lom.AX.exit (0 : Nat)) (Go.Lom.shSt [] ()))) := by kernel_rfl
def sLaw6 (w : List Int) (a b c : Int) (K : Bool → Prop) : Prop := (w.length ≤ big) ∧ K true
abbrev fc6 : FC := ⟨[.v L, .v I, .v A3], [.b], fun x K => sLaw6 x.1 x.2.2.1.1 x.2.2.1.2.1 x.2.2.1.2.2 fun r => K (r, ())⟩
theorem v6F (w : List Int) (s a b c : Int) (K : dens [.b] → Prop) : (xfn Try.prog [(14, fcSh), (26, fcRing), (19, fcWorks)] [(6, 0, lc6)] 5 6 fc6 (w, s, (a, b, c), ()) K) =
  (List.length w ≤ (9223372036854775807 : Nat) ∧
      ∀ (r : List Int) (e : Int),
        Go.P7.shareR w s = (r, e) →
          Go.Lom.fork (e != (0 : Int)) (Go.Lom.fork (e != (0 : Int)) (K (Bool.true, ())) (K (Bool.false, ())))
            (Go.Lom.fork ((↑(List.length r) : Int) != (↑(List.length w) : Int))
              (Go.Lom.fork (e != (0 : Int)) (K (Bool.true, ())) (K (Bool.false, ())))
              ((1000 : Int) ≤ (4611686018427387904 : Int) ∧
                ∀ (r_1 : Int),
                  r_1 = Go.P7.ringI a (1000 : Int) →
                    Go.Lom.req (Go.Lom.inR Go.IntKind.i64 (s + r_1))
                      (List.length w ≤ (9223372036854775807 : Nat) ∧
                        ∀ (r_2 : List Int) (e : Int),
                          Go.P7.shareR w (if s + r_1 < (34359738368 : Int) then s + r_1 else (34359738368 : Int)) =
                              (r_2, e) →
                            Go.Lom.fork (e != (0 : Int)) (K (Bool.false, ()))
                              (Go.Lom.fork ((↑(List.length r_2) : Int) != (↑(List.length w) : Int)) (K (Bool.false, ()))
                                ((↑(List.length w) : Int) ≤ (4611686018427387904 : Int) ∧
                                  ∀ (r_3 : Int),
                                    r_3 = Go.P7.ringI b (↑(List.length w) : Int) →
                                      Go.Lom.req (Go.Lom.fitsN ((0 : Nat) + List.length w) (8 : Nat))
                                        (Go.Lom.req
                                          (Decidable.decide ((0 : Int) ≤ r_3 ∧ r_3 < (↑((0 : Nat) + List.length w) : Int)))
                                          (Go.Lom.req
                                            (Decidable.decide
                                              (Int.toNat r_3 < List.length (Go.Lom.seg (0 : Nat) (0 : Nat) [] ++ w)))
                                            ((5000 : Int) ≤ (4611686018427387904 : Int) ∧
                                              ∀ (r_4 : Int),
                                                r_4 = Go.P7.ringI c (5000 : Int) →
                                                  Go.Lom.req
                                                      (Decidable.decide
                                                        (Int.toNat r_3 <
                                                          List.length (Go.Lom.seg (0 : Nat) (0 : Nat) [] ++ w)))
                                                      (Go.Lom.AV.int Go.IntKind.i64
                                                          (List.getD (Go.Lom.seg (0 : Nat) (0 : Nat) [] ++ w)
                                                            (Int.toNat r_3) (0 : Int)) =
                                                        Go.Lom.AV.int Go.IntKind.i64
                                                          (List.getD (Go.Lom.seg (0 : Nat) (0 : Nat) [] ++ w)
                                                            (Int.toNat r_3) (0 : Int))) ∧
                                                    Go.Lom.req
                                                      (Go.Lom.inR Go.IntKind.i64
                                                        (List.getD (Go.Lom.seg (0 : Nat) (0 : Nat) [] ++ w) (Int.toNat r_3)
                                                            (0 : Int) +
                                                          r_4))
                                                      (Go.Lom.req
                                                        (Decidable.decide
                                                          ((0 : Int) ≤ r_3 ∧ r_3 < (↑((0 : Nat) + List.length w) : Int)))
                                                        (Go.Lom.req
                                                          (Decidable.decide
                                                            (Int.toNat r_3 <
                                                              List.length (Go.Lom.seg (0 : Nat) (0 : Nat) [] ++ w)))
                                                          (Go.Lom.req
                                                            (Decidable.decide
                                                              ((0 : Nat) + ((0 : Nat) + List.length w) ≤
                                                                List.length
                                                                  (List.set (Go.Lom.seg (0 : Nat) (0 : Nat) [] ++ w)
                                                                    (Int.toNat r_3)
                                                                    (if
                                                                        List.getD (Go.Lom.seg (0 : Nat) (0 : Nat) [] ++ w)
                                                                              (Int.toNat r_3) (0 : Int) +
                                                                            r_4 <
                                                                          (67108864 : Int) then
                                                                      List.getD (Go.Lom.seg (0 : Nat) (0 : Nat) [] ++ w)
                                                                          (Int.toNat r_3) (0 : Int) +
                                                                        r_4
                                                                    else (67108864 : Int)))))
                                                            (List.length
                                                                  (Go.Lom.seg (0 : Nat) ((0 : Nat) + List.length w)
                                                                    (List.set (Go.Lom.seg (0 : Nat) (0 : Nat) [] ++ w)
                                                                      (Int.toNat r_3)
                                                                      (if
                                                                          List.getD (Go.Lom.seg (0 : Nat) (0 : Nat) [] ++ w)
                                                                                (Int.toNat r_3) (0 : Int) +
                                                                              r_4 <
                                                                            (67108864 : Int) then
                                                                        List.getD (Go.Lom.seg (0 : Nat) (0 : Nat) [] ++ w)
                                                                            (Int.toNat r_3) (0 : Int) +
                                                                          r_4
                                                                      else (67108864 : Int)))) ≤
                                                                (9223372036854775807 : Nat) ∧
                                                              ∀ (r_5 : List Int) (e : Int),
                                                                Go.P7.shareR
                                                                      (Go.Lom.seg (0 : Nat) ((0 : Nat) + List.length w)
                                                                        (List.set (Go.Lom.seg (0 : Nat) (0 : Nat) [] ++ w)
                                                                          (Int.toNat r_3)
                                                                          (if
                                                                              List.getD
                                                                                    (Go.Lom.seg (0 : Nat) (0 : Nat) [] ++ w)
                                                                                    (Int.toNat r_3) (0 : Int) +
                                                                                  r_4 <
                                                                                (67108864 : Int) then
                                                                            List.getD
                                                                                (Go.Lom.seg (0 : Nat) (0 : Nat) [] ++ w)
                                                                                (Int.toNat r_3) (0 : Int) +
                                                                              r_4
                                                                          else (67108864 : Int))))
                                                                      s =
                                                                    (r_5, e) →
                                                                  Go.Lom.fork (e != (0 : Int)) (K (Bool.false, ()))
                                                                    (Go.Lom.fork
                                                                      ((↑(List.length r_5) : Int) !=
                                                                        (↑(List.length w) : Int))
                                                                      (K (Bool.false, ()))
                                                                      ((Go.P7.p6 w r r_2 r_3 r_5 ∧
                                                                          (0 : Int) ≤ (0 : Int) ∧
                                                                            (0 : Int) ≤ (↑(List.length w) : Int)) ∧
                                                                        K (Bool.true, ())))))))))))))))) := by kernel_rfl
end Go.P7
