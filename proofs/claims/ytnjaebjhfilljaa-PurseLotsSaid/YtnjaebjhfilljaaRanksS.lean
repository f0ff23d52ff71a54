/- Spread of both sides, and the laws of shares and of ranks: states and what is to be shown, reduced. No conditions. -/
import Derived.Test.YtnjaebjhfilljaaRanksL
import Derived.Test.YtnjaebjhfilljaaAloneS
set_option linter.unusedSimpArgs false
set_option linter.constructorNameAsVariable false
set_option maxRecDepth 100000
set_option maxHeartbeats 2000000
set_option linter.unusedVariables false
namespace Go.P7
open Go.Lom Go.Proofs Go

def spreadL (l : List (Int × Int)) (s : Int) : List Int × Int := spreadN l 10 0 (l.map fun _ => 0) s
def spreadR (l : List (Int × Int)) (s : Int) : List Int × Int × Int := if validD l = true then (if 0 ≤ s ∧ s ≤ 34359738368 then ((spreadL l s).1, (spreadL l s).2, 0) else ([], 0, 7)) else ([], 0, 71)
def sSp (l : List (Int × Int)) (s : Int) (K : List Int → Int → Int → Prop) : Prop := l.length ≤ big ∧ ∀ r n e, spreadR l s = (r, n, e) → K r n e
abbrev fcSp : FC := ⟨[.v LD, .v I], [L, I, E], fun x K => sSp x.1 x.2.1 fun r n e => K (r, n, e, ())⟩
theorem v17F (l : List (Int × Int)) (s : Int) (K : dens [L, I, E] → Prop) : (xfn Try.prog [(52, fcDues), (53, fcSpread)] [] 5 17 fcSp (l, s, ()) K) =
  (List.length l ≤ (9223372036854775807 : Nat) ∧
      Go.Lom.fork (!Go.P7.validD l) (K ([], (0 : Int), (71 : Int), ()))
        (Go.Lom.fork (Decidable.decide (s ≥ (0 : Int)))
          (Go.Lom.fork (!Decidable.decide (s ≤ (34359738368 : Int))) (K ([], (0 : Int), (7 : Int), ()))
            ((Go.P7.validD l = Bool.true ∧ (0 : Int) ≤ s ∧ s ≤ (34359738368 : Int)) ∧
              ∀ (o : List Int) (s' : Int),
                Go.P7.spreadN l (10 : Nat) (0 : Int) (List.map (fun x => (0 : Int)) l) s = (o, s') →
                  K (o, s', (0 : Int), ())))
          (K ([], (0 : Int), (7 : Int), ())))) := by kernel_rfl
theorem v18F (l : List (Int × Int)) (s : Int) (K : dens [L, I, E] → Prop) : (xfn Try.prog [(54, fcDues), (55, fcSpread), (24, fcFrom)] [] 5 18 fcSp (l, s, ()) K) =
  (List.length l ≤ (9223372036854775807 : Nat) ∧
      Go.Lom.fork (!Go.P7.validD l) (K ([], (0 : Int), (71 : Int), ()))
        (Go.Lom.fork (!Decidable.decide ((0 : Int) ≤ s ∧ s ≤ (34359738368 : Int))) (K ([], (0 : Int), (7 : Int), ()))
          ((Go.P7.validD l = Bool.true ∧ (0 : Int) ≤ s ∧ s ≤ (34359738368 : Int)) ∧
            ∀ (o : List Int) (s' : Int),
              Go.P7.spreadN l (10 : Nat) (0 : Int) (List.map (fun x => (0 : Int)) l) s = (o, s') →
                K (o, s', (0 : Int), ())))) := by kernel_rfl
def sLaw3 (w : List Int) (l : List (Int × Int)) (K : Bool → Prop) : Prop := (w.length ≤ big ∧ l.length ≤ big) ∧ K true
abbrev fc3 : FC := ⟨[.v L, .v LD, .v I], [.b], fun x K => sLaw3 x.1 x.2.1 fun r => K (r, ())⟩
theorem v3F (w : List Int) (l : List (Int × Int)) (s : Int) (K : dens [.b] → Prop) : (xfn Try.prog [(14, fcSh), (15, fcSh), (16, fcSame), (17, fcSp), (18, fcSp), (19, fcWorks)] [] 5 3 fc3 (w, l, s, ()) K) =
  (List.length w ≤ (9223372036854775807 : Nat) ∧
      ∀ (r : List Int) (e : Int),
        Go.P7.shareR w s = (r, e) →
          List.length w ≤ (9223372036854775807 : Nat) ∧
            ∀ (r_1 : List Int) (e_1 : Int),
              Go.P7.shareR w s = (r_1, e_1) →
                List.length r ≤ (9223372036854775807 : Nat) ∧
                  Go.Lom.fork (!Decidable.decide (r = r_1)) (K (Bool.false, ()))
                    (Go.Lom.fork (e != e_1) (K (Bool.false, ()))
                      (List.length l ≤ (9223372036854775807 : Nat) ∧
                        ∀ (r : List Int) (n e : Int),
                          Go.P7.spreadR l s = (r, n, e) →
                            List.length l ≤ (9223372036854775807 : Nat) ∧
                              ∀ (r_2 : List Int) (n_1 e_2 : Int),
                                Go.P7.spreadR l s = (r_2, n_1, e_2) →
                                  List.length r ≤ (9223372036854775807 : Nat) ∧
                                    Go.Lom.fork (Decidable.decide (r = r_2))
                                      (Go.Lom.fork (n == n_1)
                                        (Go.Lom.fork (e == e_2) (K (Bool.true, ())) (K (Bool.false, ())))
                                        (K (Bool.false, ())))
                                      (K (Bool.false, ()))))) := by kernel_rfl

abbrev shR6 : Shape := [(6, .v .b)]
abbrev sh8a : Shape := [(0, .v LD), (7, .v L), (8, .v I), (10, .v L), (12, .v I)]
def ex8a : AX → Option Shape
  | .ret => some shR6
  | _ => some []
abbrev sh8b : Shape := [(0, .v LD), (7, .v L), (8, .v I), (10, .v L), (12, .v I), (13, .v I)]
def ex8b : AX → Option Shape
  | .ret => some shR6
  | _ => some sh8a
def p8 (l : List (Int × Int)) (paid : List Int) (left : Int) (k : List Int) : Prop := validD l = true ∧ (∃ s, Upto l s 10 paid left) ∧ k.length = l.length ∧ ∀ i : Nat, i < l.length → paid.getD i 0 ≤ k.getD i 0
def s8a (l : List (Int × Int)) (paid : List Int) (left : Int) (k : List Int) (i : Int) (Q : LQ) : Prop := (p8 l paid left k ∧ 0 ≤ i ∧ i ≤ l.length) ∧ Q (.exit 0) (shSt [] ())
abbrev lc8a : LC := ⟨sh8a, fun x Q => s8a x.1 x.2.1 x.2.2.1 x.2.2.2.1 x.2.2.2.2.1 Q⟩
def s8b (l : List (Int × Int)) (paid : List Int) (left : Int) (k : List Int) (i j : Int) (Q : LQ) : Prop := (p8 l paid left k ∧ 0 ≤ i ∧ i < l.length ∧ 0 ≤ j ∧ j ≤ l.length) ∧ Q (.exit 2) (shSt sh8a (l, paid, left, k, i, ()))
abbrev lc8b : LC := ⟨sh8b, fun x Q => s8b x.1 x.2.1 x.2.2.1 x.2.2.2.1 x.2.2.2.2.1 x.2.2.2.2.2.1 Q⟩
theorem v8b (l : List (Int × Int)) (paid : List Int) (left : Int) (k : List Int) (i j : Int) (Q : AX → St → Prop) : (xloop Try.prog [] [] 5 8 1 lc8b ex8b (fun x => mLenD x.1 x.2.2.2.2.2.1) (l, paid, left, k, i, j, ()) Q) =
  (Go.Lom.fork (Decidable.decide (j < (↑(List.length l) : Int)))
      (Go.Lom.req (Decidable.decide ((0 : Int) ≤ j ∧ j < (↑(List.length l) : Int)))
        (Go.Lom.req (Decidable.decide ((0 : Int) ≤ i ∧ i < (↑(List.length l) : Int)))
          (Go.Lom.fork
            (Decidable.decide
              (Prod.fst (List.getD l (Int.toNat j) ((0 : Int), (0 : Int))) >
                Prod.fst (List.getD l (Int.toNat i) ((0 : Int), (0 : Int)))))
            (Go.Lom.req (Decidable.decide ((0 : Int) ≤ i ∧ i < (↑(List.length paid) : Int)))
              (Go.Lom.req (Decidable.decide ((0 : Int) ≤ i ∧ i < (↑(List.length l) : Int)))
                (Go.Lom.fork
                  (Decidable.decide
                    (List.getD paid (Int.toNat i) (0 : Int) < Prod.snd (List.getD l (Int.toNat i) ((0 : Int), (0 : Int)))))
                  (Go.Lom.req (Decidable.decide ((0 : Int) ≤ j ∧ j < (↑(List.length paid) : Int)))
                    (Go.Lom.fork (Decidable.decide (List.getD paid (Int.toNat j) (0 : Int) > (0 : Int)))
                      (Q Go.Lom.AX.ret (Go.Lom.shSt Go.P7.shR6 (Bool.false, ())))
                      (Go.Lom.req (Go.Lom.inR Go.IntKind.i64 (j + (1 : Int)))
                        (Go.P7.mLenD l (j + (1 : Int)) < Go.P7.mLenD l j ∧
                          Go.Lom.LC.spec Go.P7.lc8b (l, paid, left, k, i, j + (1 : Int), ()) Q))))
                  (Go.Lom.req (Go.Lom.inR Go.IntKind.i64 (j + (1 : Int)))
                    (Go.P7.mLenD l (j + (1 : Int)) < Go.P7.mLenD l j ∧
                      Go.Lom.LC.spec Go.P7.lc8b (l, paid, left, k, i, j + (1 : Int), ()) Q)))))
            (Go.Lom.req (Go.Lom.inR Go.IntKind.i64 (j + (1 : Int)))
              (Go.P7.mLenD l (j + (1 : Int)) < Go.P7.mLenD l j ∧
                Go.Lom.LC.spec Go.P7.lc8b (l, paid, left, k, i, j + (1 : Int), ()) Q)))))
      (Q (Go.Lom.AX.exit (2 : Nat)) (Go.Lom.shSt Go.P7.sh8a (l, paid, left, k, i, ())))) := by kernel_rfl
theorem v8a (l : List (Int × Int)) (paid : List Int) (left : Int) (k : List Int) (i : Int) (Q : AX → St → Prop) : (xloop Try.prog [(24, fcFrom)] [(8, 1, lc8b)] 5 8 0 lc8a ex8a (fun x => mLenD x.1 x.2.2.2.2.1) (l, paid, left, k, i, ()) Q) =
  (Go.Lom.fork (Decidable.decide (i < (↑(List.length l) : Int)))
      (Go.Lom.req (Decidable.decide ((0 : Int) ≤ i ∧ i < (↑(List.length paid) : Int)))
        (Go.Lom.req (Decidable.decide ((0 : Int) ≤ i ∧ i < (↑(List.length l) : Int)))
          (Go.Lom.fork
            (!Decidable.decide
                ((0 : Int) ≤ List.getD paid (Int.toNat i) (0 : Int) ∧
                  List.getD paid (Int.toNat i) (0 : Int) ≤ Prod.snd (List.getD l (Int.toNat i) ((0 : Int), (0 : Int)))))
            (Q Go.Lom.AX.ret (Go.Lom.shSt Go.P7.shR6 (Bool.false, ())))
            (Go.Lom.req (Decidable.decide ((0 : Int) ≤ i ∧ i < (↑(List.length paid) : Int)))
              (Go.Lom.req (Decidable.decide ((0 : Int) ≤ i ∧ i < (↑(List.length l) : Int)))
                (Go.Lom.fork
                  (Decidable.decide
                    (List.getD paid (Int.toNat i) (0 : Int) < Prod.snd (List.getD l (Int.toNat i) ((0 : Int), (0 : Int)))))
                  (Go.Lom.fork (Decidable.decide (left > (0 : Int)))
                    (Q Go.Lom.AX.ret (Go.Lom.shSt Go.P7.shR6 (Bool.false, ())))
                    (Go.Lom.req (Decidable.decide ((0 : Int) ≤ i ∧ i < (↑(List.length k) : Int)))
                      (Go.Lom.req (Decidable.decide ((0 : Int) ≤ i ∧ i < (↑(List.length paid) : Int)))
                        (Go.Lom.fork
                          (Decidable.decide (List.getD k (Int.toNat i) (0 : Int) < List.getD paid (Int.toNat i) (0 : Int)))
                          (Q Go.Lom.AX.ret (Go.Lom.shSt Go.P7.shR6 (Bool.false, ())))
                          ((Go.P7.p8 l paid left k ∧
                              (0 : Int) ≤ i ∧
                                i < (↑(List.length l) : Int) ∧
                                  (0 : Int) ≤ (0 : Int) ∧ (0 : Int) ≤ (↑(List.length l) : Int)) ∧
                            Go.Lom.req (Go.Lom.inR Go.IntKind.i64 (i + (1 : Int)))
                              (Go.P7.mLenD l (i + (1 : Int)) < Go.P7.mLenD l i ∧
                                Go.Lom.LC.spec Go.P7.lc8a (l, paid, left, k, i + (1 : Int), ()) Q))))))
                  (Go.Lom.req (Decidable.decide ((0 : Int) ≤ i ∧ i < (↑(List.length k) : Int)))
                    (Go.Lom.req (Decidable.decide ((0 : Int) ≤ i ∧ i < (↑(List.length paid) : Int)))
                      (Go.Lom.fork
                        (Decidable.decide (List.getD k (Int.toNat i) (0 : Int) < List.getD paid (Int.toNat i) (0 : Int)))
                        (Q Go.Lom.AX.ret (Go.Lom.shSt Go.P7.shR6 (Bool.false, ())))
                        ((Go.P7.p8 l paid left k ∧
                            (0 : Int) ≤ i ∧
                              i < (↑(List.length l) : Int) ∧ (0 : Int) ≤ (0 : Int) ∧ (0 : Int) ≤ (↑(List.length l) : Int)) ∧
                          Go.Lom.req (Go.Lom.inR Go.IntKind.i64 (i + (1 : Int)))
                            (Go.P7.mLenD l (i + (1 : Int)) < Go.P7.mLenD l i ∧
                              Go.Lom.LC.spec Go.P7.lc8a (l, paid, left, k, i + (1 : Int), ()) Q)))))))))))
      (Q (Go.Lom.AX.exit (0 : Nat)) (Go.Lom.shSt [] ()))) := by kernel_rfl
def sLaw8 (l : List (Int × Int)) (K : Bool → Prop) : Prop := l.length ≤ big ∧ K true
abbrev fc8 : FC := ⟨[.v LD, .v I, .v I], [.b], fun x K => sLaw8 x.1 fun r => K (r, ())⟩
theorem v8F (l : List (Int × Int)) (s more : Int) (K : dens [.b] → Prop) : (xfn Try.prog [(17, fcSp), (23, fcSum), (26, fcRing), (19, fcWorks)] [(8, 0, lc8a)] 5 8 fc8 (l, s, more, ()) K) =
  (List.length l ≤ (9223372036854775807 : Nat) ∧
      ∀ (r : List Int) (n e : Int),
        Go.P7.spreadR l s = (r, n, e) →
          Go.Lom.fork (e != (0 : Int))
            (Go.Lom.fork ((↑(List.length r) : Int) == (0 : Int))
              (Go.Lom.fork (n == (0 : Int)) (K (Bool.true, ())) (K (Bool.false, ()))) (K (Bool.false, ())))
            (Go.Lom.fork ((↑(List.length r) : Int) != (↑(List.length l) : Int)) (K (Bool.false, ()))
              ((List.length r ≤ (9223372036854775807 : Nat) ∧ Go.P7.fitS (0 : Int) r) ∧
                Go.Lom.req (Go.Lom.inR Go.IntKind.i64 (List.sum r + n))
                  (Go.Lom.fork (List.sum r + n != s) (K (Bool.false, ()))
                    (Go.Lom.fork (Decidable.decide (n < (0 : Int))) (K (Bool.false, ()))
                      ((1000 : Int) ≤ (4611686018427387904 : Int) ∧
                        ∀ (r_1 : Int),
                          r_1 = Go.P7.ringI more (1000 : Int) →
                            Go.Lom.req (Go.Lom.inR Go.IntKind.i64 (s + r_1))
                              (List.length l ≤ (9223372036854775807 : Nat) ∧
                                ∀ (r_2 : List Int) (n_1 e : Int),
                                  Go.P7.spreadR l (if s + r_1 < (34359738368 : Int) then s + r_1 else (34359738368 : Int)) =
                                      (r_2, n_1, e) →
                                    Go.Lom.fork (e != (0 : Int)) (K (Bool.false, ()))
                                      (Go.Lom.fork ((↑(List.length r_2) : Int) != (↑(List.length l) : Int))
                                        (K (Bool.false, ()))
                                        (Go.Lom.fork (Decidable.decide (n_1 < n)) (K (Bool.false, ()))
                                          ((Go.P7.p8 l r n r_2 ∧
                                              (0 : Int) ≤ (0 : Int) ∧ (0 : Int) ≤ (↑(List.length l) : Int)) ∧
                                            K (Bool.true, ()))))))))))) := by kernel_rfl
end Go.P7
