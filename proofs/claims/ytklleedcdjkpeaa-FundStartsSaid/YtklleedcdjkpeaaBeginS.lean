/- Funds: the law of starts: states and what is to be shown, reduced. No conditions. -/
import Derived.Test.YtklleedcdjkpeaaRunS
set_option linter.unusedSimpArgs false
set_option linter.unusedVariables false
set_option linter.constructorNameAsVariable false
set_option maxRecDepth 100000
set_option maxHeartbeats 2000000
namespace Go.P9
open Go.Lom Go.Proofs Go

abbrev fcRing : FC := ⟨[.v I, .v I], [I], fun x K => (x.2.1 ≤ 4611686018427387904) ∧ ∀ r : Int, (0 < x.2.1 → 0 ≤ r ∧ r < x.2.1) → K (r, ())⟩
theorem v33F (n m : Int) (K : dens [I] → Prop) : (xfn1 Try.prog {} 5 33 fcRing (n, m, ()) K) =
  (Go.Lom.fork (Decidable.decide (m ≤ (0 : Int))) (K ((0 : Int), ()))
      (Go.Lom.req (Decidable.decide (m ≠ (0 : Int)))
        (Go.Lom.req (Go.Lom.inR Go.IntKind.i64 (Int.tmod n m + m))
          (Go.Lom.req (Decidable.decide (m ≠ (0 : Int))) (K (Int.tmod (Int.tmod n m + m) m, ())))))) := by kernel_rfl
/-- A fund, groups with which it begins, their starts. -/
def begun (f : Fd) (l s : List Int) : Prop := okF f = true ∧ listsB (fGroups f).length l 0 = true ∧ l.length ≤ 9223372036854775807 ∧ s = startsL f l
def tightB (s : List Int) (i : Int) (w : Int × Int × Int) : Bool := decide (w.2.1 = i) && (decide (0 ≤ s.getD w.1.toNat 0) && decide (s.getD i.toNat 0 = s.getD w.1.toNat 0 + w.2.2))
abbrev shR6 : SV := S [(6, .v .b)]
abbrev sh8 : SV := S [(1, .v L), (2, .v I), (3, bF), (7, .v L)]
abbrev sh8a : SV := S [(1, .v L), (2, .v I), (3, bF), (7, .v L), (9, .v I)]
abbrev sh8x : SV := S [(1, .v L), (2, .v I), (3, bF), (7, .v L), (9, .v I), (10, .v .b)]
abbrev sh8b : SV := S [(1, .v L), (2, .v I), (3, bF), (7, .v L), (9, .v I), (10, .v .b), (11, .v I)]
def ex8b : Ex2
  | .ret => some (shR6, 0)
  | _ => some (sh8x, 1)
def s8b (l : List Int) (more : Int) (f : Fd) (s : List Int) (i : Int) (b : Bool) (k : Int) (Q : LQ) : Prop :=
  (begun f l s ∧ 0 ≤ k ∧ k ≤ (fWays f).length ∧ 0 ≤ i ∧ i < (fGroups f).length) ∧ Q (.exit 2) (stS 1 sh8x (l, more, f, s, i, b || ((fWays f).drop k.toNat).any (tightB s i), ()))
abbrev lc8b : LC2 := ⟨0, sh8b, 1, fun (l, more, f, s, i, b, k, _) Q => s8b l more f s i b k Q⟩
theorem v8b (l : List Int) (more : Int) (f : Fd) (s : List Int) (i : Int) (b : Bool) (k : Int) (Q : AX → St → Prop) : (xloop2 Try.prog { f := [(30, fcFrom)] } 5 8 1 lc8b ex8b (fun (_, _, f, _, _, _, k, _) => mL (fWays f) k) (l, more, f, s, i, b, k, ()) Q) =
  (Go.Lom.fork
      (Decidable.decide
        (k < (↑(List.length (Prod.fst (Prod.snd (Prod.snd (Prod.snd (Prod.snd (Prod.snd (Prod.snd f)))))))) : Int)))
      (Go.Lom.req
        (Decidable.decide
          ((0 : Int) ≤ k ∧
            k < (↑(List.length (Prod.fst (Prod.snd (Prod.snd (Prod.snd (Prod.snd (Prod.snd (Prod.snd f)))))))) : Int)))
        (Go.Lom.fork
          (Prod.fst
              (Prod.snd
                (List.getD (Prod.fst (Prod.snd (Prod.snd (Prod.snd (Prod.snd (Prod.snd (Prod.snd f))))))) (Int.toNat k)
                  ((0 : Int), (0 : Int), (0 : Int)))) !=
            i)
          (Go.Lom.req (Go.Lom.inR Go.IntKind.i64 (k + (1 : Int)))
            (Go.P9.mL (Go.P9.fWays f) (k + (1 : Int)) < Go.P9.mL (Go.P9.fWays f) k ∧
              Go.Lom.LC2.spec Go.P9.lc8b (l, more, f, s, i, b, k + (1 : Int), ()) Q))
          (Go.Lom.req (Go.Lom.inR Go.IntKind.i64 ((↑(List.length s) : Int) - (1 : Int)))
            (Go.Lom.fork
              (!Decidable.decide
                  ((0 : Int) ≤
                      Prod.fst
                        (List.getD (Prod.fst (Prod.snd (Prod.snd (Prod.snd (Prod.snd (Prod.snd (Prod.snd f)))))))
                          (Int.toNat k) ((0 : Int), (0 : Int), (0 : Int))) ∧
                    Prod.fst
                        (List.getD (Prod.fst (Prod.snd (Prod.snd (Prod.snd (Prod.snd (Prod.snd (Prod.snd f)))))))
                          (Int.toNat k) ((0 : Int), (0 : Int), (0 : Int))) ≤
                      (↑(List.length s) : Int) - (1 : Int)))
              (Go.Lom.req (Go.Lom.inR Go.IntKind.i64 (k + (1 : Int)))
                (Go.P9.mL (Go.P9.fWays f) (k + (1 : Int)) < Go.P9.mL (Go.P9.fWays f) k ∧
                  Go.Lom.LC2.spec Go.P9.lc8b (l, more, f, s, i, b, k + (1 : Int), ()) Q))
              (Go.Lom.req
                (Decidable.decide
                  ((0 : Int) ≤
                      Prod.fst
                        (List.getD (Prod.fst (Prod.snd (Prod.snd (Prod.snd (Prod.snd (Prod.snd (Prod.snd f)))))))
                          (Int.toNat k) ((0 : Int), (0 : Int), (0 : Int))) ∧
                    Prod.fst
                        (List.getD (Prod.fst (Prod.snd (Prod.snd (Prod.snd (Prod.snd (Prod.snd (Prod.snd f)))))))
                          (Int.toNat k) ((0 : Int), (0 : Int), (0 : Int))) <
                      (↑(List.length s) : Int)))
                (Go.Lom.fork
                  (Decidable.decide
                    (List.getD s
                        (Int.toNat
                          (Prod.fst
                            (List.getD (Prod.fst (Prod.snd (Prod.snd (Prod.snd (Prod.snd (Prod.snd (Prod.snd f)))))))
                              (Int.toNat k) ((0 : Int), (0 : Int), (0 : Int)))))
                        (0 : Int) <
                      (0 : Int)))
                  (Go.Lom.req (Go.Lom.inR Go.IntKind.i64 (k + (1 : Int)))
                    (Go.P9.mL (Go.P9.fWays f) (k + (1 : Int)) < Go.P9.mL (Go.P9.fWays f) k ∧
                      Go.Lom.LC2.spec Go.P9.lc8b (l, more, f, s, i, b, k + (1 : Int), ()) Q))
                  (Go.Lom.req (Decidable.decide ((0 : Int) ≤ i ∧ i < (↑(List.length s) : Int)))
                    (Go.Lom.fork (Decidable.decide (List.getD s (Int.toNat i) (0 : Int) < (0 : Int)))
                      (Q Go.Lom.AX.ret (Go.Lom.stS (0 : Nat) Go.P9.shR6 (Bool.false, ())))
                      (Go.Lom.req (Decidable.decide ((0 : Int) ≤ i ∧ i < (↑(List.length s) : Int)))
                        (Go.Lom.req
                          (Decidable.decide
                            ((0 : Int) ≤
                                Prod.fst
                                  (List.getD (Prod.fst (Prod.snd (Prod.snd (Prod.snd (Prod.snd (Prod.snd (Prod.snd f)))))))
                                    (Int.toNat k) ((0 : Int), (0 : Int), (0 : Int))) ∧
                              Prod.fst
                                  (List.getD (Prod.fst (Prod.snd (Prod.snd (Prod.snd (Prod.snd (Prod.snd (Prod.snd f)))))))
                                    (Int.toNat k) ((0 : Int), (0 : Int), (0 : Int))) <
                                (↑(List.length s) : Int)))
                          (Go.Lom.req
                            (Go.Lom.inR Go.IntKind.i64
                              (List.getD s
                                  (Int.toNat
                                    (Prod.fst
                                      (List.getD
                                        (Prod.fst (Prod.snd (Prod.snd (Prod.snd (Prod.snd (Prod.snd (Prod.snd f)))))))
                                        (Int.toNat k) ((0 : Int), (0 : Int), (0 : Int)))))
                                  (0 : Int) +
                                Prod.snd
                                  (Prod.snd
                                    (List.getD
                                      (Prod.fst (Prod.snd (Prod.snd (Prod.snd (Prod.snd (Prod.snd (Prod.snd f)))))))
                                      (Int.toNat k) ((0 : Int), (0 : Int), (0 : Int))))))
                            (Go.Lom.fork
                              (Decidable.decide
                                (List.getD s (Int.toNat i) (0 : Int) >
                                  List.getD s
                                      (Int.toNat
                                        (Prod.fst
                                          (List.getD
                                            (Prod.fst (Prod.snd (Prod.snd (Prod.snd (Prod.snd (Prod.snd (Prod.snd f)))))))
                                            (Int.toNat k) ((0 : Int), (0 : Int), (0 : Int)))))
                                      (0 : Int) +
                                    Prod.snd
                                      (Prod.snd
                                        (List.getD
                                          (Prod.fst (Prod.snd (Prod.snd (Prod.snd (Prod.snd (Prod.snd (Prod.snd f)))))))
                                          (Int.toNat k) ((0 : Int), (0 : Int), (0 : Int))))))
                              (Q Go.Lom.AX.ret (Go.Lom.stS (0 : Nat) Go.P9.shR6 (Bool.false, ())))
                              (Go.Lom.fork b
                                (Go.Lom.req (Go.Lom.inR Go.IntKind.i64 (k + (1 : Int)))
                                  (Go.P9.mL (Go.P9.fWays f) (k + (1 : Int)) < Go.P9.mL (Go.P9.fWays f) k ∧
                                    Go.Lom.LC2.spec Go.P9.lc8b (l, more, f, s, i, Bool.true, k + (1 : Int), ()) Q))
                                (Go.Lom.req (Decidable.decide ((0 : Int) ≤ i ∧ i < (↑(List.length s) : Int)))
                                  (Go.Lom.req
                                    (Decidable.decide
                                      ((0 : Int) ≤
                                          Prod.fst
                                            (List.getD
                                              (Prod.fst (Prod.snd (Prod.snd (Prod.snd (Prod.snd (Prod.snd (Prod.snd f)))))))
                                              (Int.toNat k) ((0 : Int), (0 : Int), (0 : Int))) ∧
                                        Prod.fst
                                            (List.getD
                                              (Prod.fst (Prod.snd (Prod.snd (Prod.snd (Prod.snd (Prod.snd (Prod.snd f)))))))
                                              (Int.toNat k) ((0 : Int), (0 : Int), (0 : Int))) <
                                          (↑(List.length s) : Int)))
                                    (Go.Lom.req
                                      (Go.Lom.inR Go.IntKind.i64
                                        (List.getD s
                                            (Int.toNat
                                              (Prod.fst
                                                (List.getD
                                                  (Prod.fst
                                                    (Prod.snd (Prod.snd (Prod.snd (Prod.snd (Prod.snd (Prod.snd f)))))))
                                                  (Int.toNat k) ((0 : Int), (0 : Int), (0 : Int)))))
                                            (0 : Int) +
                                          Prod.snd
                                            (Prod.snd
                                              (List.getD
                                                (Prod.fst
                                                  (Prod.snd (Prod.snd (Prod.snd (Prod.snd (Prod.snd (Prod.snd f)))))))
                                                (Int.toNat k) ((0 : Int), (0 : Int), (0 : Int))))))
                                      (Go.Lom.req (Go.Lom.inR Go.IntKind.i64 (k + (1 : Int)))
                                        (Go.P9.mL (Go.P9.fWays f) (k + (1 : Int)) < Go.P9.mL (Go.P9.fWays f) k ∧
                                          Go.Lom.LC2.spec Go.P9.lc8b
                                            (l, more, f, s, i,
                                              List.getD s (Int.toNat i) (0 : Int) ==
                                                List.getD s
                                                    (Int.toNat
                                                      (Prod.fst
                                                        (List.getD
                                                          (Prod.fst
                                                            (Prod.snd
                                                              (Prod.snd (Prod.snd (Prod.snd (Prod.snd (Prod.snd f)))))))
                                                          (Int.toNat k) ((0 : Int), (0 : Int), (0 : Int)))))
                                                    (0 : Int) +
                                                  Prod.snd
                                                    (Prod.snd
                                                      (List.getD
                                                        (Prod.fst
                                                          (Prod.snd
                                                            (Prod.snd (Prod.snd (Prod.snd (Prod.snd (Prod.snd f)))))))
                                                        (Int.toNat k) ((0 : Int), (0 : Int), (0 : Int)))),
                                              k + (1 : Int), ())
                                            Q))))))))))))))))))
      (Q (Go.Lom.AX.exit (2 : Nat)) (Go.Lom.stS (1 : Nat) Go.P9.sh8x (l, more, f, s, i, b, ())))) := by kernel_rfl
def ex8a : Ex2
  | .ret => some (shR6, 0)
  | _ => some (sh8, 1)
def s8a (l : List Int) (more : Int) (f : Fd) (s : List Int) (i : Int) (Q : LQ) : Prop :=
  (begun f l s ∧ 0 ≤ i ∧ i ≤ (fGroups f).length) ∧ Q (.exit 0) (stS 1 sh8 (l, more, f, s, ()))
abbrev lc8a : LC2 := ⟨0, sh8a, 1, fun (l, more, f, s, i, _) Q => s8a l more f s i Q⟩
theorem v8a (l : List Int) (more : Int) (f : Fd) (s : List Int) (i : Int) (Q : AX → St → Prop) : (xloop2 Try.prog { f := [(32, fcSeek)], l2 := [(8, 1, lc8b)] } 5 8 0 lc8a ex8a (fun (_, _, _, s, i, _) => mL s i) (l, more, f, s, i, ()) Q) =
  (Go.Lom.fork (Decidable.decide (i < (↑(List.length s) : Int)))
      (List.length l ≤ (9223372036854775807 : Nat) ∧
        Go.Lom.fork (Decidable.decide (Go.P9.seekI l i (0 : Int) ≥ (0 : Int)))
          (Go.Lom.req (Decidable.decide ((0 : Int) ≤ i ∧ i < (↑(List.length s) : Int)))
            (Go.Lom.fork (List.getD s (Int.toNat i) (0 : Int) != (0 : Int))
              (Q Go.Lom.AX.ret (Go.Lom.stS (0 : Nat) Go.P9.shR6 (Bool.false, ())))
              ((Go.P9.begun f l s ∧
                  (0 : Int) ≤ (0 : Int) ∧
                    (0 : Int) ≤ (↑(List.length (Go.P9.fWays f)) : Int) ∧
                      (0 : Int) ≤ i ∧ i < (↑(List.length (Go.P9.fGroups f)) : Int)) ∧
                Go.Lom.req (Decidable.decide ((0 : Int) ≤ i ∧ i < (↑(List.length s) : Int)))
                  (Go.Lom.fork (Decidable.decide (List.getD s (Int.toNat i) (0 : Int) ≥ (0 : Int)))
                    (Go.Lom.fork
                      (!(Decidable.decide (Go.P9.seekI l i (0 : Int) ≥ (0 : Int)) ||
                          List.any (List.drop (0 : Nat) (Go.P9.fWays f)) (Go.P9.tightB s i)))
                      (Q Go.Lom.AX.ret (Go.Lom.stS (0 : Nat) Go.P9.shR6 (Bool.false, ())))
                      (Go.Lom.req (Decidable.decide ((0 : Int) ≤ i ∧ i < (↑(List.length s) : Int)))
                        (Go.Lom.fork (Decidable.decide (List.getD s (Int.toNat i) (0 : Int) < (-1 : Int)))
                          (Q Go.Lom.AX.ret (Go.Lom.stS (0 : Nat) Go.P9.shR6 (Bool.false, ())))
                          (Go.Lom.req (Go.Lom.inR Go.IntKind.i64 (i + (1 : Int)))
                            (Go.P9.mL s (i + (1 : Int)) < Go.P9.mL s i ∧
                              Go.Lom.LC2.spec Go.P9.lc8a (l, more, f, s, i + (1 : Int), ()) Q)))))
                    (Go.Lom.req (Decidable.decide ((0 : Int) ≤ i ∧ i < (↑(List.length s) : Int)))
                      (Go.Lom.fork (Decidable.decide (List.getD s (Int.toNat i) (0 : Int) < (-1 : Int)))
                        (Q Go.Lom.AX.ret (Go.Lom.stS (0 : Nat) Go.P9.shR6 (Bool.false, ())))
                        (Go.Lom.req (Go.Lom.inR Go.IntKind.i64 (i + (1 : Int)))
                          (Go.P9.mL s (i + (1 : Int)) < Go.P9.mL s i ∧
                            Go.Lom.LC2.spec Go.P9.lc8a (l, more, f, s, i + (1 : Int), ()) Q))))))))
          ((Go.P9.begun f l s ∧
              (0 : Int) ≤ (0 : Int) ∧
                (0 : Int) ≤ (↑(List.length (Go.P9.fWays f)) : Int) ∧
                  (0 : Int) ≤ i ∧ i < (↑(List.length (Go.P9.fGroups f)) : Int)) ∧
            Go.Lom.req (Decidable.decide ((0 : Int) ≤ i ∧ i < (↑(List.length s) : Int)))
              (Go.Lom.fork (Decidable.decide (List.getD s (Int.toNat i) (0 : Int) ≥ (0 : Int)))
                (Go.Lom.fork
                  (!(Decidable.decide (Go.P9.seekI l i (0 : Int) ≥ (0 : Int)) ||
                      List.any (List.drop (0 : Nat) (Go.P9.fWays f)) (Go.P9.tightB s i)))
                  (Q Go.Lom.AX.ret (Go.Lom.stS (0 : Nat) Go.P9.shR6 (Bool.false, ())))
                  (Go.Lom.req (Decidable.decide ((0 : Int) ≤ i ∧ i < (↑(List.length s) : Int)))
                    (Go.Lom.fork (Decidable.decide (List.getD s (Int.toNat i) (0 : Int) < (-1 : Int)))
                      (Q Go.Lom.AX.ret (Go.Lom.stS (0 : Nat) Go.P9.shR6 (Bool.false, ())))
                      (Go.Lom.req (Go.Lom.inR Go.IntKind.i64 (i + (1 : Int)))
                        (Go.P9.mL s (i + (1 : Int)) < Go.P9.mL s i ∧
                          Go.Lom.LC2.spec Go.P9.lc8a (l, more, f, s, i + (1 : Int), ()) Q)))))
                (Go.Lom.req (Decidable.decide ((0 : Int) ≤ i ∧ i < (↑(List.length s) : Int)))
                  (Go.Lom.fork (Decidable.decide (List.getD s (Int.toNat i) (0 : Int) < (-1 : Int)))
                    (Q Go.Lom.AX.ret (Go.Lom.stS (0 : Nat) Go.P9.shR6 (Bool.false, ())))
                    (Go.Lom.req (Go.Lom.inR Go.IntKind.i64 (i + (1 : Int)))
                      (Go.P9.mL s (i + (1 : Int)) < Go.P9.mL s i ∧
                        Go.Lom.LC2.spec Go.P9.lc8a (l, more, f, s, i + (1 : Int), ()) Q)))))))
      (Q (Go.Lom.AX.exit (0 : Nat)) (Go.Lom.stS (1 : Nat) Go.P9.sh8 (l, more, f, s, ())))) := by kernel_rfl
abbrev sh8c : SV := S [(1, .v L), (3, bF), (7, .v L), (13, .v I), (14, .own 1 I), (15, .v I)]
abbrev sh8cx : SV := S [(3, bF), (7, .v L), (14, .own 1 I)]
def isB (l : List Int) (one : Int) (i : Nat) : Bool := decide ((i : Int) = one) || decide ((i : Int) ∈ l)
def bothD (n : Nat) (l : List Int) (one i : Int) : List Int := (((List.range n).drop i.toNat).filter (isB l one)).map fun k : Nat => (k : Int)
def s8c (l : List Int) (f : Fd) (s : List Int) (one : Int) (b : List Int) (i : Int) (Q : LQ) : Prop :=
  (0 ≤ i ∧ i ≤ s.length ∧ s.length ≤ 8 ∧ l.length ≤ 9223372036854775807 ∧ b.length ≤ i) ∧ Q (.exit 4) (stS 2 sh8cx (f, s, b ++ bothD s.length l one i, ()))
abbrev lc8c : LC2 := ⟨0, sh8c, 2, fun (l, f, s, one, b, i, _) Q => s8c l f s one b i Q⟩
theorem v8c (l : List Int) (f : Fd) (s : List Int) (one : Int) (b : List Int) (i : Int) (Q : AX → St → Prop) : (xloop2 Try.prog { f := [(32, fcSeek)] } 5 8 2 lc8c (fun _ => some (sh8cx, 2)) (fun (_, _, s, _, _, i, _) => mL s i) (l, f, s, one, b, i, ()) Q) =
  (Go.Lom.fork (Decidable.decide (i < (↑(List.length s) : Int)))
      (Go.Lom.fork (i == one)
        (Go.Lom.req (Decidable.decide ((0 : Nat) + List.length b ≤ List.length b))
          (Go.Lom.req (Go.Lom.fitsN (List.length b + List.length (Go.Lom.seg (0 : Nat) (1 : Nat) [i])) (8 : Nat))
            (Go.Lom.req (Go.Lom.inR Go.IntKind.i64 (i + (1 : Int)))
              (Go.Lom.req
                (Decidable.decide
                  ((0 : Nat) + (List.length b + List.length (Go.Lom.seg (0 : Nat) (1 : Nat) [i])) ≤
                    List.length (Go.Lom.seg (0 : Nat) (List.length b) b ++ Go.Lom.seg (0 : Nat) (1 : Nat) [i])))
                (Go.P9.mL s (i + (1 : Int)) < Go.P9.mL s i ∧
                  Go.Lom.LC2.spec Go.P9.lc8c
                    (l, f, s, one,
                      Go.Lom.seg (0 : Nat) (List.length b + List.length (Go.Lom.seg (0 : Nat) (1 : Nat) [i]))
                        (Go.Lom.seg (0 : Nat) (List.length b) b ++ Go.Lom.seg (0 : Nat) (1 : Nat) [i]),
                      i + (1 : Int), ())
                    Q)))))
        (List.length l ≤ (9223372036854775807 : Nat) ∧
          Go.Lom.fork (Decidable.decide (Go.P9.seekI l i (0 : Int) ≥ (0 : Int)))
            (Go.Lom.req (Decidable.decide ((0 : Nat) + List.length b ≤ List.length b))
              (Go.Lom.req (Go.Lom.fitsN (List.length b + List.length (Go.Lom.seg (0 : Nat) (1 : Nat) [i])) (8 : Nat))
                (Go.Lom.req (Go.Lom.inR Go.IntKind.i64 (i + (1 : Int)))
                  (Go.Lom.req
                    (Decidable.decide
                      ((0 : Nat) + (List.length b + List.length (Go.Lom.seg (0 : Nat) (1 : Nat) [i])) ≤
                        List.length (Go.Lom.seg (0 : Nat) (List.length b) b ++ Go.Lom.seg (0 : Nat) (1 : Nat) [i])))
                    (Go.P9.mL s (i + (1 : Int)) < Go.P9.mL s i ∧
                      Go.Lom.LC2.spec Go.P9.lc8c
                        (l, f, s, one,
                          Go.Lom.seg (0 : Nat) (List.length b + List.length (Go.Lom.seg (0 : Nat) (1 : Nat) [i]))
                            (Go.Lom.seg (0 : Nat) (List.length b) b ++ Go.Lom.seg (0 : Nat) (1 : Nat) [i]),
                          i + (1 : Int), ())
                        Q)))))
            (Go.Lom.req (Go.Lom.inR Go.IntKind.i64 (i + (1 : Int)))
              (Go.Lom.req (Decidable.decide ((0 : Nat) + List.length b ≤ List.length b))
                (Go.P9.mL s (i + (1 : Int)) < Go.P9.mL s i ∧
                  Go.Lom.LC2.spec Go.P9.lc8c (l, f, s, one, Go.Lom.seg (0 : Nat) (List.length b) b, i + (1 : Int), ())
                    Q)))))
      (Go.Lom.req (Decidable.decide ((0 : Nat) + List.length b ≤ List.length b))
        (Q (Go.Lom.AX.exit (4 : Nat))
          (Go.Lom.stS (2 : Nat) Go.P9.sh8cx (f, s, Go.Lom.seg (0 : Nat) (List.length b) b, ()))))) := by kernel_rfl
abbrev sh8d : SV := S [(7, .v L), (16, .v L), (17, .v I)]
def ex8d : Ex2
  | .ret => some (shR6, 0)
  | _ => some (.nil, 0)
def s8d (s t : List Int) (i : Int) (Q : LQ) : Prop :=
  (0 ≤ i ∧ i ≤ s.length ∧ s.length ≤ 8 ∧ t.length = s.length ∧ ∀ k : Int, 0 ≤ k → k < s.length → 0 ≤ s.getD k.toNat 0 → 0 ≤ t.getD k.toNat 0 ∧ t.getD k.toNat 0 ≤ s.getD k.toNat 0) ∧ Q (.exit 6) (stS 0 .nil ())
abbrev lc8d : LC2 := ⟨0, sh8d, 0, fun (s, t, i, _) Q => s8d s t i Q⟩
theorem v8d (s t : List Int) (i : Int) (Q : AX → St → Prop) : (xloop2 Try.prog {} 5 8 3 lc8d ex8d (fun (s, _, i, _) => mL s i) (s, t, i, ()) Q) =
  (Go.Lom.fork (Decidable.decide (i < (↑(List.length s) : Int)))
      (Go.Lom.req (Decidable.decide ((0 : Int) ≤ i ∧ i < (↑(List.length s) : Int)))
        (Go.Lom.fork (Decidable.decide (List.getD s (Int.toNat i) (0 : Int) ≥ (0 : Int)))
          (Go.Lom.req (Decidable.decide ((0 : Int) ≤ i ∧ i < (↑(List.length t) : Int)))
            (Go.Lom.fork (Decidable.decide (List.getD t (Int.toNat i) (0 : Int) < (0 : Int)))
              (Q Go.Lom.AX.ret (Go.Lom.stS (0 : Nat) Go.P9.shR6 (Bool.false, ())))
              (Go.Lom.req (Decidable.decide ((0 : Int) ≤ i ∧ i < (↑(List.length t) : Int)))
                (Go.Lom.req (Decidable.decide ((0 : Int) ≤ i ∧ i < (↑(List.length s) : Int)))
                  (Go.Lom.fork
                    (Decidable.decide (List.getD t (Int.toNat i) (0 : Int) > List.getD s (Int.toNat i) (0 : Int)))
                    (Q Go.Lom.AX.ret (Go.Lom.stS (0 : Nat) Go.P9.shR6 (Bool.false, ())))
                    (Go.Lom.req (Go.Lom.inR Go.IntKind.i64 (i + (1 : Int)))
                      (Go.P9.mL s (i + (1 : Int)) < Go.P9.mL s i ∧
                        Go.Lom.LC2.spec Go.P9.lc8d (s, t, i + (1 : Int), ()) Q)))))))
          (Go.Lom.req (Go.Lom.inR Go.IntKind.i64 (i + (1 : Int)))
            (Go.P9.mL s (i + (1 : Int)) < Go.P9.mL s i ∧ Go.Lom.LC2.spec Go.P9.lc8d (s, t, i + (1 : Int), ()) Q))))
      (Q (Go.Lom.AX.exit (6 : Nat)) (Go.Lom.stS (0 : Nat) Go.Lom.SV.nil ()))) := by kernel_rfl
abbrev fc8 : FC := ⟨[.v TF, .v L, .v I], [.b], fun x K => (bigF x.1 ∧ x.2.1.length ≤ 9223372036854775807) ∧ K (true, ())⟩
theorem v8F (f : Fd) (l : List Int) (more : Int) (K : dens [.b] → Prop) : (xfn1 Try.prog { f := [(31, fcStarts), (32, fcSeek), (33, fcRing), (19, fcWorks)], l2 := [(8, 0, lc8a), (8, 2, lc8c), (8, 3, lc8d)] } 5 8 fc8 (f, l, more, ()) K) =
  ((Go.P9.bigF f ∧ List.length l ≤ (9223372036854775807 : Nat)) ∧
      Go.Lom.fork (Go.P9.startsE f l != (0 : Int))
        (Go.Lom.fork ((↑(List.length (Go.P9.startsR f l)) : Int) == (0 : Int)) (K (Bool.true, ())) (K (Bool.false, ())))
        (Go.Lom.fork
          ((↑(List.length (Go.P9.startsR f l)) : Int) !=
            (↑(List.length (Prod.fst (Prod.snd (Prod.snd (Prod.snd (Prod.snd (Prod.snd f))))))) : Int))
          (K (Bool.false, ()))
          ((Go.P9.begun f l (Go.P9.startsR f l) ∧
              (0 : Int) ≤ (0 : Int) ∧ (0 : Int) ≤ (↑(List.length (Go.P9.fGroups f)) : Int)) ∧
            Go.Lom.fork ((↑(List.length (Go.P9.startsR f l)) : Int) == (0 : Int)) (K (Bool.true, ()))
              ((↑(List.length (Go.P9.startsR f l)) : Int) ≤ (4611686018427387904 : Go.Lom.AT.den (Go.Lom.AT.v Go.P9.I)) ∧
                ∀ (r : Int),
                  ((0 : Go.Lom.AT.den (Go.Lom.AT.v Go.P9.I)) < (↑(List.length (Go.P9.startsR f l)) : Int) →
                      (0 : Int) ≤ r ∧ r < (↑(List.length (Go.P9.startsR f l)) : Int)) →
                    ((0 : Int) ≤ (0 : Int) ∧
                        (0 : Int) ≤ (↑(List.length (Go.P9.startsR f l)) : Int) ∧
                          List.length (Go.P9.startsR f l) ≤ (8 : Nat) ∧
                            List.length l ≤ (9223372036854775807 : Nat) ∧ (0 : Int) ≤ (0 : Int)) ∧
                      Go.Lom.req
                        (Decidable.decide
                          ((0 : Nat) + List.length ([] ++ Go.P9.bothD (List.length (Go.P9.startsR f l)) l r (0 : Int)) ≤
                            List.length ([] ++ Go.P9.bothD (List.length (Go.P9.startsR f l)) l r (0 : Int))))
                        ((Go.P9.bigF f ∧
                            List.length
                                (Go.Lom.seg (0 : Nat)
                                  (List.length ([] ++ Go.P9.bothD (List.length (Go.P9.startsR f l)) l r (0 : Int)))
                                  ([] ++ Go.P9.bothD (List.length (Go.P9.startsR f l)) l r (0 : Int))) ≤
                              (9223372036854775807 : Nat)) ∧
                          Go.Lom.fork
                            (Go.P9.startsE f
                                (Go.Lom.seg (0 : Nat)
                                  (List.length ([] ++ Go.P9.bothD (List.length (Go.P9.startsR f l)) l r (0 : Int)))
                                  ([] ++ Go.P9.bothD (List.length (Go.P9.startsR f l)) l r (0 : Int))) !=
                              (0 : Int))
                            (K (Bool.false, ()))
                            (Go.Lom.fork
                              ((↑(List.length
                                      (Go.P9.startsR f
                                        (Go.Lom.seg (0 : Nat)
                                          (List.length ([] ++ Go.P9.bothD (List.length (Go.P9.startsR f l)) l r (0 : Int)))
                                          ([] ++ Go.P9.bothD (List.length (Go.P9.startsR f l)) l r (0 : Int))))) :
                                  Int) !=
                                (↑(List.length (Go.P9.startsR f l)) : Int))
                              (K (Bool.false, ()))
                              (((0 : Int) ≤ (0 : Int) ∧
                                  (0 : Int) ≤ (↑(List.length (Go.P9.startsR f l)) : Int) ∧
                                    List.length (Go.P9.startsR f l) ≤ (8 : Nat) ∧
                                      List.length
                                            (Go.P9.startsR f
                                              (Go.Lom.seg (0 : Nat)
                                                (List.length
                                                  ([] ++ Go.P9.bothD (List.length (Go.P9.startsR f l)) l r (0 : Int)))
                                                ([] ++ Go.P9.bothD (List.length (Go.P9.startsR f l)) l r (0 : Int)))) =
                                          List.length (Go.P9.startsR f l) ∧
                                        ∀ (k : Int),
                                          (0 : Int) ≤ k →
                                            k < (↑(List.length (Go.P9.startsR f l)) : Int) →
                                              (0 : Int) ≤ List.getD (Go.P9.startsR f l) (Int.toNat k) (0 : Int) →
                                                (0 : Int) ≤
                                                    List.getD
                                                      (Go.P9.startsR f
                                                        (Go.Lom.seg (0 : Nat)
                                                          (List.length
                                                            ([] ++
                                                              Go.P9.bothD (List.length (Go.P9.startsR f l)) l r (0 : Int)))
                                                          ([] ++
                                                            Go.P9.bothD (List.length (Go.P9.startsR f l)) l r (0 : Int))))
                                                      (Int.toNat k) (0 : Int) ∧
                                                  List.getD
                                                      (Go.P9.startsR f
                                                        (Go.Lom.seg (0 : Nat)
                                                          (List.length
                                                            ([] ++
                                                              Go.P9.bothD (List.length (Go.P9.startsR f l)) l r (0 : Int)))
                                                          ([] ++
                                                            Go.P9.bothD (List.length (Go.P9.startsR f l)) l r (0 : Int))))
                                                      (Int.toNat k) (0 : Int) ≤
                                                    List.getD (Go.P9.startsR f l) (Int.toNat k) (0 : Int)) ∧
                                K (Bool.true, ())))))))) := by kernel_rfl
end Go.P9
