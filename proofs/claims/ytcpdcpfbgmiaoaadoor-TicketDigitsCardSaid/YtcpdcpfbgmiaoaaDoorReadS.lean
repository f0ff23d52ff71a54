/- Tickets: what can be read of a code: states and what is to be shown, reduced. No conditions. -/
import Derived.Test.YtcpdcpfbgmiaoaaDoorTickS
set_option linter.unusedSimpArgs false
set_option linter.unusedVariables false
set_option linter.constructorNameAsVariable false
set_option maxRecDepth 100000
set_option maxHeartbeats 2000000
namespace Go.P3
open Go.Lom Go.Proofs Go

/-! what can be read of a code -/
def blankK (s : List UInt8) : Nat → Int → List Int → Option (List Int)
  | 0, _, b => some b
  | k + 1, i, b => if cI s i = 63 then blankK s k (i + 1) (b ++ [i]) else if cI s i < 48 ∨ cI s i > 57 then none else blankK s k (i + 1) b
abbrev shR3 : SV := S [(2, .v L), (3, .v I)]
abbrev sh18 : SV := S [(0, .v .s), (4, .box 0 (.own 1 I)), (18, .v I), (19, .v I)]
abbrev sh18e : SV := S [(0, .v .s), (4, .box 0 (.own 1 I))]
def ex18 : Ex2
  | .ret => some (shR3, 0)
  | _ => some (sh18e, 2)
def s18a (s : List UInt8) (b : List Int) (m i : Int) (Q : LQ) : Prop := (s.length = 10 ∧ m = 10 ∧ 0 ≤ i ∧ i ≤ 10 ∧ (b.length : Int) ≤ i ∧ ∀ x ∈ b, 0 ≤ x ∧ x < 10) ∧
  ((blankK s (10 - i).toNat i b = none → Q .ret (stS 0 shR3 ([], 5, ()))) ∧ (∀ r, blankK s (10 - i).toNat i b = some r → r.length ≤ 10 → (∀ x ∈ r, 0 ≤ x ∧ x < 10) → Q (.exit 0) (stS 2 sh18e (s, r, ()))))
abbrev lc18a : LC2 := ⟨0, sh18, 2, fun (s, b, m, i, _) Q => s18a s b m i Q⟩
theorem v18A (s : List UInt8) (b : List Int) (m i : Int) (Q : AX → St → Prop) : (xloop2 Tryd.prog {} 5 18 0 lc18a ex18 (fun (_, _, m, i, _) => (m - i).toNat) (s, b, m, i, ()) Q) =
  (Go.Lom.fork (Decidable.decide (i < m))
      (Go.Lom.req (Decidable.decide ((0 : Int) ≤ i ∧ i < (↑(List.length s) : Int)))
        (Go.Lom.fork ((↑(UInt8.toNat (List.getD s (Int.toNat i) (0 : UInt8))) : Int) == (63 : Int))
          (Go.Lom.req (Decidable.decide ((0 : Nat) + List.length b ≤ List.length b))
            (Go.Lom.req (Go.Lom.fitsN (List.length b + List.length (Go.Lom.seg (0 : Nat) (1 : Nat) [i])) (8 : Nat))
              (Go.Lom.req (Go.Lom.inR Go.IntKind.i64 (i + (1 : Int)))
                (Go.Lom.req
                  (Decidable.decide
                    ((0 : Nat) + (List.length b + List.length (Go.Lom.seg (0 : Nat) (1 : Nat) [i])) ≤
                      List.length (Go.Lom.seg (0 : Nat) (List.length b) b ++ Go.Lom.seg (0 : Nat) (1 : Nat) [i])))
                  (Int.toNat (m - (i + (1 : Int))) < Int.toNat (m - i) ∧
                    Go.Lom.LC2.spec Go.P3.lc18a
                      (s,
                        Go.Lom.seg (0 : Nat) (List.length b + List.length (Go.Lom.seg (0 : Nat) (1 : Nat) [i]))
                          (Go.Lom.seg (0 : Nat) (List.length b) b ++ Go.Lom.seg (0 : Nat) (1 : Nat) [i]),
                        m, i + (1 : Int), ())
                      Q)))))
          (Go.Lom.req (Decidable.decide ((0 : Int) ≤ i ∧ i < (↑(List.length s) : Int)))
            (Go.Lom.fork (Decidable.decide ((↑(UInt8.toNat (List.getD s (Int.toNat i) (0 : UInt8))) : Int) < (48 : Int)))
              (Q Go.Lom.AX.ret (Go.Lom.stS (0 : Nat) Go.P3.shR3 ([], (5 : Int), ())))
              (Go.Lom.req (Decidable.decide ((0 : Int) ≤ i ∧ i < (↑(List.length s) : Int)))
                (Go.Lom.fork
                  (Decidable.decide ((↑(UInt8.toNat (List.getD s (Int.toNat i) (0 : UInt8))) : Int) > (57 : Int)))
                  (Q Go.Lom.AX.ret (Go.Lom.stS (0 : Nat) Go.P3.shR3 ([], (5 : Int), ())))
                  (Go.Lom.req (Go.Lom.inR Go.IntKind.i64 (i + (1 : Int)))
                    (Go.Lom.req (Decidable.decide ((0 : Nat) + List.length b ≤ List.length b))
                      (Int.toNat (m - (i + (1 : Int))) < Int.toNat (m - i) ∧
                        Go.Lom.LC2.spec Go.P3.lc18a (s, Go.Lom.seg (0 : Nat) (List.length b) b, m, i + (1 : Int), ())
                          Q)))))))))
      (Go.Lom.req (Decidable.decide ((0 : Nat) + List.length b ≤ List.length b))
        (Q (Go.Lom.AX.exit (0 : Nat)) (Go.Lom.stS (2 : Nat) Go.P3.sh18e (s, Go.Lom.seg (0 : Nat) (List.length b) b, ()))))) := by kernel_rfl
def tenK : Nat → Int
  | 0 => 1
  | k + 1 => tenK k * 10
abbrev sh18b : SV := S [(0, .v .s), (4, .box 0 (.own 1 I)), (6, .v I), (45, .v I), (46, .v I)]
abbrev sh18be : SV := S [(0, .v .s), (4, .box 0 (.own 1 I)), (6, .v I)]
def s18b (s : List UInt8) (b : List Int) (t m i : Int) (Q : LQ) : Prop := (m ≤ 3 ∧ 0 ≤ i ∧ i ≤ m ∧ t = tenK i.toNat) ∧ Q (.exit 2) (stS 2 sh18be (s, b, tenK m.toNat, ()))
abbrev lc18b : LC2 := ⟨0, sh18b, 2, fun (s, b, t, m, i, _) Q => s18b s b t m i Q⟩
theorem v18B (s : List UInt8) (b : List Int) (t m i : Int) (Q : AX → St → Prop) : (xloop2 Tryd.prog {} 5 18 1 lc18b (fun _ => some (sh18be, 2)) (fun (_, _, _, m, i, _) => (m - i).toNat) (s, b, t, m, i, ()) Q) =
  (Go.Lom.fork (Decidable.decide (i < m))
      (Go.Lom.req (Go.Lom.inR Go.IntKind.i64 (t * (10 : Int)))
        (Go.Lom.req (Go.Lom.inR Go.IntKind.i64 (i + (1 : Int)))
          (Go.Lom.req (Decidable.decide ((0 : Nat) + List.length b ≤ List.length b))
            (Int.toNat (m - (i + (1 : Int))) < Int.toNat (m - i) ∧
              Go.Lom.LC2.spec Go.P3.lc18b (s, Go.Lom.seg (0 : Nat) (List.length b) b, t * (10 : Int), m, i + (1 : Int), ())
                Q))))
      (Go.Lom.req (Decidable.decide ((0 : Nat) + List.length b ≤ List.length b))
        (Q (Go.Lom.AX.exit (2 : Nat))
          (Go.Lom.stS (2 : Nat) Go.P3.sh18be (s, Go.Lom.seg (0 : Nat) (List.length b) b, t, ()))))) := by kernel_rfl
/-- What is read with the digits of a number in the places of what cannot be read. -/
def fillD (b : List Int) : Nat → Int → Int → List Int → List Int
  | 0, _, _, w => w
  | k + 1, n, i, w => fillD b k (n.tdiv 10) (i + 1) (w.set (b.getD ((b.length : Int) - 1 - i).toNat 0).toNat (48 + n.tmod 10))
def byI (s : List UInt8) : List Int := s.map fun b => (b.toNat : Int)
def fillS (s : List UInt8) (b : List Int) (x : Int) : List UInt8 := (fillD b b.length x 0 (byI s)).map byteI
abbrev FWb (i k : Nat) : SV := S [(4, .box 1 (.own i I)), (9, .box 2 (.own k B8))]
abbrev Wb := (List Int × List Int × Unit) × Rng
abbrev sh85B : SV := S [(0, .yf 0 (FWb 7 8)), (2, .box 6 (.v I)), (5, .v I), (6, .v I)]
abbrev sh85Be : SV := S [(0, .yf 0 (FWb 7 8)), (2, .box 6 (.v I))]
abbrev mkB (rg : Rng) (b w : List Int) : Wb := ((b, w, ()), rg)
def s85B (w : Wb) (n m i : Int) (Q : LQ) : Prop := (w.2 = rngOf Tryd.prog 18 0 ∧ w.1.1.length ≤ 3 ∧ (∀ x ∈ w.1.1, 0 ≤ x ∧ x < 10) ∧ w.1.2.1.length = 10 ∧ m = (w.1.1.length : Int) ∧ 0 ≤ i ∧ i ≤ m ∧ 0 ≤ n ∧ n ≤ 1000) ∧
  Q (.exit 0) (stS 9 sh85Be (mkB (rngOf Tryd.prog 18 0) w.1.1 (fillD w.1.1 (m - i).toNat n i w.1.2.1), restD (m - i).toNat n, ()))
abbrev lc85B : LC2 := ⟨7, sh85B, 9, fun (w, n, m, i, _) Q => s85B w n m i Q⟩
theorem v85C (b w : List Int) (n m i : Int) (Q : AX → St → Prop) : (xloop2 Tryd.prog {} 5 85 0 lc85B (fun _ => some (sh85Be, 9)) (fun (_, _, m, i, _) => (m - i).toNat) (((b, w, ()), rngOf Tryd.prog 18 0), n, m, i, ()) Q) =
  (Go.Lom.fork (Decidable.decide (i < m))
      (Go.Lom.req (Go.Lom.inR Go.IntKind.i64 ((↑(List.length b) : Int) - (1 : Int)))
        (Go.Lom.req (Go.Lom.inR Go.IntKind.i64 ((↑(List.length b) : Int) - (1 : Int) - i))
          (Go.Lom.req
            (Decidable.decide
              ((0 : Int) ≤ (↑(List.length b) : Int) - (1 : Int) - i ∧
                (↑(List.length b) : Int) - (1 : Int) - i < (↑(List.length b) : Int)))
            (Go.Lom.req
              (Decidable.decide (Int.toNat ((↑(List.length b) : Int) - (1 : Int) - i) + (0 : Nat) < List.length b))
              (Go.Lom.req (Go.Lom.inR Go.IntKind.i64 ((48 : Int) + Int.tmod n (10 : Int)))
                (Go.Lom.req (Go.Lom.inR Go.IntKind.u8 ((48 : Int) + Int.tmod n (10 : Int)))
                  (Go.Lom.req
                    (Decidable.decide
                      ((0 : Int) ≤
                          List.getD b (Int.toNat ((↑(List.length b) : Int) - (1 : Int) - i) + (0 : Nat)) (0 : Int) ∧
                        List.getD b (Int.toNat ((↑(List.length b) : Int) - (1 : Int) - i) + (0 : Nat)) (0 : Int) <
                          (↑(List.length w) : Int)))
                    (Go.Lom.req
                      (Decidable.decide
                        (Int.toNat
                              (List.getD b (Int.toNat ((↑(List.length b) : Int) - (1 : Int) - i) + (0 : Nat)) (0 : Int)) +
                            (0 : Nat) <
                          List.length w))
                      (Go.Lom.req (Go.Lom.inR Go.IntKind.i64 (Int.tdiv n (10 : Int)))
                        (Go.Lom.req (Go.Lom.inR Go.IntKind.i64 (i + (1 : Int)))
                          (Go.Lom.req (Decidable.decide ((0 : Nat) + List.length b ≤ List.length b))
                            (Go.Lom.req
                              (Decidable.decide
                                ((0 : Nat) + List.length w ≤
                                  List.length
                                    (List.set w
                                      (Int.toNat
                                          (List.getD b (Int.toNat ((↑(List.length b) : Int) - (1 : Int) - i) + (0 : Nat))
                                            (0 : Int)) +
                                        (0 : Nat))
                                      ((48 : Int) + Int.tmod n (10 : Int)))))
                              (Int.toNat (m - (i + (1 : Int))) < Int.toNat (m - i) ∧
                                Go.Lom.LC2.spec Go.P3.lc85B
                                  (((Go.Lom.seg (0 : Nat) (List.length b) b,
                                        Go.Lom.seg (0 : Nat) (List.length w)
                                          (List.set w
                                            (Int.toNat
                                                (List.getD b
                                                  (Int.toNat ((↑(List.length b) : Int) - (1 : Int) - i) + (0 : Nat))
                                                  (0 : Int)) +
                                              (0 : Nat))
                                            ((48 : Int) + Int.tmod n (10 : Int))),
                                        ()),
                                      Go.Lom.rngOf Go.Proofs.Tryd.prog (18 : Nat) (0 : Nat)),
                                    Int.tdiv n (10 : Int), m, i + (1 : Int), ())
                                  Q)))))))))))))
      (Go.Lom.req (Decidable.decide ((0 : Nat) + List.length b ≤ List.length b))
        (Go.Lom.req (Decidable.decide ((0 : Nat) + List.length w ≤ List.length w))
          (Q (Go.Lom.AX.exit (0 : Nat))
            (Go.Lom.stS (9 : Nat) Go.P3.sh85Be
              (((Go.Lom.seg (0 : Nat) (List.length b) b, Go.Lom.seg (0 : Nat) (List.length w) w, ()),
                  Go.Lom.rngOf Go.Proofs.Tryd.prog (18 : Nat) (0 : Nat)),
                n, ())))))) := by kernel_rfl
abbrev pre85B : SV := A [.yf 0 (FWb 3 4), .box 5 (.v I), .box 6 (.v I)]
abbrev post85B : SV := A [.yf 0 (FWb 7 8), .any, .any]
abbrev fc85B : FC2 := ⟨pre85B, 7, post85B, 9, fun (w, m, n, _) K => (w.2 = rngOf Tryd.prog 18 0 ∧ w.1.1.length ≤ 3 ∧ (∀ x ∈ w.1.1, 0 ≤ x ∧ x < 10) ∧ w.1.2.1.length = 10 ∧ m = (w.1.1.length : Int) ∧ 0 ≤ n ∧ n ≤ 1000) ∧
  K (mkB (rngOf Tryd.prog 18 0) w.1.1 (fillD w.1.1 w.1.1.length n 0 w.1.2.1), (), (), ())⟩
theorem v85D (b w : List Int) (m n : Int) (K : post85B.den → Prop) : (xfn2 Tryd.prog { l2 := [(85, 0, lc85B)] } 5 85 fc85B (((b, w, ()), rngOf Tryd.prog 18 0), m, n, ()) K) =
  (Go.Lom.req (Decidable.decide ((0 : Nat) + List.length b ≤ List.length b))
      (Go.Lom.req (Decidable.decide ((0 : Nat) + List.length w ≤ List.length w))
        ((Go.Lom.rngOf Go.Proofs.Tryd.prog (18 : Nat) (0 : Nat) = Go.Lom.rngOf Go.Proofs.Tryd.prog (18 : Nat) (0 : Nat) ∧
            List.length (Go.Lom.seg (0 : Nat) (List.length b) b) ≤ (3 : Nat) ∧
              (∀ (x : Int), x ∈ Go.Lom.seg (0 : Nat) (List.length b) b → (0 : Int) ≤ x ∧ x < (10 : Int)) ∧
                List.length (Go.Lom.seg (0 : Nat) (List.length w) w) = (10 : Nat) ∧
                  m = (↑(List.length (Go.Lom.seg (0 : Nat) (List.length b) b)) : Int) ∧
                    (0 : Int) ≤ (0 : Int) ∧ (0 : Int) ≤ m ∧ (0 : Int) ≤ n ∧ n ≤ (1000 : Int)) ∧
          Go.Lom.req
            (Decidable.decide
              ((0 : Nat) +
                  List.length
                    (Prod.fst
                      (Prod.fst
                        (Go.P3.mkB (Go.Lom.rngOf Go.Proofs.Tryd.prog (18 : Nat) (0 : Nat))
                          (Go.Lom.seg (0 : Nat) (List.length b) b)
                          (Go.P3.fillD (Go.Lom.seg (0 : Nat) (List.length b) b) (Int.toNat (m - (0 : Int))) n (0 : Int)
                            (Go.Lom.seg (0 : Nat) (List.length w) w))))) ≤
                List.length
                  (Prod.fst
                    (Prod.fst
                      (Go.P3.mkB (Go.Lom.rngOf Go.Proofs.Tryd.prog (18 : Nat) (0 : Nat))
                        (Go.Lom.seg (0 : Nat) (List.length b) b)
                        (Go.P3.fillD (Go.Lom.seg (0 : Nat) (List.length b) b) (Int.toNat (m - (0 : Int))) n (0 : Int)
                          (Go.Lom.seg (0 : Nat) (List.length w) w)))))))
            (Go.Lom.req
              (Decidable.decide
                ((0 : Nat) +
                    List.length
                      (Prod.fst
                        (Prod.snd
                          (Prod.fst
                            (Go.P3.mkB (Go.Lom.rngOf Go.Proofs.Tryd.prog (18 : Nat) (0 : Nat))
                              (Go.Lom.seg (0 : Nat) (List.length b) b)
                              (Go.P3.fillD (Go.Lom.seg (0 : Nat) (List.length b) b) (Int.toNat (m - (0 : Int))) n (0 : Int)
                                (Go.Lom.seg (0 : Nat) (List.length w) w)))))) ≤
                  List.length
                    (Prod.fst
                      (Prod.snd
                        (Prod.fst
                          (Go.P3.mkB (Go.Lom.rngOf Go.Proofs.Tryd.prog (18 : Nat) (0 : Nat))
                            (Go.Lom.seg (0 : Nat) (List.length b) b)
                            (Go.P3.fillD (Go.Lom.seg (0 : Nat) (List.length b) b) (Int.toNat (m - (0 : Int))) n (0 : Int)
                              (Go.Lom.seg (0 : Nat) (List.length w) w))))))))
              (K
                (((Go.Lom.seg (0 : Nat)
                        (List.length
                          (Prod.fst
                            (Prod.fst
                              (Go.P3.mkB (Go.Lom.rngOf Go.Proofs.Tryd.prog (18 : Nat) (0 : Nat))
                                (Go.Lom.seg (0 : Nat) (List.length b) b)
                                (Go.P3.fillD (Go.Lom.seg (0 : Nat) (List.length b) b) (Int.toNat (m - (0 : Int))) n
                                  (0 : Int) (Go.Lom.seg (0 : Nat) (List.length w) w))))))
                        (Prod.fst
                          (Prod.fst
                            (Go.P3.mkB (Go.Lom.rngOf Go.Proofs.Tryd.prog (18 : Nat) (0 : Nat))
                              (Go.Lom.seg (0 : Nat) (List.length b) b)
                              (Go.P3.fillD (Go.Lom.seg (0 : Nat) (List.length b) b) (Int.toNat (m - (0 : Int))) n (0 : Int)
                                (Go.Lom.seg (0 : Nat) (List.length w) w))))),
                      Go.Lom.seg (0 : Nat)
                        (List.length
                          (Prod.fst
                            (Prod.snd
                              (Prod.fst
                                (Go.P3.mkB (Go.Lom.rngOf Go.Proofs.Tryd.prog (18 : Nat) (0 : Nat))
                                  (Go.Lom.seg (0 : Nat) (List.length b) b)
                                  (Go.P3.fillD (Go.Lom.seg (0 : Nat) (List.length b) b) (Int.toNat (m - (0 : Int))) n
                                    (0 : Int) (Go.Lom.seg (0 : Nat) (List.length w) w)))))))
                        (Prod.fst
                          (Prod.snd
                            (Prod.fst
                              (Go.P3.mkB (Go.Lom.rngOf Go.Proofs.Tryd.prog (18 : Nat) (0 : Nat))
                                (Go.Lom.seg (0 : Nat) (List.length b) b)
                                (Go.P3.fillD (Go.Lom.seg (0 : Nat) (List.length b) b) (Int.toNat (m - (0 : Int))) n
                                  (0 : Int) (Go.Lom.seg (0 : Nat) (List.length w) w)))))),
                      ()),
                    Go.Lom.rngOf Go.Proofs.Tryd.prog (18 : Nat) (0 : Nat)),
                  (), (), ())))))) := by kernel_rfl
def readK (s : List UInt8) (b : List Int) : Nat → Int → List Int → List Int
  | 0, _, o => o
  | k + 1, x, o => readK s b k (x + 1) (if (numberI (fillS s b x)).2 = 0 then o ++ [(numberI (fillS s b x)).1] else o)
abbrev sh18c : SV := S [(0, .v .s), (4, .box 0 (.own 1 I)), (7, .own 2 I), (51, .v I), (52, .v I)]
abbrev sh18ce : SV := S [(7, .own 0 I)]
def s18c (s : List UInt8) (b o : List Int) (t x : Int) (Q : LQ) : Prop := (s.length = 10 ∧ b.length ≤ 3 ∧ (∀ x ∈ b, 0 ≤ x ∧ x < 10) ∧ t ≤ 1000 ∧ 0 ≤ x ∧ x ≤ t ∧ (o.length : Int) ≤ x) ∧
  Q (.exit 4) (stS 1 sh18ce (readK s b (t - x).toNat x o, ()))
abbrev lc18c : LC2 := ⟨0, sh18c, 3, fun (s, b, o, t, x, _) Q => s18c s b o t x Q⟩
theorem v18C (s : List UInt8) (b o : List Int) (t x : Int) (Q : AX → St → Prop) : (xloop2 Tryd.prog { f2 := [(85, fc85B)], f := [(16, fcNumber)] } 5 18 2 lc18c (fun _ => some (sh18ce, 1)) (fun (_, _, _, t, x, _) => (t - x).toNat) (s, b, o, t, x, ()) Q) =
  (Go.Lom.fork (Decidable.decide (x < t))
      (Go.Lom.req (Decidable.decide ((0 : Nat) + List.length b ≤ List.length b))
        (Go.Lom.req
          (Decidable.decide ((0 : Nat) + List.length s ≤ List.length (List.map (fun b => (↑(UInt8.toNat b) : Int)) s)))
          ((Go.Lom.rngOf Go.Proofs.Tryd.prog (18 : Nat) (0 : Nat) = Go.Lom.rngOf Go.Proofs.Tryd.prog (18 : Nat) (0 : Nat) ∧
              List.length (Go.Lom.seg (0 : Nat) (List.length b) b) ≤ (3 : Nat) ∧
                (∀ (x : Go.Lom.Ty.den Go.P3.I),
                    x ∈ Go.Lom.seg (0 : Nat) (List.length b) b →
                      (0 : Go.Lom.Ty.den Go.P3.I) ≤ x ∧ x < (10 : Go.Lom.Ty.den Go.P3.I)) ∧
                  List.length (Go.Lom.seg (0 : Nat) (List.length s) (List.map (fun b => (↑(UInt8.toNat b) : Int)) s)) =
                      (10 : Nat) ∧
                    (↑(List.length b) : Int) = (↑(List.length (Go.Lom.seg (0 : Nat) (List.length b) b)) : Int) ∧
                      (0 : Go.Lom.SV.den (Go.Lom.SV.box (6 : Nat) (Go.Lom.SV.v Go.P3.I))) ≤ x ∧
                        x ≤ (1000 : Go.Lom.SV.den (Go.Lom.SV.box (6 : Nat) (Go.Lom.SV.v Go.P3.I)))) ∧
            Go.Lom.req
              (Decidable.decide
                ((0 : Nat) +
                    List.length
                      (Prod.fst
                        (Prod.snd
                          (Prod.fst
                            (Go.P3.mkB (Go.Lom.rngOf Go.Proofs.Tryd.prog (18 : Nat) (0 : Nat))
                              (Go.Lom.seg (0 : Nat) (List.length b) b)
                              (Go.P3.fillD (Go.Lom.seg (0 : Nat) (List.length b) b)
                                (List.length (Go.Lom.seg (0 : Nat) (List.length b) b)) x (0 : Int)
                                (Go.Lom.seg (0 : Nat) (List.length s)
                                  (List.map (fun b => (↑(UInt8.toNat b) : Int)) s))))))) ≤
                  List.length
                    (Prod.fst
                      (Prod.snd
                        (Prod.fst
                          (Go.P3.mkB (Go.Lom.rngOf Go.Proofs.Tryd.prog (18 : Nat) (0 : Nat))
                            (Go.Lom.seg (0 : Nat) (List.length b) b)
                            (Go.P3.fillD (Go.Lom.seg (0 : Nat) (List.length b) b)
                              (List.length (Go.Lom.seg (0 : Nat) (List.length b) b)) x (0 : Int)
                              (Go.Lom.seg (0 : Nat) (List.length s) (List.map (fun b => (↑(UInt8.toNat b) : Int)) s)))))))))
              (Go.Lom.fork
                (Prod.snd
                    (Go.P3.numberI
                      (List.map Go.Lom.byteI
                        (Go.Lom.seg (0 : Nat)
                          (List.length
                            (Prod.fst
                              (Prod.snd
                                (Prod.fst
                                  (Go.P3.mkB (Go.Lom.rngOf Go.Proofs.Tryd.prog (18 : Nat) (0 : Nat))
                                    (Go.Lom.seg (0 : Nat) (List.length b) b)
                                    (Go.P3.fillD (Go.Lom.seg (0 : Nat) (List.length b) b)
                                      (List.length (Go.Lom.seg (0 : Nat) (List.length b) b)) x (0 : Int)
                                      (Go.Lom.seg (0 : Nat) (List.length s)
                                        (List.map (fun b => (↑(UInt8.toNat b) : Int)) s))))))))
                          (Prod.fst
                            (Prod.snd
                              (Prod.fst
                                (Go.P3.mkB (Go.Lom.rngOf Go.Proofs.Tryd.prog (18 : Nat) (0 : Nat))
                                  (Go.Lom.seg (0 : Nat) (List.length b) b)
                                  (Go.P3.fillD (Go.Lom.seg (0 : Nat) (List.length b) b)
                                    (List.length (Go.Lom.seg (0 : Nat) (List.length b) b)) x (0 : Int)
                                    (Go.Lom.seg (0 : Nat) (List.length s)
                                      (List.map (fun b => (↑(UInt8.toNat b) : Int)) s)))))))))) ==
                  (0 : Int))
                (Go.Lom.req (Decidable.decide ((0 : Nat) + List.length o ≤ List.length o))
                  (Go.Lom.req
                    (Go.Lom.fitsN
                      (List.length o +
                        List.length
                          (Go.Lom.seg (0 : Nat) (1 : Nat)
                            [Prod.fst
                                (Go.P3.numberI
                                  (List.map Go.Lom.byteI
                                    (Go.Lom.seg (0 : Nat)
                                      (List.length
                                        (Prod.fst
                                          (Prod.snd
                                            (Prod.fst
                                              (Go.P3.mkB (Go.Lom.rngOf Go.Proofs.Tryd.prog (18 : Nat) (0 : Nat))
                                                (Go.Lom.seg (0 : Nat) (List.length b) b)
                                                (Go.P3.fillD (Go.Lom.seg (0 : Nat) (List.length b) b)
                                                  (List.length (Go.Lom.seg (0 : Nat) (List.length b) b)) x (0 : Int)
                                                  (Go.Lom.seg (0 : Nat) (List.length s)
                                                    (List.map (fun b => (↑(UInt8.toNat b) : Int)) s))))))))
                                      (Prod.fst
                                        (Prod.snd
                                          (Prod.fst
                                            (Go.P3.mkB (Go.Lom.rngOf Go.Proofs.Tryd.prog (18 : Nat) (0 : Nat))
                                              (Go.Lom.seg (0 : Nat) (List.length b) b)
                                              (Go.P3.fillD (Go.Lom.seg (0 : Nat) (List.length b) b)
                                                (List.length (Go.Lom.seg (0 : Nat) (List.length b) b)) x (0 : Int)
                                                (Go.Lom.seg (0 : Nat) (List.length s)
                                                  (List.map (fun b => (↑(UInt8.toNat b) : Int)) s))))))))))]))
                      (8 : Nat))
                    (Go.Lom.req (Go.Lom.inR Go.IntKind.i64 (x + (1 : Int)))
                      (Go.Lom.req
                        (Decidable.decide
                          ((0 : Nat) +
                              List.length
                                (Prod.fst
                                  (Prod.fst
                                    (Go.P3.mkB (Go.Lom.rngOf Go.Proofs.Tryd.prog (18 : Nat) (0 : Nat))
                                      (Go.Lom.seg (0 : Nat) (List.length b) b)
                                      (Go.P3.fillD (Go.Lom.seg (0 : Nat) (List.length b) b)
                                        (List.length (Go.Lom.seg (0 : Nat) (List.length b) b)) x (0 : Int)
                                        (Go.Lom.seg (0 : Nat) (List.length s)
                                          (List.map (fun b => (↑(UInt8.toNat b) : Int)) s)))))) ≤
                            List.length
                              (Prod.fst
                                (Prod.fst
                                  (Go.P3.mkB (Go.Lom.rngOf Go.Proofs.Tryd.prog (18 : Nat) (0 : Nat))
                                    (Go.Lom.seg (0 : Nat) (List.length b) b)
                                    (Go.P3.fillD (Go.Lom.seg (0 : Nat) (List.length b) b)
                                      (List.length (Go.Lom.seg (0 : Nat) (List.length b) b)) x (0 : Int)
                                      (Go.Lom.seg (0 : Nat) (List.length s)
                                        (List.map (fun b => (↑(UInt8.toNat b) : Int)) s))))))))
                        (Go.Lom.req
                          (Decidable.decide
                            ((0 : Nat) +
                                (List.length o +
                                  List.length
                                    (Go.Lom.seg (0 : Nat) (1 : Nat)
                                      [Prod.fst
                                          (Go.P3.numberI
                                            (List.map Go.Lom.byteI
                                              (Go.Lom.seg (0 : Nat)
                                                (List.length
                                                  (Prod.fst
                                                    (Prod.snd
                                                      (Prod.fst
                                                        (Go.P3.mkB (Go.Lom.rngOf Go.Proofs.Tryd.prog (18 : Nat) (0 : Nat))
                                                          (Go.Lom.seg (0 : Nat) (List.length b) b)
                                                          (Go.P3.fillD (Go.Lom.seg (0 : Nat) (List.length b) b)
                                                            (List.length (Go.Lom.seg (0 : Nat) (List.length b) b)) x
                                                            (0 : Int)
                                                            (Go.Lom.seg (0 : Nat) (List.length s)
                                                              (List.map (fun b => (↑(UInt8.toNat b) : Int)) s))))))))
                                                (Prod.fst
                                                  (Prod.snd
                                                    (Prod.fst
                                                      (Go.P3.mkB (Go.Lom.rngOf Go.Proofs.Tryd.prog (18 : Nat) (0 : Nat))
                                                        (Go.Lom.seg (0 : Nat) (List.length b) b)
                                                        (Go.P3.fillD (Go.Lom.seg (0 : Nat) (List.length b) b)
                                                          (List.length (Go.Lom.seg (0 : Nat) (List.length b) b)) x (0 : Int)
                                                          (Go.Lom.seg (0 : Nat) (List.length s)
                                                            (List.map (fun b => (↑(UInt8.toNat b) : Int)) s))))))))))])) ≤
                              List.length
                                (Go.Lom.seg (0 : Nat) (List.length o) o ++
                                  Go.Lom.seg (0 : Nat) (1 : Nat)
                                    [Prod.fst
                                        (Go.P3.numberI
                                          (List.map Go.Lom.byteI
                                            (Go.Lom.seg (0 : Nat)
                                              (List.length
                                                (Prod.fst
                                                  (Prod.snd
                                                    (Prod.fst
                                                      (Go.P3.mkB (Go.Lom.rngOf Go.Proofs.Tryd.prog (18 : Nat) (0 : Nat))
                                                        (Go.Lom.seg (0 : Nat) (List.length b) b)
                                                        (Go.P3.fillD (Go.Lom.seg (0 : Nat) (List.length b) b)
                                                          (List.length (Go.Lom.seg (0 : Nat) (List.length b) b)) x (0 : Int)
                                                          (Go.Lom.seg (0 : Nat) (List.length s)
                                                            (List.map (fun b => (↑(UInt8.toNat b) : Int)) s))))))))
                                              (Prod.fst
                                                (Prod.snd
                                                  (Prod.fst
                                                    (Go.P3.mkB (Go.Lom.rngOf Go.Proofs.Tryd.prog (18 : Nat) (0 : Nat))
                                                      (Go.Lom.seg (0 : Nat) (List.length b) b)
                                                      (Go.P3.fillD (Go.Lom.seg (0 : Nat) (List.length b) b)
                                                        (List.length (Go.Lom.seg (0 : Nat) (List.length b) b)) x (0 : Int)
                                                        (Go.Lom.seg (0 : Nat) (List.length s)
                                                          (List.map (fun b => (↑(UInt8.toNat b) : Int)) s))))))))))])))
                          (Int.toNat (t - (x + (1 : Int))) < Int.toNat (t - x) ∧
                            Go.Lom.LC2.spec Go.P3.lc18c
                              (s,
                                Go.Lom.seg (0 : Nat)
                                  (List.length
                                    (Prod.fst
                                      (Prod.fst
                                        (Go.P3.mkB (Go.Lom.rngOf Go.Proofs.Tryd.prog (18 : Nat) (0 : Nat))
                                          (Go.Lom.seg (0 : Nat) (List.length b) b)
                                          (Go.P3.fillD (Go.Lom.seg (0 : Nat) (List.length b) b)
                                            (List.length (Go.Lom.seg (0 : Nat) (List.length b) b)) x (0 : Int)
                                            (Go.Lom.seg (0 : Nat) (List.length s)
                                              (List.map (fun b => (↑(UInt8.toNat b) : Int)) s)))))))
                                  (Prod.fst
                                    (Prod.fst
                                      (Go.P3.mkB (Go.Lom.rngOf Go.Proofs.Tryd.prog (18 : Nat) (0 : Nat))
                                        (Go.Lom.seg (0 : Nat) (List.length b) b)
                                        (Go.P3.fillD (Go.Lom.seg (0 : Nat) (List.length b) b)
                                          (List.length (Go.Lom.seg (0 : Nat) (List.length b) b)) x (0 : Int)
                                          (Go.Lom.seg (0 : Nat) (List.length s)
                                            (List.map (fun b => (↑(UInt8.toNat b) : Int)) s)))))),
                                Go.Lom.seg (0 : Nat)
                                  (List.length o +
                                    List.length
                                      (Go.Lom.seg (0 : Nat) (1 : Nat)
                                        [Prod.fst
                                            (Go.P3.numberI
                                              (List.map Go.Lom.byteI
                                                (Go.Lom.seg (0 : Nat)
                                                  (List.length
                                                    (Prod.fst
                                                      (Prod.snd
                                                        (Prod.fst
                                                          (Go.P3.mkB (Go.Lom.rngOf Go.Proofs.Tryd.prog (18 : Nat) (0 : Nat))
                                                            (Go.Lom.seg (0 : Nat) (List.length b) b)
                                                            (Go.P3.fillD (Go.Lom.seg (0 : Nat) (List.length b) b)
                                                              (List.length (Go.Lom.seg (0 : Nat) (List.length b) b)) x
                                                              (0 : Int)
                                                              (Go.Lom.seg (0 : Nat) (List.length s)
                                                                (List.map (fun b => (↑(UInt8.toNat b) : Int)) s))))))))
                                                  (Prod.fst
                                                    (Prod.snd
                                                      (Prod.fst
                                                        (Go.P3.mkB (Go.Lom.rngOf Go.Proofs.Tryd.prog (18 : Nat) (0 : Nat))
                                                          (Go.Lom.seg (0 : Nat) (List.length b) b)
                                                          (Go.P3.fillD (Go.Lom.seg (0 : Nat) (List.length b) b)
                                                            (List.length (Go.Lom.seg (0 : Nat) (List.length b) b)) x
                                                            (0 : Int)
                                                            (Go.Lom.seg (0 : Nat) (List.length s)
                                                              (List.map (fun b => (↑(UInt8.toNat b) : Int)) s))))))))))]))
                                  (Go.Lom.seg (0 : Nat) (List.length o) o ++
                                    Go.Lom.seg (0 : Nat) (1 : Nat)
                                      [Prod.fst
                                          (Go.P3.numberI
                                            (List.map Go.Lom.byteI
                                              (Go.Lom.seg (0 : Nat)
                                                (List.length
                                                  (Prod.fst
                                                    (Prod.snd
                                                      (Prod.fst
                                                        (Go.P3.mkB (Go.Lom.rngOf Go.Proofs.Tryd.prog (18 : Nat) (0 : Nat))
                                                          (Go.Lom.seg (0 : Nat) (List.length b) b)
                                                          (Go.P3.fillD (Go.Lom.seg (0 : Nat) (List.length b) b)
                                                            (List.length (Go.Lom.seg (0 : Nat) (List.length b) b)) x
                                                            (0 : Int)
                                                            (Go.Lom.seg (0 : Nat) (List.length s)
                                                              (List.map (fun b => (↑(UInt8.toNat b) : Int)) s))))))))
                                                (Prod.fst
                                                  (Prod.snd
                                                    (Prod.fst
                                                      (Go.P3.mkB (Go.Lom.rngOf Go.Proofs.Tryd.prog (18 : Nat) (0 : Nat))
                                                        (Go.Lom.seg (0 : Nat) (List.length b) b)
                                                        (Go.P3.fillD (Go.Lom.seg (0 : Nat) (List.length b) b)
                                                          (List.length (Go.Lom.seg (0 : Nat) (List.length b) b)) x (0 : Int)
                                                          (Go.Lom.seg (0 : Nat) (List.length s)
                                                            (List.map (fun b => (↑(UInt8.toNat b) : Int)) s))))))))))]),
                                t, x + (1 : Int), ())
                              Q))))))
                (Go.Lom.req (Go.Lom.inR Go.IntKind.i64 (x + (1 : Int)))
                  (Go.Lom.req
                    (Decidable.decide
                      ((0 : Nat) +
                          List.length
                            (Prod.fst
                              (Prod.fst
                                (Go.P3.mkB (Go.Lom.rngOf Go.Proofs.Tryd.prog (18 : Nat) (0 : Nat))
                                  (Go.Lom.seg (0 : Nat) (List.length b) b)
                                  (Go.P3.fillD (Go.Lom.seg (0 : Nat) (List.length b) b)
                                    (List.length (Go.Lom.seg (0 : Nat) (List.length b) b)) x (0 : Int)
                                    (Go.Lom.seg (0 : Nat) (List.length s)
                                      (List.map (fun b => (↑(UInt8.toNat b) : Int)) s)))))) ≤
                        List.length
                          (Prod.fst
                            (Prod.fst
                              (Go.P3.mkB (Go.Lom.rngOf Go.Proofs.Tryd.prog (18 : Nat) (0 : Nat))
                                (Go.Lom.seg (0 : Nat) (List.length b) b)
                                (Go.P3.fillD (Go.Lom.seg (0 : Nat) (List.length b) b)
                                  (List.length (Go.Lom.seg (0 : Nat) (List.length b) b)) x (0 : Int)
                                  (Go.Lom.seg (0 : Nat) (List.length s)
                                    (List.map (fun b => (↑(UInt8.toNat b) : Int)) s))))))))
                    (Go.Lom.req (Decidable.decide ((0 : Nat) + List.length o ≤ List.length o))
                      (Int.toNat (t - (x + (1 : Int))) < Int.toNat (t - x) ∧
                        Go.Lom.LC2.spec Go.P3.lc18c
                          (s,
                            Go.Lom.seg (0 : Nat)
                              (List.length
                                (Prod.fst
                                  (Prod.fst
                                    (Go.P3.mkB (Go.Lom.rngOf Go.Proofs.Tryd.prog (18 : Nat) (0 : Nat))
                                      (Go.Lom.seg (0 : Nat) (List.length b) b)
                                      (Go.P3.fillD (Go.Lom.seg (0 : Nat) (List.length b) b)
                                        (List.length (Go.Lom.seg (0 : Nat) (List.length b) b)) x (0 : Int)
                                        (Go.Lom.seg (0 : Nat) (List.length s)
                                          (List.map (fun b => (↑(UInt8.toNat b) : Int)) s)))))))
                              (Prod.fst
                                (Prod.fst
                                  (Go.P3.mkB (Go.Lom.rngOf Go.Proofs.Tryd.prog (18 : Nat) (0 : Nat))
                                    (Go.Lom.seg (0 : Nat) (List.length b) b)
                                    (Go.P3.fillD (Go.Lom.seg (0 : Nat) (List.length b) b)
                                      (List.length (Go.Lom.seg (0 : Nat) (List.length b) b)) x (0 : Int)
                                      (Go.Lom.seg (0 : Nat) (List.length s)
                                        (List.map (fun b => (↑(UInt8.toNat b) : Int)) s)))))),
                            Go.Lom.seg (0 : Nat) (List.length o) o, t, x + (1 : Int), ())
                          Q))))))))
      (Go.Lom.req (Decidable.decide ((0 : Nat) + List.length o ≤ List.length o))
        (Q (Go.Lom.AX.exit (4 : Nat)) (Go.Lom.stS (1 : Nat) Go.P3.sh18ce (Go.Lom.seg (0 : Nat) (List.length o) o, ()))))) := by kernel_rfl
def readsI (s : List UInt8) : List Int × Int := if s.length ≠ 10 then ([], 5) else match blankK s 10 0 [] with
  | none => ([], 5)
  | some b => if b.length > 3 then ([], 5) else (readK s b (tenK b.length).toNat 0 [], 0)
abbrev fcReads : FC := ⟨[.v .s], [L, I], fun x K => K ((readsI x.1).1, (readsI x.1).2, ())⟩
theorem v18F (s : List UInt8) (K : dens [L, I] → Prop) : (xfn1 Tryd.prog { l2 := [(18, 0, lc18a), (18, 1, lc18b), (18, 2, lc18c)] } 5 18 fcReads (s, ()) K) =
  (Go.Lom.fork ((↑(List.length s) : Int) != (10 : Int)) (K ([], (5 : Int), ()))
      ((List.length s = (10 : Nat) ∧
          (↑(List.length s) : Int) = (10 : Int) ∧
            (0 : Int) ≤ (0 : Int) ∧
              (0 : Int) ≤ (10 : Int) ∧ (0 : Int) ≤ (0 : Int) ∧ ∀ (x : Int), x ∈ [] → (0 : Int) ≤ x ∧ x < (10 : Int)) ∧
        (Go.P3.blankK s (10 : Nat) (0 : Int) [] = Option.none →
            K ([], (5 : Go.Lom.SV.den (Go.Lom.SV.slot (3 : Nat) (Go.Lom.SV.v Go.P3.I))), ())) ∧
          ∀ (r : List Int),
            Go.P3.blankK s (10 : Nat) (0 : Int) [] = Option.some r →
              List.length r ≤ (10 : Nat) →
                (∀ (x : Int), x ∈ r → (0 : Int) ≤ x ∧ x < (10 : Int)) →
                  Go.Lom.fork (Decidable.decide ((↑(List.length r) : Int) > (3 : Int))) (K ([], (5 : Int), ()))
                    (Go.Lom.req (Decidable.decide ((0 : Nat) + List.length r ≤ List.length r))
                      (((↑(List.length r) : Int) ≤ (3 : Int) ∧
                          (0 : Int) ≤ (0 : Int) ∧ (0 : Int) ≤ (↑(List.length r) : Int) ∧ (1 : Int) = (1 : Int)) ∧
                        Go.Lom.req
                          (Decidable.decide
                            ((0 : Nat) + List.length (Go.Lom.seg (0 : Nat) (List.length r) r) ≤
                              List.length (Go.Lom.seg (0 : Nat) (List.length r) r)))
                          ((List.length s = (10 : Nat) ∧
                              List.length
                                    (Go.Lom.seg (0 : Nat) (List.length (Go.Lom.seg (0 : Nat) (List.length r) r))
                                      (Go.Lom.seg (0 : Nat) (List.length r) r)) ≤
                                  (3 : Nat) ∧
                                (∀ (x : Int),
                                    x ∈
                                        Go.Lom.seg (0 : Nat) (List.length (Go.Lom.seg (0 : Nat) (List.length r) r))
                                          (Go.Lom.seg (0 : Nat) (List.length r) r) →
                                      (0 : Int) ≤ x ∧ x < (10 : Int)) ∧
                                  Go.P3.tenK (Int.toNat (↑(List.length r) : Int)) ≤ (1000 : Int) ∧
                                    (0 : Int) ≤ (0 : Int) ∧
                                      (0 : Int) ≤ Go.P3.tenK (Int.toNat (↑(List.length r) : Int)) ∧ (0 : Int) ≤ (0 : Int)) ∧
                            Go.Lom.req
                              (Decidable.decide
                                ((0 : Nat) +
                                    List.length
                                      (Go.P3.readK s
                                        (Go.Lom.seg (0 : Nat) (List.length (Go.Lom.seg (0 : Nat) (List.length r) r))
                                          (Go.Lom.seg (0 : Nat) (List.length r) r))
                                        (Int.toNat (Go.P3.tenK (Int.toNat (↑(List.length r) : Int)) - (0 : Int))) (0 : Int)
                                        []) ≤
                                  List.length
                                    (Go.P3.readK s
                                      (Go.Lom.seg (0 : Nat) (List.length (Go.Lom.seg (0 : Nat) (List.length r) r))
                                        (Go.Lom.seg (0 : Nat) (List.length r) r))
                                      (Int.toNat (Go.P3.tenK (Int.toNat (↑(List.length r) : Int)) - (0 : Int))) (0 : Int)
                                      [])))
                              (K
                                (Go.Lom.seg (0 : Nat)
                                    (List.length
                                      (Go.P3.readK s
                                        (Go.Lom.seg (0 : Nat) (List.length (Go.Lom.seg (0 : Nat) (List.length r) r))
                                          (Go.Lom.seg (0 : Nat) (List.length r) r))
                                        (Int.toNat (Go.P3.tenK (Int.toNat (↑(List.length r) : Int)) - (0 : Int))) (0 : Int)
                                        []))
                                    (Go.P3.readK s
                                      (Go.Lom.seg (0 : Nat) (List.length (Go.Lom.seg (0 : Nat) (List.length r) r))
                                        (Go.Lom.seg (0 : Nat) (List.length r) r))
                                      (Int.toNat (Go.P3.tenK (Int.toNat (↑(List.length r) : Int)) - (0 : Int))) (0 : Int)
                                      []),
                                  (0 : Int), ()))))))) := by kernel_rfl
end Go.P3
