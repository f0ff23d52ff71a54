/- Funds: what follows from a course: states and what is to be shown, reduced. No conditions. -/
import Derived.Test.YtklleedcdjkpeaaPlanS
set_option linter.unusedSimpArgs false
set_option linter.unusedVariables false
set_option linter.constructorNameAsVariable false
set_option maxRecDepth 100000
set_option maxHeartbeats 2000000
namespace Go.P9
open Go.Lom Go.Proofs Go

abbrev TC : Ty := .pr L (.pr TR (.pr L L))
abbrev Cs : Type := List Int × Rn × List Int × List Int
def goodC (f : Fd) (c : Cs) : Prop := okF f = true ∧ planB f c.1 = true ∧ allowB f c.2.1 = true ∧ flowB c.2.2.1 (fIn f) = true ∧ flowB c.2.2.2 (fPrices f) = true
def takeI (out : List (List Int)) (d k : Int) : Int := ((out.drop k.toNat).map fun row => row.getD d.toNat 0).sum
def flowI (f : Fd) (c : Cs) (d m : Int) : Int := m + (c.2.2.1.getD d.toNat 0 + c.1.getD d.toNat 0 * c.2.2.2.getD d.toNat 0 - (fBonds f).getD d.toNat 0)
def folK (f : Fd) (c : Cs) : Nat → Int → Int → List Int
  | 0, _, _ => []
  | k + 1, d, m => (flowI f c d m - takeI c.2.1.2 d 0) :: folK f c k (d + 1) (flowI f c d m - takeI c.2.1.2 d 0)
def folL (f : Fd) (c : Cs) : List Int := folK f c (fIn f).length 0 (fCash f)
def okC (f : Fd) (c : Cs) (out : List Int) (m d : Int) : Prop := goodC f c ∧ 0 ≤ d ∧ d ≤ (fIn f).length ∧ out.length ≤ d ∧ -10737418240 * d ≤ m ∧ m ≤ 1099511627776 + 10737418240 * d
abbrev bRn : SV := .box 1 (.v TR)
abbrev shO : SV := S [(14, .own 0 I)]
/-! the program's -/
abbrev sh14b : SV := S [(1, .v L), (3, .v L), (4, .v L), (5, bF), (7, bRn), (14, .own 2 I), (15, .v I), (16, .v I), (49, .v I), (50, .v I), (76, .v LL), (77, .v I), (78, .v I)]
abbrev sh14x : SV := S [(1, .v L), (3, .v L), (4, .v L), (5, bF), (7, bRn), (14, .own 2 I), (15, .v I), (16, .v I), (49, .v I), (50, .v I)]
def s14b (l i p : List Int) (f : Fd) (r : Rn) (out : List Int) (m d n d' : Int) (rows : List (List Int)) (k' k : Int) (Q : LQ) : Prop :=
  ((goodC f (l, r, i, p) ∧ 0 ≤ d ∧ d < (fIn f).length ∧ rows = r.2 ∧ k' = rows.length ∧ 0 ≤ k ∧ k ≤ rows.length ∧ -200000000000 - 1073741824 * k ≤ m ∧ m ≤ 2000000000000)) ∧
  Q (.exit 2) (stS 3 sh14x (l, i, p, f, r, out, m - takeI rows d k, d, n, d', ()))
abbrev lc14b : LC2 := ⟨0, sh14b, 3, fun (l, i, p, f, r, out, m, d, n, d', rows, k', k, _) Q => s14b l i p f r out m d n d' rows k' k Q⟩
theorem v14b (l i p : List Int) (f : Fd) (r : Rn) (out : List Int) (m d n d' : Int) (rows : List (List Int)) (k' k : Int) (Q : AX → St → Prop) : (xloop2 Try.prog {} 5 14 1 lc14b (fun _ => some (sh14x, 3)) (fun (_, _, _, _, _, _, _, _, _, _, rows, _, k, _) => mL rows k) (l, i, p, f, r, out, m, d, n, d', rows, k', k, ()) Q) =
  (Go.Lom.fork (Decidable.decide (k < k'))
      (Go.Lom.req (Decidable.decide ((0 : Int) ≤ k ∧ k < (↑(List.length rows) : Int)))
        (Go.Lom.req (Decidable.decide ((0 : Int) ≤ d ∧ d < (↑(List.length (List.getD rows (Int.toNat k) [])) : Int)))
          (Go.Lom.req (Go.Lom.inR Go.IntKind.i64 (m - List.getD (List.getD rows (Int.toNat k) []) (Int.toNat d) (0 : Int)))
            (Go.Lom.req (Go.Lom.inR Go.IntKind.i64 (k + (1 : Int)))
              (Go.Lom.req (Decidable.decide ((0 : Nat) + List.length out ≤ List.length out))
                (Go.P9.mL rows (k + (1 : Int)) < Go.P9.mL rows k ∧
                  Go.Lom.LC2.spec Go.P9.lc14b
                    (l, i, p, f, r, Go.Lom.seg (0 : Nat) (List.length out) out,
                      m - List.getD (List.getD rows (Int.toNat k) []) (Int.toNat d) (0 : Int), d, n, d', rows, k',
                      k + (1 : Int), ())
                    Q))))))
      (Go.Lom.req (Decidable.decide ((0 : Nat) + List.length out ≤ List.length out))
        (Q (Go.Lom.AX.exit (2 : Nat))
          (Go.Lom.stS (3 : Nat) Go.P9.sh14x (l, i, p, f, r, Go.Lom.seg (0 : Nat) (List.length out) out, m, d, n, d', ()))))) := by kernel_rfl
abbrev sh14 : SV := S [(1, .v L), (3, .v L), (4, .v L), (5, bF), (7, bRn), (14, .own 2 I), (15, .v I), (49, .v I), (50, .v I)]
def s14a (l i p : List Int) (f : Fd) (r : Rn) (out : List Int) (m n d : Int) (Q : LQ) : Prop := (okC f (l, r, i, p) out m d ∧ n = (fIn f).length) ∧
  Q (.exit 0) (stS 1 shO (out ++ folK f (l, r, i, p) ((fIn f).length - d.toNat) d m, ()))
abbrev lc14a : LC2 := ⟨0, sh14, 3, fun (l, i, p, f, r, out, m, n, d, _) Q => s14a l i p f r out m n d Q⟩
theorem v14a (l i p : List Int) (f : Fd) (r : Rn) (out : List Int) (m n d : Int) (Q : AX → St → Prop) : (xloop2 Try.prog { l2 := [(14, 1, lc14b)] } 5 14 0 lc14a (fun _ => some (shO, 1)) (fun (_, _, _, f, _, _, _, _, d, _) => mL (fIn f) d) (l, i, p, f, r, out, m, n, d, ()) Q) =
  (Go.Lom.fork (Decidable.decide (d < n))
      (Go.Lom.req (Decidable.decide ((0 : Int) ≤ d ∧ d < (↑(List.length i) : Int)))
        (Go.Lom.req (Decidable.decide ((0 : Int) ≤ d ∧ d < (↑(List.length l) : Int)))
          (Go.Lom.req (Decidable.decide ((0 : Int) ≤ d ∧ d < (↑(List.length p) : Int)))
            (Go.Lom.req
              (Go.Lom.inR Go.IntKind.i64 (List.getD l (Int.toNat d) (0 : Int) * List.getD p (Int.toNat d) (0 : Int)))
              (Go.Lom.req
                (Go.Lom.inR Go.IntKind.i64
                  (List.getD i (Int.toNat d) (0 : Int) +
                    List.getD l (Int.toNat d) (0 : Int) * List.getD p (Int.toNat d) (0 : Int)))
                (Go.Lom.req
                  (Decidable.decide ((0 : Int) ≤ d ∧ d < (↑(List.length (Prod.fst (Prod.snd (Prod.snd f)))) : Int)))
                  (Go.Lom.req
                    (Go.Lom.inR Go.IntKind.i64
                      (List.getD i (Int.toNat d) (0 : Int) +
                          List.getD l (Int.toNat d) (0 : Int) * List.getD p (Int.toNat d) (0 : Int) -
                        List.getD (Prod.fst (Prod.snd (Prod.snd f))) (Int.toNat d) (0 : Int)))
                    (Go.Lom.req
                      (Go.Lom.inR Go.IntKind.i64
                        (m +
                          (List.getD i (Int.toNat d) (0 : Int) +
                              List.getD l (Int.toNat d) (0 : Int) * List.getD p (Int.toNat d) (0 : Int) -
                            List.getD (Prod.fst (Prod.snd (Prod.snd f))) (Int.toNat d) (0 : Int))))
                      (Go.Lom.req (Decidable.decide ((0 : Nat) + List.length out ≤ List.length out))
                        ((Go.P9.goodC f (l, r, i, p) ∧
                            (0 : Int) ≤ d ∧
                              d < (↑(List.length (Go.P9.fIn f)) : Int) ∧
                                Prod.snd r = Prod.snd r ∧
                                  (↑(List.length (Prod.snd r)) : Int) = (↑(List.length (Prod.snd r)) : Int) ∧
                                    (0 : Int) ≤ (0 : Int) ∧
                                      (0 : Int) ≤ (↑(List.length (Prod.snd r)) : Int) ∧
                                        (-200000000000 : Int) ≤
                                            m +
                                              (List.getD i (Int.toNat d) (0 : Int) +
                                                  List.getD l (Int.toNat d) (0 : Int) *
                                                    List.getD p (Int.toNat d) (0 : Int) -
                                                List.getD (Prod.fst (Prod.snd (Prod.snd f))) (Int.toNat d) (0 : Int)) ∧
                                          m +
                                              (List.getD i (Int.toNat d) (0 : Int) +
                                                  List.getD l (Int.toNat d) (0 : Int) *
                                                    List.getD p (Int.toNat d) (0 : Int) -
                                                List.getD (Prod.fst (Prod.snd (Prod.snd f))) (Int.toNat d) (0 : Int)) ≤
                                            (2000000000000 : Int)) ∧
                          Go.Lom.req
                            (Decidable.decide
                              ((0 : Nat) + List.length (Go.Lom.seg (0 : Nat) (List.length out) out) ≤
                                List.length (Go.Lom.seg (0 : Nat) (List.length out) out)))
                            (Go.Lom.req
                              (Go.Lom.fitsN
                                (List.length (Go.Lom.seg (0 : Nat) (List.length out) out) +
                                  List.length
                                    (Go.Lom.seg (0 : Nat) (1 : Nat)
                                      [m +
                                            (List.getD i (Int.toNat d) (0 : Int) +
                                                List.getD l (Int.toNat d) (0 : Int) * List.getD p (Int.toNat d) (0 : Int) -
                                              List.getD (Prod.fst (Prod.snd (Prod.snd f))) (Int.toNat d) (0 : Int)) -
                                          Go.P9.takeI (Prod.snd r) d (0 : Int)]))
                                (8 : Nat))
                              (Go.Lom.req (Go.Lom.inR Go.IntKind.i64 (d + (1 : Int)))
                                (Go.Lom.req
                                  (Decidable.decide
                                    ((0 : Nat) +
                                        (List.length (Go.Lom.seg (0 : Nat) (List.length out) out) +
                                          List.length
                                            (Go.Lom.seg (0 : Nat) (1 : Nat)
                                              [m +
                                                    (List.getD i (Int.toNat d) (0 : Int) +
                                                        List.getD l (Int.toNat d) (0 : Int) *
                                                          List.getD p (Int.toNat d) (0 : Int) -
                                                      List.getD (Prod.fst (Prod.snd (Prod.snd f))) (Int.toNat d)
                                                        (0 : Int)) -
                                                  Go.P9.takeI (Prod.snd r) d (0 : Int)])) ≤
                                      List.length
                                        (Go.Lom.seg (0 : Nat) (List.length (Go.Lom.seg (0 : Nat) (List.length out) out))
                                            (Go.Lom.seg (0 : Nat) (List.length out) out) ++
                                          Go.Lom.seg (0 : Nat) (1 : Nat)
                                            [m +
                                                  (List.getD i (Int.toNat d) (0 : Int) +
                                                      List.getD l (Int.toNat d) (0 : Int) *
                                                        List.getD p (Int.toNat d) (0 : Int) -
                                                    List.getD (Prod.fst (Prod.snd (Prod.snd f))) (Int.toNat d) (0 : Int)) -
                                                Go.P9.takeI (Prod.snd r) d (0 : Int)])))
                                  (Go.P9.mL (Go.P9.fIn f) (d + (1 : Int)) < Go.P9.mL (Go.P9.fIn f) d ∧
                                    Go.Lom.LC2.spec Go.P9.lc14a
                                      (l, i, p, f, r,
                                        Go.Lom.seg (0 : Nat)
                                          (List.length (Go.Lom.seg (0 : Nat) (List.length out) out) +
                                            List.length
                                              (Go.Lom.seg (0 : Nat) (1 : Nat)
                                                [m +
                                                      (List.getD i (Int.toNat d) (0 : Int) +
                                                          List.getD l (Int.toNat d) (0 : Int) *
                                                            List.getD p (Int.toNat d) (0 : Int) -
                                                        List.getD (Prod.fst (Prod.snd (Prod.snd f))) (Int.toNat d)
                                                          (0 : Int)) -
                                                    Go.P9.takeI (Prod.snd r) d (0 : Int)]))
                                          (Go.Lom.seg (0 : Nat) (List.length (Go.Lom.seg (0 : Nat) (List.length out) out))
                                              (Go.Lom.seg (0 : Nat) (List.length out) out) ++
                                            Go.Lom.seg (0 : Nat) (1 : Nat)
                                              [m +
                                                    (List.getD i (Int.toNat d) (0 : Int) +
                                                        List.getD l (Int.toNat d) (0 : Int) *
                                                          List.getD p (Int.toNat d) (0 : Int) -
                                                      List.getD (Prod.fst (Prod.snd (Prod.snd f))) (Int.toNat d)
                                                        (0 : Int)) -
                                                  Go.P9.takeI (Prod.snd r) d (0 : Int)]),
                                        m +
                                            (List.getD i (Int.toNat d) (0 : Int) +
                                                List.getD l (Int.toNat d) (0 : Int) * List.getD p (Int.toNat d) (0 : Int) -
                                              List.getD (Prod.fst (Prod.snd (Prod.snd f))) (Int.toNat d) (0 : Int)) -
                                          Go.P9.takeI (Prod.snd r) d (0 : Int),
                                        n, d + (1 : Int), ())
                                      Q))))))))))))))
      (Go.Lom.req (Decidable.decide ((0 : Nat) + List.length out ≤ List.length out))
        (Q (Go.Lom.AX.exit (0 : Nat)) (Go.Lom.stS (1 : Nat) Go.P9.shO (Go.Lom.seg (0 : Nat) (List.length out) out, ()))))) := by kernel_rfl
def folE (f : Fd) (c : Cs) : Int := if okF f = true then (if planB f c.1 = true then (if allowB f c.2.1 = true then (if flowB c.2.2.1 (fIn f) = true ∧ flowB c.2.2.2 (fPrices f) = true then 0 else 94) else 92) else 93) else 90
def folR (f : Fd) (c : Cs) : List Int := if folE f c = 0 then folL f c else []
def bigC (c : Cs) : Prop := c.1.length ≤ 9223372036854775807 ∧ bigR c.2.1 ∧ c.2.2.1.length ≤ 9223372036854775807 ∧ c.2.2.2.length ≤ 9223372036854775807
abbrev fcFollow : FC := ⟨[.v TF, .v L, .v TR, .v L, .v L], [L, E], fun (f, l, r, i, p, _) K => (bigF f ∧ bigC (l, r, i, p)) ∧ K (folR f (l, r, i, p), folE f (l, r, i, p), ())⟩
theorem v14F (f : Fd) (l : List Int) (r : Rn) (i p : List Int) (K : dens [L, E] → Prop) : (xfn1 Try.prog { f := [(29, fcCheck), (47, fcPlan), (48, fc48), (49, fcFlow)], l2 := [(14, 0, lc14a)] } 5 14 fcFollow (f, l, r, i, p, ()) K) =
  (Go.P9.bigF f ∧
      Go.Lom.fork (Go.P9.chkE f != (0 : Int)) (K ([], Go.P9.chkE f, ()))
        ((Go.P9.okF f = Bool.true ∧ List.length l ≤ (9223372036854775807 : Nat)) ∧
          Go.Lom.fork (!Go.P9.planB f l) (K ([], (93 : Int), ()))
            ((Go.P9.okF f = Bool.true ∧ Go.P9.bigR r) ∧
              Go.Lom.fork (!Go.P9.allowB f r) (K ([], (92 : Int), ()))
                ((List.length i ≤ (9223372036854775807 : Nat) ∧
                    List.length (Prod.fst (Prod.snd f)) ≤ (9223372036854775807 : Nat)) ∧
                  Go.Lom.fork (!Go.P9.flowB i (Prod.fst (Prod.snd f))) (K ([], (94 : Int), ()))
                    ((List.length p ≤ (9223372036854775807 : Nat) ∧
                        List.length (Prod.fst (Prod.snd (Prod.snd (Prod.snd (Prod.snd f))))) ≤
                          (9223372036854775807 : Nat)) ∧
                      Go.Lom.fork (!Go.P9.flowB p (Prod.fst (Prod.snd (Prod.snd (Prod.snd (Prod.snd f))))))
                        (K ([], (94 : Int), ()))
                        ((Go.P9.okC f (l, r, i, p) [] (Prod.fst f) (0 : Int) ∧
                            (↑(List.length (Prod.fst (Prod.snd f))) : Int) = (↑(List.length (Go.P9.fIn f)) : Int)) ∧
                          Go.Lom.req
                            (Decidable.decide
                              ((0 : Nat) +
                                  List.length
                                    ([] ++
                                      Go.P9.folK f (l, r, i, p) (List.length (Go.P9.fIn f) - (0 : Nat)) (0 : Int)
                                        (Prod.fst f)) ≤
                                List.length
                                  ([] ++
                                    Go.P9.folK f (l, r, i, p) (List.length (Go.P9.fIn f) - (0 : Nat)) (0 : Int)
                                      (Prod.fst f))))
                            (K
                              (Go.Lom.seg (0 : Nat)
                                  (List.length
                                    ([] ++
                                      Go.P9.folK f (l, r, i, p) (List.length (Go.P9.fIn f) - (0 : Nat)) (0 : Int)
                                        (Prod.fst f)))
                                  ([] ++
                                    Go.P9.folK f (l, r, i, p) (List.length (Go.P9.fIn f) - (0 : Nat)) (0 : Int)
                                      (Prod.fst f)),
                                (0 : Int), ())))))))) := by kernel_rfl
/-! the reference's -/
abbrev sh15b : SV := S [(1, .v L), (3, .v L), (4, .v L), (5, bF), (7, bRn), (13, .v I), (14, .own 2 I), (15, .v I), (16, .v I)]
abbrev sh15 : SV := S [(1, .v L), (3, .v L), (4, .v L), (5, bF), (7, bRn), (13, .v I), (14, .own 2 I), (15, .v I)]
def s15b (l i p : List Int) (f : Fd) (r : Rn) (m : Int) (out : List Int) (d k : Int) (Q : LQ) : Prop :=
  ((goodC f (l, r, i, p) ∧ 0 ≤ d ∧ d < (fIn f).length ∧ 0 ≤ k ∧ k ≤ r.2.length ∧ -200000000000 - 1073741824 * k ≤ m ∧ m ≤ 2000000000000)) ∧
  Q (.exit 2) (stS 3 sh15 (l, i, p, f, r, m - takeI r.2 d k, out, d, ()))
abbrev lc15b : LC2 := ⟨0, sh15b, 3, fun (l, i, p, f, r, m, out, d, k, _) Q => s15b l i p f r m out d k Q⟩
theorem v15b (l i p : List Int) (f : Fd) (r : Rn) (m : Int) (out : List Int) (d k : Int) (Q : AX → St → Prop) : (xloop2 Try.prog {} 5 15 1 lc15b (fun _ => some (sh15, 3)) (fun (_, _, _, _, r, _, _, _, k, _) => mL r.2 k) (l, i, p, f, r, m, out, d, k, ()) Q) =
  (Go.Lom.fork (Decidable.decide (k < (↑(List.length (Prod.snd r)) : Int)))
      (Go.Lom.req (Decidable.decide ((0 : Int) ≤ k ∧ k < (↑(List.length (Prod.snd r)) : Int)))
        (Go.Lom.req
          (Decidable.decide ((0 : Int) ≤ d ∧ d < (↑(List.length (List.getD (Prod.snd r) (Int.toNat k) [])) : Int)))
          (Go.Lom.req
            (Go.Lom.inR Go.IntKind.i64 (m - List.getD (List.getD (Prod.snd r) (Int.toNat k) []) (Int.toNat d) (0 : Int)))
            (Go.Lom.req (Go.Lom.inR Go.IntKind.i64 (k + (1 : Int)))
              (Go.Lom.req (Decidable.decide ((0 : Nat) + List.length out ≤ List.length out))
                (Go.P9.mL (Prod.snd r) (k + (1 : Int)) < Go.P9.mL (Prod.snd r) k ∧
                  Go.Lom.LC2.spec Go.P9.lc15b
                    (l, i, p, f, r, m - List.getD (List.getD (Prod.snd r) (Int.toNat k) []) (Int.toNat d) (0 : Int),
                      Go.Lom.seg (0 : Nat) (List.length out) out, d, k + (1 : Int), ())
                    Q))))))
      (Go.Lom.req (Decidable.decide ((0 : Nat) + List.length out ≤ List.length out))
        (Q (Go.Lom.AX.exit (2 : Nat))
          (Go.Lom.stS (3 : Nat) Go.P9.sh15 (l, i, p, f, r, m, Go.Lom.seg (0 : Nat) (List.length out) out, d, ()))))) := by kernel_rfl
def s15a (l i p : List Int) (f : Fd) (r : Rn) (m : Int) (out : List Int) (d : Int) (Q : LQ) : Prop := okC f (l, r, i, p) out m d ∧
  Q (.exit 0) (stS 1 shO (out ++ folK f (l, r, i, p) ((fIn f).length - d.toNat) d m, ()))
abbrev lc15a : LC2 := ⟨0, sh15, 3, fun (l, i, p, f, r, m, out, d, _) Q => s15a l i p f r m out d Q⟩
theorem v15a (l i p : List Int) (f : Fd) (r : Rn) (m : Int) (out : List Int) (d : Int) (Q : AX → St → Prop) : (xloop2 Try.prog { l2 := [(15, 1, lc15b)] } 5 15 0 lc15a (fun _ => some (shO, 1)) (fun (_, _, _, f, _, _, _, d, _) => mL (fIn f) d) (l, i, p, f, r, m, out, d, ()) Q) =
  (Go.Lom.fork (Decidable.decide (d < (↑(List.length (Prod.fst (Prod.snd f))) : Int)))
      (Go.Lom.req (Decidable.decide ((0 : Int) ≤ d ∧ d < (↑(List.length i) : Int)))
        (Go.Lom.req (Decidable.decide ((0 : Int) ≤ d ∧ d < (↑(List.length l) : Int)))
          (Go.Lom.req (Decidable.decide ((0 : Int) ≤ d ∧ d < (↑(List.length p) : Int)))
            (Go.Lom.req
              (Go.Lom.inR Go.IntKind.i64 (List.getD l (Int.toNat d) (0 : Int) * List.getD p (Int.toNat d) (0 : Int)))
              (Go.Lom.req
                (Go.Lom.inR Go.IntKind.i64
                  (List.getD i (Int.toNat d) (0 : Int) +
                    List.getD l (Int.toNat d) (0 : Int) * List.getD p (Int.toNat d) (0 : Int)))
                (Go.Lom.req
                  (Decidable.decide ((0 : Int) ≤ d ∧ d < (↑(List.length (Prod.fst (Prod.snd (Prod.snd f)))) : Int)))
                  (Go.Lom.req
                    (Go.Lom.inR Go.IntKind.i64
                      (List.getD i (Int.toNat d) (0 : Int) +
                          List.getD l (Int.toNat d) (0 : Int) * List.getD p (Int.toNat d) (0 : Int) -
                        List.getD (Prod.fst (Prod.snd (Prod.snd f))) (Int.toNat d) (0 : Int)))
                    (Go.Lom.req
                      (Go.Lom.inR Go.IntKind.i64
                        (m +
                          (List.getD i (Int.toNat d) (0 : Int) +
                              List.getD l (Int.toNat d) (0 : Int) * List.getD p (Int.toNat d) (0 : Int) -
                            List.getD (Prod.fst (Prod.snd (Prod.snd f))) (Int.toNat d) (0 : Int))))
                      (Go.Lom.req (Decidable.decide ((0 : Nat) + List.length out ≤ List.length out))
                        ((Go.P9.goodC f (l, r, i, p) ∧
                            (0 : Int) ≤ d ∧
                              d < (↑(List.length (Go.P9.fIn f)) : Int) ∧
                                (0 : Int) ≤ (0 : Int) ∧
                                  (0 : Int) ≤ (↑(List.length (Prod.snd r)) : Int) ∧
                                    (-200000000000 : Int) ≤
                                        m +
                                          (List.getD i (Int.toNat d) (0 : Int) +
                                              List.getD l (Int.toNat d) (0 : Int) * List.getD p (Int.toNat d) (0 : Int) -
                                            List.getD (Prod.fst (Prod.snd (Prod.snd f))) (Int.toNat d) (0 : Int)) ∧
                                      m +
                                          (List.getD i (Int.toNat d) (0 : Int) +
                                              List.getD l (Int.toNat d) (0 : Int) * List.getD p (Int.toNat d) (0 : Int) -
                                            List.getD (Prod.fst (Prod.snd (Prod.snd f))) (Int.toNat d) (0 : Int)) ≤
                                        (2000000000000 : Int)) ∧
                          Go.Lom.req
                            (Decidable.decide
                              ((0 : Nat) + List.length (Go.Lom.seg (0 : Nat) (List.length out) out) ≤
                                List.length (Go.Lom.seg (0 : Nat) (List.length out) out)))
                            (Go.Lom.req
                              (Go.Lom.fitsN
                                (List.length (Go.Lom.seg (0 : Nat) (List.length out) out) +
                                  List.length
                                    (Go.Lom.seg (0 : Nat) (1 : Nat)
                                      [m +
                                            (List.getD i (Int.toNat d) (0 : Int) +
                                                List.getD l (Int.toNat d) (0 : Int) * List.getD p (Int.toNat d) (0 : Int) -
                                              List.getD (Prod.fst (Prod.snd (Prod.snd f))) (Int.toNat d) (0 : Int)) -
                                          Go.P9.takeI (Prod.snd r) d (0 : Int)]))
                                (8 : Nat))
                              (Go.Lom.req (Go.Lom.inR Go.IntKind.i64 (d + (1 : Int)))
                                (Go.Lom.req
                                  (Decidable.decide
                                    ((0 : Nat) +
                                        (List.length (Go.Lom.seg (0 : Nat) (List.length out) out) +
                                          List.length
                                            (Go.Lom.seg (0 : Nat) (1 : Nat)
                                              [m +
                                                    (List.getD i (Int.toNat d) (0 : Int) +
                                                        List.getD l (Int.toNat d) (0 : Int) *
                                                          List.getD p (Int.toNat d) (0 : Int) -
                                                      List.getD (Prod.fst (Prod.snd (Prod.snd f))) (Int.toNat d)
                                                        (0 : Int)) -
                                                  Go.P9.takeI (Prod.snd r) d (0 : Int)])) ≤
                                      List.length
                                        (Go.Lom.seg (0 : Nat) (List.length (Go.Lom.seg (0 : Nat) (List.length out) out))
                                            (Go.Lom.seg (0 : Nat) (List.length out) out) ++
                                          Go.Lom.seg (0 : Nat) (1 : Nat)
                                            [m +
                                                  (List.getD i (Int.toNat d) (0 : Int) +
                                                      List.getD l (Int.toNat d) (0 : Int) *
                                                        List.getD p (Int.toNat d) (0 : Int) -
                                                    List.getD (Prod.fst (Prod.snd (Prod.snd f))) (Int.toNat d) (0 : Int)) -
                                                Go.P9.takeI (Prod.snd r) d (0 : Int)])))
                                  (Go.P9.mL (Go.P9.fIn f) (d + (1 : Int)) < Go.P9.mL (Go.P9.fIn f) d ∧
                                    Go.Lom.LC2.spec Go.P9.lc15a
                                      (l, i, p, f, r,
                                        m +
                                            (List.getD i (Int.toNat d) (0 : Int) +
                                                List.getD l (Int.toNat d) (0 : Int) * List.getD p (Int.toNat d) (0 : Int) -
                                              List.getD (Prod.fst (Prod.snd (Prod.snd f))) (Int.toNat d) (0 : Int)) -
                                          Go.P9.takeI (Prod.snd r) d (0 : Int),
                                        Go.Lom.seg (0 : Nat)
                                          (List.length (Go.Lom.seg (0 : Nat) (List.length out) out) +
                                            List.length
                                              (Go.Lom.seg (0 : Nat) (1 : Nat)
                                                [m +
                                                      (List.getD i (Int.toNat d) (0 : Int) +
                                                          List.getD l (Int.toNat d) (0 : Int) *
                                                            List.getD p (Int.toNat d) (0 : Int) -
                                                        List.getD (Prod.fst (Prod.snd (Prod.snd f))) (Int.toNat d)
                                                          (0 : Int)) -
                                                    Go.P9.takeI (Prod.snd r) d (0 : Int)]))
                                          (Go.Lom.seg (0 : Nat) (List.length (Go.Lom.seg (0 : Nat) (List.length out) out))
                                              (Go.Lom.seg (0 : Nat) (List.length out) out) ++
                                            Go.Lom.seg (0 : Nat) (1 : Nat)
                                              [m +
                                                    (List.getD i (Int.toNat d) (0 : Int) +
                                                        List.getD l (Int.toNat d) (0 : Int) *
                                                          List.getD p (Int.toNat d) (0 : Int) -
                                                      List.getD (Prod.fst (Prod.snd (Prod.snd f))) (Int.toNat d)
                                                        (0 : Int)) -
                                                  Go.P9.takeI (Prod.snd r) d (0 : Int)]),
                                        d + (1 : Int), ())
                                      Q))))))))))))))
      (Go.Lom.req (Decidable.decide ((0 : Nat) + List.length out ≤ List.length out))
        (Q (Go.Lom.AX.exit (0 : Nat)) (Go.Lom.stS (1 : Nat) Go.P9.shO (Go.Lom.seg (0 : Nat) (List.length out) out, ()))))) := by kernel_rfl
theorem v15F (f : Fd) (l : List Int) (r : Rn) (i p : List Int) (K : dens [L, E] → Prop) : (xfn1 Try.prog { f := [(36, fcCheck), (51, fcPlan), (52, fc48), (53, fcFlow)], l2 := [(15, 0, lc15a)] } 5 15 fcFollow (f, l, r, i, p, ()) K) =
  (Go.P9.bigF f ∧
      Go.Lom.fork (Go.P9.chkE f != (0 : Int)) (K ([], Go.P9.chkE f, ()))
        ((Go.P9.okF f = Bool.true ∧ List.length l ≤ (9223372036854775807 : Nat)) ∧
          Go.Lom.fork (!Go.P9.planB f l) (K ([], (93 : Int), ()))
            ((Go.P9.okF f = Bool.true ∧ Go.P9.bigR r) ∧
              Go.Lom.fork (!Go.P9.allowB f r) (K ([], (92 : Int), ()))
                ((List.length i ≤ (9223372036854775807 : Nat) ∧
                    List.length (Prod.fst (Prod.snd f)) ≤ (9223372036854775807 : Nat)) ∧
                  Go.Lom.fork (!Go.P9.flowB i (Prod.fst (Prod.snd f))) (K ([], (94 : Int), ()))
                    ((List.length p ≤ (9223372036854775807 : Nat) ∧
                        List.length (Prod.fst (Prod.snd (Prod.snd (Prod.snd (Prod.snd f))))) ≤
                          (9223372036854775807 : Nat)) ∧
                      Go.Lom.fork (!Go.P9.flowB p (Prod.fst (Prod.snd (Prod.snd (Prod.snd (Prod.snd f))))))
                        (K ([], (94 : Int), ()))
                        (Go.P9.okC f (l, r, i, p) [] (Prod.fst f) (0 : Int) ∧
                          Go.Lom.req
                            (Decidable.decide
                              ((0 : Nat) +
                                  List.length
                                    ([] ++
                                      Go.P9.folK f (l, r, i, p) (List.length (Go.P9.fIn f) - (0 : Nat)) (0 : Int)
                                        (Prod.fst f)) ≤
                                List.length
                                  ([] ++
                                    Go.P9.folK f (l, r, i, p) (List.length (Go.P9.fIn f) - (0 : Nat)) (0 : Int)
                                      (Prod.fst f))))
                            (K
                              (Go.Lom.seg (0 : Nat)
                                  (List.length
                                    ([] ++
                                      Go.P9.folK f (l, r, i, p) (List.length (Go.P9.fIn f) - (0 : Nat)) (0 : Int)
                                        (Prod.fst f)))
                                  ([] ++
                                    Go.P9.folK f (l, r, i, p) (List.length (Go.P9.fIn f) - (0 : Nat)) (0 : Int)
                                      (Prod.fst f)),
                                (0 : Int), ())))))))) := by kernel_rfl
/-! the law -/
abbrev fc3 : FC := ⟨[.v TF, .v TC], [.b], fun x K => (bigF x.1 ∧ bigC x.2.1) ∧ K (true, ())⟩
theorem v3F (f : Fd) (l : List Int) (r : Rn) (i p : List Int) (K : dens [.b] → Prop) : (xfn1 Try.prog { f := [(14, fcFollow), (15, fcFollow), (16, fcSame), (17, fcSound), (18, fcSound), (19, fcWorks)] } 5 3 fc3 (f, (l, r, i, p), ()) K) =
  ((Go.P9.bigF f ∧ Go.P9.bigC (l, r, i, p)) ∧
      (Go.P9.bigF f ∧ Go.P9.bigC (l, r, i, p)) ∧
        List.length (Go.P9.folR f (l, r, i, p)) ≤ (9223372036854775807 : Nat) ∧
          Go.Lom.fork (!Decidable.decide (Go.P9.folR f (l, r, i, p) = Go.P9.folR f (l, r, i, p))) (K (Bool.false, ()))
            (Go.Lom.fork (Go.P9.folE f (l, r, i, p) != Go.P9.folE f (l, r, i, p)) (K (Bool.false, ()))
              ((Go.P9.bigF f ∧ List.length l ≤ (9223372036854775807 : Nat)) ∧
                (Go.P9.bigF f ∧ List.length l ≤ (9223372036854775807 : Nat)) ∧
                  Go.Lom.fork
                    ((Go.P9.okF f && (Go.P9.planB f l && Go.P9.soundB f l)) ==
                      (Go.P9.okF f && (Go.P9.planB f l && Go.P9.soundB f l)))
                    (Go.Lom.fork (Go.P9.soundE f l == Go.P9.soundE f l) (K (Bool.true, ())) (K (Bool.false, ())))
                    (K (Bool.false, ()))))) := by kernel_rfl
end Go.P9
