/- Funds: needs: states and what is to be shown, reduced. No conditions. -/
import Derived.Test.YtklleedcdjkpeaaWorstS
set_option linter.unusedSimpArgs false
set_option linter.unusedVariables false
set_option linter.constructorNameAsVariable false
set_option maxRecDepth 100000
set_option maxHeartbeats 2000000
namespace Go.P9
open Go.Lom Go.Proofs Go

def dueI (f : Fd) (i due : Int) : Int := due + ((fBonds f).getD i.toNat 0 - ((fIn f).getD i.toNat (0, 0)).1)
def needsK (f : Fd) : Nat → Int → Int → List Int
  | 0, _, _ => []
  | k + 1, i, due => (dueI f i due + (worstW f i).2) :: needsK f k (i + 1) (dueI f i due)
def needsL (f : Fd) : List Int := needsK f (fIn f).length 0 (-(fCash f))
def okN (f : Fd) (out : List Int) (due i : Int) : Prop := okF f = true ∧ 0 ≤ i ∧ i ≤ (fIn f).length ∧ out.length ≤ i ∧ -1099511627776 - 1073741824 * i ≤ due ∧ due ≤ 1073741824 * i
abbrev shN : SV := S [(3, .own 0 I)]
abbrev sh54 : SV := S [(1, bF), (3, .own 1 I), (4, .v I), (13, .v I), (14, .v I)]
def s54 (f : Fd) (out : List Int) (due n i : Int) (Q : LQ) : Prop := (okN f out due i ∧ n = (fIn f).length) ∧ Q (.exit 0) (stS 1 shN (out ++ needsK f ((fIn f).length - i.toNat) i due, ()))
abbrev lc54 : LC2 := ⟨0, sh54, 2, fun (f, out, due, n, i, _) Q => s54 f out due n i Q⟩
theorem v54L (f : Fd) (out : List Int) (due n i : Int) (Q : AX → St → Prop) : (xloop2 Try.prog { f := [(72, fcWorst)] } 5 54 0 lc54 (fun _ => some (shN, 1)) (fun (f, _, _, _, i, _) => mL (fIn f) i) (f, out, due, n, i, ()) Q) =
  (Go.Lom.fork (Decidable.decide (i < n))
      (Go.Lom.req (Decidable.decide ((0 : Int) ≤ i ∧ i < (↑(List.length (Prod.fst (Prod.snd (Prod.snd f)))) : Int)))
        (Go.Lom.req (Decidable.decide ((0 : Int) ≤ i ∧ i < (↑(List.length (Prod.fst (Prod.snd f))) : Int)))
          (Go.Lom.req
            (Go.Lom.inR Go.IntKind.i64
              (List.getD (Prod.fst (Prod.snd (Prod.snd f))) (Int.toNat i) (0 : Int) -
                Prod.fst (List.getD (Prod.fst (Prod.snd f)) (Int.toNat i) ((0 : Int), (0 : Int)))))
            (Go.Lom.req
              (Go.Lom.inR Go.IntKind.i64
                (due +
                  (List.getD (Prod.fst (Prod.snd (Prod.snd f))) (Int.toNat i) (0 : Int) -
                    Prod.fst (List.getD (Prod.fst (Prod.snd f)) (Int.toNat i) ((0 : Int), (0 : Int))))))
              ((Go.P9.okF f = Bool.true ∧
                  (0 : Go.Lom.AT.den (Go.Lom.AT.v Go.P9.I)) ≤ i ∧ i ≤ (12 : Go.Lom.AT.den (Go.Lom.AT.v Go.P9.I))) ∧
                Go.Lom.req
                  (Go.Lom.inR Go.IntKind.i64
                    (due +
                        (List.getD (Prod.fst (Prod.snd (Prod.snd f))) (Int.toNat i) (0 : Int) -
                          Prod.fst (List.getD (Prod.fst (Prod.snd f)) (Int.toNat i) ((0 : Int), (0 : Int)))) +
                      Prod.snd (Go.P9.worstW f i)))
                  (Go.Lom.req (Decidable.decide ((0 : Nat) + List.length out ≤ List.length out))
                    (Go.Lom.req
                      (Go.Lom.fitsN
                        (List.length out +
                          List.length
                            (Go.Lom.seg (0 : Nat) (1 : Nat)
                              [due +
                                    (List.getD (Prod.fst (Prod.snd (Prod.snd f))) (Int.toNat i) (0 : Int) -
                                      Prod.fst (List.getD (Prod.fst (Prod.snd f)) (Int.toNat i) ((0 : Int), (0 : Int)))) +
                                  Prod.snd (Go.P9.worstW f i)]))
                        (8 : Nat))
                      (Go.Lom.req (Go.Lom.inR Go.IntKind.i64 (i + (1 : Int)))
                        (Go.Lom.req
                          (Decidable.decide
                            ((0 : Nat) +
                                (List.length out +
                                  List.length
                                    (Go.Lom.seg (0 : Nat) (1 : Nat)
                                      [due +
                                            (List.getD (Prod.fst (Prod.snd (Prod.snd f))) (Int.toNat i) (0 : Int) -
                                              Prod.fst
                                                (List.getD (Prod.fst (Prod.snd f)) (Int.toNat i) ((0 : Int), (0 : Int)))) +
                                          Prod.snd (Go.P9.worstW f i)])) ≤
                              List.length
                                (Go.Lom.seg (0 : Nat) (List.length out) out ++
                                  Go.Lom.seg (0 : Nat) (1 : Nat)
                                    [due +
                                          (List.getD (Prod.fst (Prod.snd (Prod.snd f))) (Int.toNat i) (0 : Int) -
                                            Prod.fst
                                              (List.getD (Prod.fst (Prod.snd f)) (Int.toNat i) ((0 : Int), (0 : Int)))) +
                                        Prod.snd (Go.P9.worstW f i)])))
                          (Go.P9.mL (Go.P9.fIn f) (i + (1 : Int)) < Go.P9.mL (Go.P9.fIn f) i ∧
                            Go.Lom.LC2.spec Go.P9.lc54
                              (f,
                                Go.Lom.seg (0 : Nat)
                                  (List.length out +
                                    List.length
                                      (Go.Lom.seg (0 : Nat) (1 : Nat)
                                        [due +
                                              (List.getD (Prod.fst (Prod.snd (Prod.snd f))) (Int.toNat i) (0 : Int) -
                                                Prod.fst
                                                  (List.getD (Prod.fst (Prod.snd f)) (Int.toNat i)
                                                    ((0 : Int), (0 : Int)))) +
                                            Prod.snd (Go.P9.worstW f i)]))
                                  (Go.Lom.seg (0 : Nat) (List.length out) out ++
                                    Go.Lom.seg (0 : Nat) (1 : Nat)
                                      [due +
                                            (List.getD (Prod.fst (Prod.snd (Prod.snd f))) (Int.toNat i) (0 : Int) -
                                              Prod.fst
                                                (List.getD (Prod.fst (Prod.snd f)) (Int.toNat i) ((0 : Int), (0 : Int)))) +
                                          Prod.snd (Go.P9.worstW f i)]),
                                due +
                                  (List.getD (Prod.fst (Prod.snd (Prod.snd f))) (Int.toNat i) (0 : Int) -
                                    Prod.fst (List.getD (Prod.fst (Prod.snd f)) (Int.toNat i) ((0 : Int), (0 : Int)))),
                                n, i + (1 : Int), ())
                              Q))))))))))
      (Go.Lom.req (Decidable.decide ((0 : Nat) + List.length out ≤ List.length out))
        (Q (Go.Lom.AX.exit (0 : Nat)) (Go.Lom.stS (1 : Nat) Go.P9.shN (Go.Lom.seg (0 : Nat) (List.length out) out, ()))))) := by kernel_rfl
abbrev fcN0 : FC := ⟨[.v TF], [L], fun x K => (okF x.1 = true) ∧ K (needsL x.1, ())⟩
theorem v54F (f : Fd) (K : dens [L] → Prop) : (xfn1 Try.prog { l2 := [(54, 0, lc54)] } 5 54 fcN0 (f, ()) K) =
  (Go.Lom.req (Go.Lom.inR Go.IntKind.i64 (-Prod.fst f))
      ((Go.P9.okN f [] (-Prod.fst f) (0 : Int) ∧
          (↑(List.length (Prod.fst (Prod.snd f))) : Int) = (↑(List.length (Go.P9.fIn f)) : Int)) ∧
        Go.Lom.req
          (Decidable.decide
            ((0 : Nat) +
                List.length ([] ++ Go.P9.needsK f (List.length (Go.P9.fIn f) - (0 : Nat)) (0 : Int) (-Prod.fst f)) ≤
              List.length ([] ++ Go.P9.needsK f (List.length (Go.P9.fIn f) - (0 : Nat)) (0 : Int) (-Prod.fst f))))
          (K
            (Go.Lom.seg (0 : Nat)
                (List.length ([] ++ Go.P9.needsK f (List.length (Go.P9.fIn f) - (0 : Nat)) (0 : Int) (-Prod.fst f)))
                ([] ++ Go.P9.needsK f (List.length (Go.P9.fIn f) - (0 : Nat)) (0 : Int) (-Prod.fst f)),
              ())))) := by kernel_rfl
abbrev sh57 : SV := S [(1, bF), (3, .own 1 I), (4, .v I), (5, .v I)]
def s57 (f : Fd) (out : List Int) (due i : Int) (Q : LQ) : Prop := okN f out due i ∧ Q (.exit 0) (stS 1 shN (out ++ needsK f ((fIn f).length - i.toNat) i due, ()))
abbrev lc57 : LC2 := ⟨0, sh57, 2, fun (f, out, due, i, _) Q => s57 f out due i Q⟩
theorem v57L (f : Fd) (out : List Int) (due i : Int) (Q : AX → St → Prop) : (xloop2 Try.prog { f := [(73, fcWorst)] } 5 57 0 lc57 (fun _ => some (shN, 1)) (fun (f, _, _, i, _) => mL (fIn f) i) (f, out, due, i, ()) Q) =
  (Go.Lom.fork (Decidable.decide (i < (↑(List.length (Prod.fst (Prod.snd f))) : Int)))
      (Go.Lom.req (Decidable.decide ((0 : Int) ≤ i ∧ i < (↑(List.length (Prod.fst (Prod.snd (Prod.snd f)))) : Int)))
        (Go.Lom.req (Decidable.decide ((0 : Int) ≤ i ∧ i < (↑(List.length (Prod.fst (Prod.snd f))) : Int)))
          (Go.Lom.req
            (Go.Lom.inR Go.IntKind.i64
              (List.getD (Prod.fst (Prod.snd (Prod.snd f))) (Int.toNat i) (0 : Int) -
                Prod.fst (List.getD (Prod.fst (Prod.snd f)) (Int.toNat i) ((0 : Int), (0 : Int)))))
            (Go.Lom.req
              (Go.Lom.inR Go.IntKind.i64
                (due +
                  (List.getD (Prod.fst (Prod.snd (Prod.snd f))) (Int.toNat i) (0 : Int) -
                    Prod.fst (List.getD (Prod.fst (Prod.snd f)) (Int.toNat i) ((0 : Int), (0 : Int))))))
              ((Go.P9.okF f = Bool.true ∧
                  (0 : Go.Lom.AT.den (Go.Lom.AT.v Go.P9.I)) ≤ i ∧ i ≤ (12 : Go.Lom.AT.den (Go.Lom.AT.v Go.P9.I))) ∧
                Go.Lom.req
                  (Go.Lom.inR Go.IntKind.i64
                    (due +
                        (List.getD (Prod.fst (Prod.snd (Prod.snd f))) (Int.toNat i) (0 : Int) -
                          Prod.fst (List.getD (Prod.fst (Prod.snd f)) (Int.toNat i) ((0 : Int), (0 : Int)))) +
                      Prod.snd (Go.P9.worstW f i)))
                  (Go.Lom.req (Decidable.decide ((0 : Nat) + List.length out ≤ List.length out))
                    (Go.Lom.req
                      (Go.Lom.fitsN
                        (List.length out +
                          List.length
                            (Go.Lom.seg (0 : Nat) (1 : Nat)
                              [due +
                                    (List.getD (Prod.fst (Prod.snd (Prod.snd f))) (Int.toNat i) (0 : Int) -
                                      Prod.fst (List.getD (Prod.fst (Prod.snd f)) (Int.toNat i) ((0 : Int), (0 : Int)))) +
                                  Prod.snd (Go.P9.worstW f i)]))
                        (8 : Nat))
                      (Go.Lom.req (Go.Lom.inR Go.IntKind.i64 (i + (1 : Int)))
                        (Go.Lom.req
                          (Decidable.decide
                            ((0 : Nat) +
                                (List.length out +
                                  List.length
                                    (Go.Lom.seg (0 : Nat) (1 : Nat)
                                      [due +
                                            (List.getD (Prod.fst (Prod.snd (Prod.snd f))) (Int.toNat i) (0 : Int) -
                                              Prod.fst
                                                (List.getD (Prod.fst (Prod.snd f)) (Int.toNat i) ((0 : Int), (0 : Int)))) +
                                          Prod.snd (Go.P9.worstW f i)])) ≤
                              List.length
                                (Go.Lom.seg (0 : Nat) (List.length out) out ++
                                  Go.Lom.seg (0 : Nat) (1 : Nat)
                                    [due +
                                          (List.getD (Prod.fst (Prod.snd (Prod.snd f))) (Int.toNat i) (0 : Int) -
                                            Prod.fst
                                              (List.getD (Prod.fst (Prod.snd f)) (Int.toNat i) ((0 : Int), (0 : Int)))) +
                                        Prod.snd (Go.P9.worstW f i)])))
                          (Go.P9.mL (Go.P9.fIn f) (i + (1 : Int)) < Go.P9.mL (Go.P9.fIn f) i ∧
                            Go.Lom.LC2.spec Go.P9.lc57
                              (f,
                                Go.Lom.seg (0 : Nat)
                                  (List.length out +
                                    List.length
                                      (Go.Lom.seg (0 : Nat) (1 : Nat)
                                        [due +
                                              (List.getD (Prod.fst (Prod.snd (Prod.snd f))) (Int.toNat i) (0 : Int) -
                                                Prod.fst
                                                  (List.getD (Prod.fst (Prod.snd f)) (Int.toNat i)
                                                    ((0 : Int), (0 : Int)))) +
                                            Prod.snd (Go.P9.worstW f i)]))
                                  (Go.Lom.seg (0 : Nat) (List.length out) out ++
                                    Go.Lom.seg (0 : Nat) (1 : Nat)
                                      [due +
                                            (List.getD (Prod.fst (Prod.snd (Prod.snd f))) (Int.toNat i) (0 : Int) -
                                              Prod.fst
                                                (List.getD (Prod.fst (Prod.snd f)) (Int.toNat i) ((0 : Int), (0 : Int)))) +
                                          Prod.snd (Go.P9.worstW f i)]),
                                due +
                                  (List.getD (Prod.fst (Prod.snd (Prod.snd f))) (Int.toNat i) (0 : Int) -
                                    Prod.fst (List.getD (Prod.fst (Prod.snd f)) (Int.toNat i) ((0 : Int), (0 : Int)))),
                                i + (1 : Int), ())
                              Q))))))))))
      (Go.Lom.req (Decidable.decide ((0 : Nat) + List.length out ≤ List.length out))
        (Q (Go.Lom.AX.exit (0 : Nat)) (Go.Lom.stS (1 : Nat) Go.P9.shN (Go.Lom.seg (0 : Nat) (List.length out) out, ()))))) := by kernel_rfl
theorem v57F (f : Fd) (K : dens [L] → Prop) : (xfn1 Try.prog { l2 := [(57, 0, lc57)] } 5 57 fcN0 (f, ()) K) =
  (Go.Lom.req (Go.Lom.inR Go.IntKind.i64 (-Prod.fst f))
      (Go.P9.okN f [] (-Prod.fst f) (0 : Int) ∧
        Go.Lom.req
          (Decidable.decide
            ((0 : Nat) +
                List.length ([] ++ Go.P9.needsK f (List.length (Go.P9.fIn f) - (0 : Nat)) (0 : Int) (-Prod.fst f)) ≤
              List.length ([] ++ Go.P9.needsK f (List.length (Go.P9.fIn f) - (0 : Nat)) (0 : Int) (-Prod.fst f))))
          (K
            (Go.Lom.seg (0 : Nat)
                (List.length ([] ++ Go.P9.needsK f (List.length (Go.P9.fIn f) - (0 : Nat)) (0 : Int) (-Prod.fst f)))
                ([] ++ Go.P9.needsK f (List.length (Go.P9.fIn f) - (0 : Nat)) (0 : Int) (-Prod.fst f)),
              ())))) := by kernel_rfl
def needsR (f : Fd) : List Int := if okF f = true then needsL f else []
abbrev fcNeeds : FC := ⟨[.v TF], [L, E], fun x K => (bigF x.1) ∧ K (needsR x.1, chkE x.1, ())⟩
theorem v39F (f : Fd) (K : dens [L, E] → Prop) : (xfn1 Try.prog { f := [(29, fcCheck), (54, fcN0)] } 5 39 fcNeeds (f, ()) K) =
  (Go.P9.bigF f ∧
      Go.Lom.fork (Go.P9.chkE f != (0 : Int)) (K ([], Go.P9.chkE f, ()))
        (Go.P9.okF f = Bool.true ∧ K (Go.P9.needsL f, (0 : Int), ()))) := by kernel_rfl
theorem v40F (f : Fd) (K : dens [L, E] → Prop) : (xfn1 Try.prog { f := [(36, fcCheck), (57, fcN0)] } 5 40 fcNeeds (f, ()) K) =
  (Go.P9.bigF f ∧
      Go.Lom.fork (Go.P9.chkE f != (0 : Int)) (K ([], Go.P9.chkE f, ()))
        (Go.P9.okF f = Bool.true ∧ K (Go.P9.needsL f, (0 : Int), ()))) := by kernel_rfl
def dayIn (f : Fd) (day : Int) : Prop := 0 ≤ day ∧ day ≤ ((fIn f).length : Int) - 1
instance (f : Fd) (day : Int) : Decidable (dayIn f day) := inferInstanceAs (Decidable (_ ∧ _))
def worstE (f : Fd) (day : Int) : List Int × Int × Int := if okF f = true then (if dayIn f day then ((worstW f day).1, (worstW f day).2, 0) else ([], 0, 7)) else ([], 0, 90)
abbrev fcWorstE : FC := ⟨[.v TF, .v I], [L, I, E], fun x K => (bigF x.1) ∧ K ((worstE x.1 x.2.1).1, (worstE x.1 x.2.1).2.1, (worstE x.1 x.2.1).2.2, ())⟩
theorem v41F (f : Fd) (day : Int) (K : dens [L, I, E] → Prop) : (xfn1 Try.prog { f := [(29, fcCheck), (71, fcWith), (72, fcWorst), (67, fcClone)] } 5 41 fcWorstE (f, day, ()) K) =
  (Go.P9.bigF f ∧
      Go.Lom.fork (Go.P9.chkE f != (0 : Int)) (K ([], (0 : Int), Go.P9.chkE f, ()))
        (Go.Lom.req (Go.Lom.inR Go.IntKind.i64 ((↑(List.length (Prod.fst (Prod.snd f))) : Int) - (1 : Int)))
          (Go.Lom.fork
            (!Decidable.decide ((0 : Int) ≤ day ∧ day ≤ (↑(List.length (Prod.fst (Prod.snd f))) : Int) - (1 : Int)))
            (K ([], (0 : Int), (7 : Int), ()))
            ((Go.P9.okF f = Bool.true ∧
                (0 : Go.Lom.AT.den (Go.Lom.AT.v Go.P9.I)) ≤ day ∧ day ≤ (12 : Go.Lom.AT.den (Go.Lom.AT.v Go.P9.I))) ∧
              List.length (Prod.fst (Go.P9.worstW f day)) ≤ (1000000 : Nat) ∧
                K (Prod.fst (Go.P9.worstW f day), Prod.snd (Go.P9.worstW f day), (0 : Int), ()))))) := by kernel_rfl
theorem v42F (f : Fd) (day : Int) (K : dens [L, I, E] → Prop) : (xfn1 Try.prog { f := [(36, fcCheck), (30, fcFrom), (73, fcWorst)] } 5 42 fcWorstE (f, day, ()) K) =
  (Go.P9.bigF f ∧
      Go.Lom.fork (Go.P9.chkE f != (0 : Int)) (K ([], (0 : Int), Go.P9.chkE f, ()))
        (Go.Lom.req (Go.Lom.inR Go.IntKind.i64 ((↑(List.length (Prod.fst (Prod.snd f))) : Int) - (1 : Int)))
          (Go.Lom.fork
            (!Decidable.decide ((0 : Int) ≤ day ∧ day ≤ (↑(List.length (Prod.fst (Prod.snd f))) : Int) - (1 : Int)))
            (K ([], (0 : Int), (7 : Int), ()))
            ((Go.P9.okF f = Bool.true ∧
                (0 : Go.Lom.AT.den (Go.Lom.AT.v Go.P9.I)) ≤ day ∧ day ≤ (12 : Go.Lom.AT.den (Go.Lom.AT.v Go.P9.I))) ∧
              K (Prod.fst (Go.P9.worstW f day), Prod.snd (Go.P9.worstW f day), (0 : Int), ()))))) := by kernel_rfl
end Go.P9
