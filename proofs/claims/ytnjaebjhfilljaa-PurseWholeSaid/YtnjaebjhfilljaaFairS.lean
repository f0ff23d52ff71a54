/- Share of both sides, and the law of the cents: states and what is to be shown, reduced. No conditions. -/
import Derived.Test.YtnjaebjhfilljaaShareS2
set_option linter.unusedSimpArgs false
set_option linter.constructorNameAsVariable false
set_option maxRecDepth 100000
set_option linter.unusedVariables false
namespace Go.P7
open Go.Lom Go.Proofs Go

def shareR (w : List Int) (s : Int) : List Int × Int := if validW w = true then (if 0 ≤ s ∧ s ≤ 34359738368 then (shareL w s, 0) else ([], 7)) else ([], 70)
def sSh (w : List Int) (s : Int) (K : List Int → Int → Prop) : Prop := w.length ≤ big ∧ ∀ r e, shareR w s = (r, e) → K r e
abbrev fcSh : FC := ⟨[.v L, .v I], [L, E], fun x K => sSh x.1 x.2.1 fun r e => K (r, e, ())⟩
theorem v14F (w : List Int) (s : Int) (K : dens [L, E] → Prop) : (xfn Try.prog [(47, fc47), (49, fcShare)] [] 5 14 fcSh (w, s, ()) K) =
  (List.length w ≤ (9223372036854775807 : Nat) ∧
      Go.Lom.fork (!Go.P7.validW w) (K ([], (70 : Int), ()))
        (Go.Lom.fork (Decidable.decide (s ≥ (0 : Int)))
          (Go.Lom.fork (!Decidable.decide (s ≤ (34359738368 : Int))) (K ([], (7 : Int), ()))
            ((Go.P7.preW w ∧ (0 : Int) ≤ s ∧ s ≤ (34359738368 : Int)) ∧
              ∀ (r : List Int), r = Go.P7.shareL w s → K (r, (0 : Int), ())))
          (K ([], (7 : Int), ())))) := by kernel_rfl
theorem v15F (w : List Int) (s : Int) (K : dens [L, E] → Prop) : (xfn Try.prog [(50, fc47), (51, fcShare)] [] 5 15 fcSh (w, s, ()) K) =
  (List.length w ≤ (9223372036854775807 : Nat) ∧
      Go.Lom.fork (!Go.P7.validW w) (K ([], (70 : Int), ()))
        (Go.Lom.fork (Decidable.decide ((0 : Int) ≤ s))
          (Go.Lom.fork (!Decidable.decide (s ≤ (34359738368 : Int))) (K ([], (7 : Int), ()))
            ((Go.P7.preW w ∧ (0 : Int) ≤ s ∧ s ≤ (34359738368 : Int)) ∧
              ∀ (r : List Int), r = Go.P7.shareL w s → K (r, (0 : Int), ())))
          (K ([], (7 : Int), ())))) := by kernel_rfl
abbrev fcWorks : FC := ⟨[], [.b], fun _ K => K (true, ())⟩

def sFrom (a n b : Int) (K : Bool → Prop) : Prop := K (decide (a ≤ n ∧ n ≤ b))
abbrev fcFrom : FC := ⟨[.v I, .v I, .v I], [.b], fun x K => sFrom x.1 x.2.1 x.2.2.1 fun r => K (r, ())⟩
theorem v24F (a n b : Int) (K : dens [.b] → Prop) : (xfn Try.prog [] [] 5 24 fcFrom (a, n, b, ()) K) =
  (Go.Lom.fork (Decidable.decide (a ≤ n)) (K (Decidable.decide (n ≤ b), ())) (K (Bool.false, ()))) := by kernel_rfl
def sDown (a b : Int) (K : Int → Prop) : Prop := (0 ≤ a ∧ a ≤ 9223372036854775806 ∧ 0 < b) ∧ K (a.tdiv b)
abbrev fcDown : FC := ⟨[.v I, .v I], [I], fun x K => sDown x.1 x.2.1 fun r => K (r, ())⟩
theorem v25F (a b : Int) (K : dens [I] → Prop) : (xfn Try.prog [] [] 5 25 fcDown (a, b, ()) K) =
  (Go.Lom.req (Decidable.decide (b ≠ (0 : Int)))
      (Go.Lom.req (Go.Lom.inR Go.IntKind.i64 (Int.tdiv a b))
        (Go.Lom.req (Go.Lom.inR Go.IntKind.i64 (Int.tdiv a b * b))
          (Go.Lom.fork (Decidable.decide (Int.tdiv a b * b > a))
            (Go.Lom.req (Go.Lom.inR Go.IntKind.i64 (Int.tdiv a b - (1 : Int))) (K (Int.tdiv a b - (1 : Int), ())))
            (K (Int.tdiv a b, ())))))) := by kernel_rfl
abbrev shR : Shape := [(4, .v .b)]
abbrev sh5a : Shape := [(0, .v L), (1, .v I), (5, .v L), (7, .v I), (8, .v I)]
def ex5a : AX → Option Shape
  | .ret => some shR
  | _ => some []
abbrev sh5b : Shape := [(0, .v L), (1, .v I), (5, .v L), (7, .v I), (8, .v I), (9, .v I)]
def ex5b : AX → Option Shape
  | .ret => some shR
  | _ => some sh5a
def p5 (w : List Int) (s : Int) (l : List Int) (all : Int) : Prop := validW w = true ∧ 0 ≤ s ∧ s ≤ 34359738368 ∧ l = shareL w s ∧ all = w.sum
def s5a (w : List Int) (s : Int) (l : List Int) (all i : Int) (Q : LQ) : Prop := (p5 w s l all ∧ 0 ≤ i ∧ i ≤ w.length) ∧ Q (.exit 0) (shSt [] ())
abbrev lc5a : LC := ⟨sh5a, fun x Q => s5a x.1 x.2.1 x.2.2.1 x.2.2.2.1 x.2.2.2.2.1 Q⟩
def s5b (w : List Int) (s : Int) (l : List Int) (all i k : Int) (Q : LQ) : Prop := (p5 w s l all ∧ 0 ≤ i ∧ i < w.length ∧ 0 ≤ k ∧ k ≤ w.length) ∧ Q (.exit 2) (shSt sh5a (w, s, l, all, i, ()))
abbrev lc5b : LC := ⟨sh5b, fun x Q => s5b x.1 x.2.1 x.2.2.1 x.2.2.2.1 x.2.2.2.2.1 x.2.2.2.2.2.1 Q⟩
theorem v5b (w : List Int) (s : Int) (l : List Int) (all i k : Int) (Q : AX → St → Prop) : (xloop Try.prog [] [] 5 5 1 lc5b ex5b (fun x => mLen x.1 x.2.2.2.2.2.1) (w, s, l, all, i, k, ()) Q) =
  (Go.Lom.fork (Decidable.decide (k < (↑(List.length w) : Int)))
      (Go.Lom.req (Decidable.decide ((0 : Int) ≤ i ∧ i < (↑(List.length w) : Int)))
        (Go.Lom.req (Decidable.decide ((0 : Int) ≤ k ∧ k < (↑(List.length l) : Int)))
          (Go.Lom.req (Go.Lom.inR Go.IntKind.i64 (List.getD l (Int.toNat k) (0 : Int) + (1 : Int)))
            (Go.Lom.req
              (Go.Lom.inR Go.IntKind.i64
                (List.getD w (Int.toNat i) (0 : Int) * (List.getD l (Int.toNat k) (0 : Int) + (1 : Int))))
              (Go.Lom.req (Decidable.decide ((0 : Int) ≤ k ∧ k < (↑(List.length w) : Int)))
                (Go.Lom.req (Decidable.decide ((0 : Int) ≤ i ∧ i < (↑(List.length l) : Int)))
                  (Go.Lom.req
                    (Go.Lom.inR Go.IntKind.i64 (List.getD w (Int.toNat k) (0 : Int) * List.getD l (Int.toNat i) (0 : Int)))
                    (Go.Lom.fork (i != k)
                      (Go.Lom.req (Decidable.decide ((0 : Int) ≤ i ∧ i < (↑(List.length l) : Int)))
                        (Go.Lom.fork (Decidable.decide (List.getD l (Int.toNat i) (0 : Int) > (0 : Int)))
                          (Go.Lom.fork
                            (Decidable.decide
                              (List.getD w (Int.toNat i) (0 : Int) * (List.getD l (Int.toNat k) (0 : Int) + (1 : Int)) <
                                List.getD w (Int.toNat k) (0 : Int) * List.getD l (Int.toNat i) (0 : Int)))
                            (Q Go.Lom.AX.ret (Go.Lom.shSt Go.P7.shR (Bool.false, ())))
                            (Go.Lom.fork
                              (List.getD w (Int.toNat i) (0 : Int) * (List.getD l (Int.toNat k) (0 : Int) + (1 : Int)) ==
                                List.getD w (Int.toNat k) (0 : Int) * List.getD l (Int.toNat i) (0 : Int))
                              (Go.Lom.fork (Decidable.decide (k < i))
                                (Q Go.Lom.AX.ret (Go.Lom.shSt Go.P7.shR (Bool.false, ())))
                                (Go.Lom.req (Go.Lom.inR Go.IntKind.i64 (k + (1 : Int)))
                                  (Go.P7.mLen w (k + (1 : Int)) < Go.P7.mLen w k ∧
                                    Go.Lom.LC.spec Go.P7.lc5b (w, s, l, all, i, k + (1 : Int), ()) Q)))
                              (Go.Lom.req (Go.Lom.inR Go.IntKind.i64 (k + (1 : Int)))
                                (Go.P7.mLen w (k + (1 : Int)) < Go.P7.mLen w k ∧
                                  Go.Lom.LC.spec Go.P7.lc5b (w, s, l, all, i, k + (1 : Int), ()) Q))))
                          (Go.Lom.req (Go.Lom.inR Go.IntKind.i64 (k + (1 : Int)))
                            (Go.P7.mLen w (k + (1 : Int)) < Go.P7.mLen w k ∧
                              Go.Lom.LC.spec Go.P7.lc5b (w, s, l, all, i, k + (1 : Int), ()) Q))))
                      (Go.Lom.req (Go.Lom.inR Go.IntKind.i64 (k + (1 : Int)))
                        (Go.P7.mLen w (k + (1 : Int)) < Go.P7.mLen w k ∧
                          Go.Lom.LC.spec Go.P7.lc5b (w, s, l, all, i, k + (1 : Int), ()) Q))))))))))
      (Q (Go.Lom.AX.exit (2 : Nat)) (Go.Lom.shSt Go.P7.sh5a (w, s, l, all, i, ())))) := by kernel_rfl
theorem v5a (w : List Int) (s : Int) (l : List Int) (all i : Int) (Q : AX → St → Prop) : (xloop Try.prog [(24, fcFrom), (25, fcDown)] [(5, 1, lc5b)] 5 5 0 lc5a ex5a (fun x => mLen x.1 x.2.2.2.2.1) (w, s, l, all, i, ()) Q) =
  (Go.Lom.fork (Decidable.decide (i < (↑(List.length w) : Int)))
      (Go.Lom.req (Decidable.decide ((0 : Int) ≤ i ∧ i < (↑(List.length l) : Int)))
        (Go.Lom.fork
          (!Decidable.decide ((0 : Int) ≤ List.getD l (Int.toNat i) (0 : Int) ∧ List.getD l (Int.toNat i) (0 : Int) ≤ s))
          (Q Go.Lom.AX.ret (Go.Lom.shSt Go.P7.shR (Bool.false, ())))
          (Go.Lom.req (Decidable.decide ((0 : Int) ≤ i ∧ i < (↑(List.length l) : Int)))
            (Go.Lom.req (Decidable.decide ((0 : Int) ≤ i ∧ i < (↑(List.length w) : Int)))
              (Go.Lom.req (Go.Lom.inR Go.IntKind.i64 (s * List.getD w (Int.toNat i) (0 : Int)))
                (((0 : Int) ≤ s * List.getD w (Int.toNat i) (0 : Int) ∧
                    s * List.getD w (Int.toNat i) (0 : Int) ≤ (9223372036854775806 : Int) ∧ (0 : Int) < all) ∧
                  Go.Lom.AV.int Go.IntKind.i64 (List.getD l (Int.toNat i) (0 : Int)) =
                      Go.Lom.AV.int Go.IntKind.i64 (List.getD l (Int.toNat i) (0 : Int)) ∧
                    Go.Lom.fork
                      (Decidable.decide
                        (List.getD l (Int.toNat i) (0 : Int) < Int.tdiv (s * List.getD w (Int.toNat i) (0 : Int)) all))
                      (Q Go.Lom.AX.ret (Go.Lom.shSt Go.P7.shR (Bool.false, ())))
                      (Go.Lom.fork (Decidable.decide (s ≤ all))
                        (Go.Lom.req (Decidable.decide ((0 : Int) ≤ i ∧ i < (↑(List.length l) : Int)))
                          (Go.Lom.req (Decidable.decide ((0 : Int) ≤ i ∧ i < (↑(List.length w) : Int)))
                            (Go.Lom.fork
                              (Decidable.decide (List.getD l (Int.toNat i) (0 : Int) > List.getD w (Int.toNat i) (0 : Int)))
                              (Q Go.Lom.AX.ret (Go.Lom.shSt Go.P7.shR (Bool.false, ())))
                              ((Go.P7.p5 w s l all ∧
                                  (0 : Int) ≤ i ∧
                                    i < (↑(List.length w) : Int) ∧
                                      (0 : Int) ≤ (0 : Int) ∧ (0 : Int) ≤ (↑(List.length w) : Int)) ∧
                                Go.Lom.req (Go.Lom.inR Go.IntKind.i64 (i + (1 : Int)))
                                  (Go.P7.mLen w (i + (1 : Int)) < Go.P7.mLen w i ∧
                                    Go.Lom.LC.spec Go.P7.lc5a (w, s, l, all, i + (1 : Int), ()) Q)))))
                        ((Go.P7.p5 w s l all ∧
                            (0 : Int) ≤ i ∧
                              i < (↑(List.length w) : Int) ∧ (0 : Int) ≤ (0 : Int) ∧ (0 : Int) ≤ (↑(List.length w) : Int)) ∧
                          Go.Lom.req (Go.Lom.inR Go.IntKind.i64 (i + (1 : Int)))
                            (Go.P7.mLen w (i + (1 : Int)) < Go.P7.mLen w i ∧
                              Go.Lom.LC.spec Go.P7.lc5a (w, s, l, all, i + (1 : Int), ()) Q)))))))))
      (Q (Go.Lom.AX.exit (0 : Nat)) (Go.Lom.shSt [] ()))) := by kernel_rfl
def sLaw (w : List Int) (K : Bool → Prop) : Prop := w.length ≤ big ∧ K true
abbrev fc5 : FC := ⟨[.v L, .v I], [.b], fun x K => sLaw x.1 fun r => K (r, ())⟩
theorem v5F (w : List Int) (s : Int) (K : dens [.b] → Prop) : (xfn Try.prog [(14, fcSh), (23, fcSum), (19, fcWorks)] [(5, 0, lc5a)] 5 5 fc5 (w, s, ()) K) =
  (List.length w ≤ (9223372036854775807 : Nat) ∧
      ∀ (r : List Int) (e : Int),
        Go.P7.shareR w s = (r, e) →
          Go.Lom.fork (e != (0 : Int))
            (Go.Lom.fork ((↑(List.length r) : Int) == (0 : Int)) (K (Bool.true, ())) (K (Bool.false, ())))
            ((List.length w ≤ (9223372036854775807 : Nat) ∧ Go.P7.fitS (0 : Int) w) ∧
              Go.Lom.fork ((↑(List.length r) : Int) != (↑(List.length w) : Int)) (K (Bool.false, ()))
                ((List.length r ≤ (9223372036854775807 : Nat) ∧ Go.P7.fitS (0 : Int) r) ∧
                  Go.Lom.fork (List.sum r != s) (K (Bool.false, ()))
                    ((Go.P7.p5 w s r (List.sum w) ∧ (0 : Int) ≤ (0 : Int) ∧ (0 : Int) ≤ (↑(List.length w) : Int)) ∧
                      K (Bool.true, ()))))) := by kernel_rfl
end Go.P7
