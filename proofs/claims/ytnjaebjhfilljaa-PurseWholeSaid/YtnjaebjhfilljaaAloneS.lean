/- The law of some alone: states and what is to be shown, reduced. No conditions. -/
import Derived.Test.YtnjaebjhfilljaaFairS
set_option linter.unusedSimpArgs false
set_option linter.constructorNameAsVariable false
set_option maxRecDepth 100000
set_option maxHeartbeats 2000000
set_option linter.unusedVariables false
namespace Go.P7
open Go.Lom Go.Proofs Go

def ringI (n m : Int) : Int := if m ≤ 0 then 0 else (n.tmod m + m).tmod m
def sRing (n m : Int) (K : Int → Prop) : Prop := (m ≤ 4611686018427387904) ∧ ∀ r, r = ringI n m → K r
abbrev fcRing : FC := ⟨[.v I, .v I], [I], fun x K => sRing x.1 x.2.1 fun r => K (r, ())⟩
theorem v26F (n m : Int) (K : dens [I] → Prop) : (xfn Try.prog [] [] 5 26 fcRing (n, m, ()) K) =
  (Go.Lom.fork (Decidable.decide (m ≤ (0 : Int))) (K ((0 : Int), ()))
      (Go.Lom.req (Decidable.decide (m ≠ (0 : Int)))
        (Go.Lom.req (Go.Lom.inR Go.IntKind.i64 (Int.tmod n m + m))
          (Go.Lom.req (Decidable.decide (m ≠ (0 : Int))) (K (Int.tmod (Int.tmod n m + m) m, ())))))) := by kernel_rfl
def pickI (l : List Int) (i : Int) : Int := l.getD (ringI i l.length).toNat 0
def sPick (l : List Int) (i : Int) (K : Int → Prop) : Prop := (l.length ≤ 4611686018427387904) ∧ ∀ r, r = pickI l i → K r
abbrev fcPick : FC := ⟨[.v L, .v I], [I], fun x K => sPick x.1 x.2.1 fun r => K (r, ())⟩
theorem v28F (l : List Int) (i : Int) (K : dens [I] → Prop) : (xfn Try.prog [(26, fcRing)] [] 5 28 fcPick (l, i, ()) K) =
  (Go.Lom.fork ((↑(List.length l) : Int) == (0 : Int)) (K ((0 : Int), ()))
      ((↑(List.length l) : Int) ≤ (4611686018427387904 : Int) ∧
        ∀ (r : Int),
          r = Go.P7.ringI i (↑(List.length l) : Int) →
            Go.Lom.req (Decidable.decide ((0 : Int) ≤ r ∧ r < (↑(List.length l) : Int)))
              (K (List.getD l (Int.toNat r) (0 : Int), ())))) := by kernel_rfl

def isOf (bits : List Int) (i : Int) : Bool := ringI (pickI bits i) 2 == 1
def subF (bits : List Int) : List Int → Int → List Int
  | [], _ => []
  | x :: l, i => if isOf bits i = true then x :: subF bits l (i + 1) else subF bits l (i + 1)
abbrev sh7 : Shape := [(0, .v L), (2, .v L), (7, .v L), (9, .own I), (10, .own I), (11, .v I)]
abbrev sh7E : Shape := [(9, .own I), (10, .own I)]
def s7L (w bits l some got : List Int) (i : Int) (Q : LQ) : Prop :=
  (w.length ≤ 24 ∧ l.length = w.length ∧ bits.length ≤ 4611686018427387904 ∧ 0 ≤ i ∧ i ≤ w.length ∧ some.length ≤ i ∧ got.length ≤ i) ∧
  ∀ a b, a = some ++ subF bits (w.drop i.toNat) i → b = got ++ subF bits (l.drop i.toNat) i → Q (.exit 0) (shSt sh7E (a, b, ()))
abbrev lc7 : LC := ⟨sh7, fun x Q => s7L x.1 x.2.1 x.2.2.1 x.2.2.2.1 x.2.2.2.2.1 x.2.2.2.2.2.1 Q⟩
theorem v7L (w bits l some got : List Int) (i : Int) (Q : AX → St → Prop) : (xloop Try.prog [(28, fcPick), (26, fcRing)] [] 5 7 0 lc7 (one sh7E) (fun x => mLen x.1 x.2.2.2.2.2.1) (w, bits, l, some, got, i, ()) Q) =
  (Go.Lom.fork (Decidable.decide (i < (↑(List.length w) : Int)))
      (List.length bits ≤ (4611686018427387904 : Nat) ∧
        ∀ (r : Int),
          r = Go.P7.pickI bits i →
            (2 : Int) ≤ (4611686018427387904 : Int) ∧
              ∀ (r_1 : Int),
                r_1 = Go.P7.ringI r (2 : Int) →
                  Go.Lom.fork (r_1 == (1 : Int))
                    (Go.Lom.req (Decidable.decide ((0 : Int) ≤ i ∧ i < (↑(List.length w) : Int)))
                      (Go.Lom.req (Decidable.decide ((0 : Int) ≤ i ∧ i < (↑(List.length l) : Int)))
                        (Go.Lom.req (Decidable.decide ((0 : Nat) + List.length some ≤ List.length some))
                          (Go.Lom.req
                            (Go.Lom.fitsN (List.length some + List.length [List.getD w (Int.toNat i) (0 : Int)]) (8 : Nat))
                            (Go.Lom.AV.int Go.IntKind.i64 (List.getD l (Int.toNat i) (0 : Int)) =
                                Go.Lom.AV.int Go.IntKind.i64 (List.getD l (Int.toNat i) (0 : Int)) ∧
                              Go.Lom.req (Decidable.decide ((0 : Nat) + List.length got ≤ List.length got))
                                (Go.Lom.req
                                  (Go.Lom.fitsN (List.length got + List.length [List.getD l (Int.toNat i) (0 : Int)])
                                    (8 : Nat))
                                  (Go.Lom.req (Go.Lom.inR Go.IntKind.i64 (i + (1 : Int)))
                                    (Go.Lom.req
                                      (Decidable.decide
                                        ((0 : Nat) +
                                            (List.length some + List.length [List.getD w (Int.toNat i) (0 : Int)]) ≤
                                          List.length
                                            (Go.Lom.seg (0 : Nat) (List.length some) some ++
                                              [List.getD w (Int.toNat i) (0 : Int)])))
                                      (Go.Lom.req
                                        (Decidable.decide
                                          ((0 : Nat) +
                                              (List.length got + List.length [List.getD l (Int.toNat i) (0 : Int)]) ≤
                                            List.length
                                              (Go.Lom.seg (0 : Nat) (List.length got) got ++
                                                [List.getD l (Int.toNat i) (0 : Int)])))
                                        (Go.P7.mLen w (i + (1 : Int)) < Go.P7.mLen w i ∧
                                          Go.Lom.LC.spec Go.P7.lc7
                                            (w, bits, l,
                                              Go.Lom.seg (0 : Nat)
                                                (List.length some + List.length [List.getD w (Int.toNat i) (0 : Int)])
                                                (Go.Lom.seg (0 : Nat) (List.length some) some ++
                                                  [List.getD w (Int.toNat i) (0 : Int)]),
                                              Go.Lom.seg (0 : Nat)
                                                (List.length got + List.length [List.getD l (Int.toNat i) (0 : Int)])
                                                (Go.Lom.seg (0 : Nat) (List.length got) got ++
                                                  [List.getD l (Int.toNat i) (0 : Int)]),
                                              i + (1 : Int), ())
                                            Q))))))))))
                    (Go.Lom.req (Go.Lom.inR Go.IntKind.i64 (i + (1 : Int)))
                      (Go.Lom.req (Decidable.decide ((0 : Nat) + List.length some ≤ List.length some))
                        (Go.Lom.req (Decidable.decide ((0 : Nat) + List.length got ≤ List.length got))
                          (Go.P7.mLen w (i + (1 : Int)) < Go.P7.mLen w i ∧
                            Go.Lom.LC.spec Go.P7.lc7
                              (w, bits, l, Go.Lom.seg (0 : Nat) (List.length some) some,
                                Go.Lom.seg (0 : Nat) (List.length got) got, i + (1 : Int), ())
                              Q)))))
      (Go.Lom.req (Decidable.decide ((0 : Nat) + List.length some ≤ List.length some))
        (Go.Lom.req (Decidable.decide ((0 : Nat) + List.length got ≤ List.length got))
          (Q (Go.Lom.AX.exit (0 : Nat))
            (Go.Lom.shSt Go.P7.sh7E
              (Go.Lom.seg (0 : Nat) (List.length some) some, Go.Lom.seg (0 : Nat) (List.length got) got, ())))))) := by kernel_rfl
def sAlone (w bits : List Int) (K : Bool → Prop) : Prop := (w.length ≤ big ∧ bits.length ≤ 4611686018427387904) ∧ K true
abbrev fc7 : FC := ⟨[.v L, .v I, .v L], [.b], fun x K => sAlone x.1 x.2.2.1 fun r => K (r, ())⟩
theorem v7F (w : List Int) (s : Int) (bits : List Int) (K : dens [.b] → Prop) : (xfn Try.prog [(14, fcSh), (16, fcSame), (23, fcSum), (19, fcWorks)] [(7, 0, lc7)] 5 7 fc7 (w, s, bits, ()) K) =
  (List.length w ≤ (9223372036854775807 : Nat) ∧
      ∀ (r : List Int) (e : Int),
        Go.P7.shareR w s = (r, e) →
          Go.Lom.fork (e != (0 : Int)) (Go.Lom.fork (e != (0 : Int)) (K (Bool.true, ())) (K (Bool.false, ())))
            (Go.Lom.fork ((↑(List.length r) : Int) != (↑(List.length w) : Int))
              (Go.Lom.fork (e != (0 : Int)) (K (Bool.true, ())) (K (Bool.false, ())))
              ((List.length w ≤ (24 : Nat) ∧
                  List.length r = List.length w ∧
                    List.length bits ≤ (4611686018427387904 : Nat) ∧
                      (0 : Int) ≤ (0 : Int) ∧
                        (0 : Int) ≤ (↑(List.length w) : Int) ∧ (0 : Int) ≤ (0 : Int) ∧ (0 : Int) ≤ (0 : Int)) ∧
                ∀ (a b : List Int),
                  a = [] ++ Go.P7.subF bits (List.drop (0 : Nat) w) (0 : Int) →
                    b = [] ++ Go.P7.subF bits (List.drop (0 : Nat) r) (0 : Int) →
                      Go.Lom.req (Decidable.decide ((0 : Nat) + List.length a ≤ List.length a))
                        ((List.length (Go.Lom.seg (0 : Nat) (List.length a) a) ≤ (9223372036854775807 : Nat) ∧
                            Go.P7.fitS (0 : Int) (Go.Lom.seg (0 : Nat) (List.length a) a)) ∧
                          Go.Lom.fork (List.sum (Go.Lom.seg (0 : Nat) (List.length a) a) == (0 : Int))
                            (Go.Lom.req (Decidable.decide ((0 : Nat) + List.length b ≤ List.length b))
                              ((List.length (Go.Lom.seg (0 : Nat) (List.length b) b) ≤ (9223372036854775807 : Nat) ∧
                                  Go.P7.fitS (0 : Int) (Go.Lom.seg (0 : Nat) (List.length b) b)) ∧
                                Go.Lom.fork (List.sum (Go.Lom.seg (0 : Nat) (List.length b) b) == (0 : Int))
                                  (K (Bool.true, ())) (K (Bool.false, ()))))
                            (Go.Lom.req (Decidable.decide ((0 : Nat) + List.length b ≤ List.length b))
                              ((List.length (Go.Lom.seg (0 : Nat) (List.length b) b) ≤ (9223372036854775807 : Nat) ∧
                                  Go.P7.fitS (0 : Int) (Go.Lom.seg (0 : Nat) (List.length b) b)) ∧
                                Go.Lom.req (Decidable.decide ((0 : Nat) + List.length a ≤ List.length a))
                                  (List.length (Go.Lom.seg (0 : Nat) (List.length a) a) ≤ (9223372036854775807 : Nat) ∧
                                    ∀ (r : List Int) (e : Int),
                                      Go.P7.shareR (Go.Lom.seg (0 : Nat) (List.length a) a)
                                            (List.sum (Go.Lom.seg (0 : Nat) (List.length b) b)) =
                                          (r, e) →
                                        Go.Lom.fork (e == (0 : Int))
                                          (Go.Lom.req (Decidable.decide ((0 : Nat) + List.length b ≤ List.length b))
                                            (List.length r ≤ (9223372036854775807 : Nat) ∧
                                              Go.Lom.fork (Decidable.decide (r = Go.Lom.seg (0 : Nat) (List.length b) b))
                                                (K (Bool.true, ())) (K (Bool.false, ()))))
                                          (K (Bool.false, ()))))))))) := by kernel_rfl
end Go.P7
