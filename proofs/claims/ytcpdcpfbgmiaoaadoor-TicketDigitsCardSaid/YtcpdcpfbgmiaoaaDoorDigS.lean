/- Tickets: the law of digits: states and what is to be shown, reduced. No conditions. -/
import Derived.Test.YtcpdcpfbgmiaoaaDoorCodeS
set_option linter.unusedSimpArgs false
set_option linter.unusedVariables false
set_option linter.constructorNameAsVariable false
set_option maxRecDepth 100000
set_option maxHeartbeats 2000000
namespace Go.P3
open Go.Lom Go.Proofs Go

abbrev A3 : Ty := .pr I (.pr I I)
abbrev LB : Ty := .sl B8
def ringI (n m : Int) : Int := (n.tmod m + m).tmod m
abbrev fcRing : FC := ⟨[.v I, .v I], [I], fun x K => (0 < x.2.1 ∧ x.2.1 ≤ 99999999) ∧ K (ringI x.1 x.2.1, ())⟩
theorem v26F (n m : Int) (K : dens [I] → Prop) : (xfn1 Tryd.prog {} 5 26 fcRing (n, m, ()) K) =
  (Go.Lom.fork (Decidable.decide (m ≤ (0 : Int))) (K ((0 : Int), ()))
      (Go.Lom.req (Decidable.decide (m ≠ (0 : Int)))
        (Go.Lom.req (Go.Lom.inR Go.IntKind.i64 (Int.tmod n m + m))
          (Go.Lom.req (Decidable.decide (m ≠ (0 : Int))) (K (Int.tmod (Int.tmod n m + m) m, ())))))) := by kernel_rfl
def seekK (l : List Int) (n : Int) : Nat → Int → Option Int
  | 0, _ => none
  | k + 1, i => if l.getD i.toNat 0 = n then some i else seekK l n k (i + 1)
def seekI (l : List Int) (n : Int) : Int := match seekK l n l.length 0 with
  | some i => i
  | none => -1
abbrev sh27 : SV := S [(0, .v L), (1, .v I), (5, .v I)]
def ex27 : Ex2
  | .ret => some (S [(4, .v I)], 0)
  | _ => some (.nil, 0)
def s27 (l : List Int) (n i : Int) (Q : LQ) : Prop := (l.length ≤ 100000 ∧ 0 ≤ i ∧ i ≤ l.length) ∧
  ((∀ r, seekK l n (l.length - i.toNat) i = some r → Q .ret (stS 0 (S [(4, .v I)]) (r, ()))) ∧ (seekK l n (l.length - i.toNat) i = none → Q (.exit 0) (stS 0 .nil ())))
abbrev lc27 : LC2 := ⟨0, sh27, 0, fun (l, n, i, _) Q => s27 l n i Q⟩
theorem v27L (l : List Int) (n i : Int) (Q : AX → St → Prop) : (xloop2 Tryd.prog {} 5 27 0 lc27 ex27 (fun (l, _, i, _) => l.length - i.toNat) (l, n, i, ()) Q) =
  (Go.Lom.fork (Decidable.decide (i < (↑(List.length l) : Int)))
      (Go.Lom.req (Decidable.decide ((0 : Int) ≤ i ∧ i < (↑(List.length l) : Int)))
        (Go.Lom.fork (List.getD l (Int.toNat i) (0 : Int) == n)
          (Q Go.Lom.AX.ret (Go.Lom.stS (0 : Nat) (Go.P3.S [((4 : Nat), Go.Lom.SV.v Go.P3.I)]) (i, ())))
          (Go.Lom.req (Go.Lom.inR Go.IntKind.i64 (i + (1 : Int)))
            (List.length l - Int.toNat (i + (1 : Int)) < List.length l - Int.toNat i ∧
              Go.Lom.LC2.spec Go.P3.lc27 (l, n, i + (1 : Int), ()) Q))))
      (Q (Go.Lom.AX.exit (0 : Nat)) (Go.Lom.stS (0 : Nat) Go.Lom.SV.nil ()))) := by kernel_rfl
abbrev fcSeek : FC := ⟨[.v L, .v I], [I], fun x K => x.1.length ≤ 100000 ∧ K (seekI x.1 x.2.1, ())⟩
theorem v27F (l : List Int) (n : Int) (K : dens [I] → Prop) : (xfn1 Tryd.prog { l2 := [(27, 0, lc27)] } 5 27 fcSeek (l, n, ()) K) =
  ((List.length l ≤ (100000 : Nat) ∧ (0 : Int) ≤ (0 : Int) ∧ (0 : Int) ≤ (↑(List.length l) : Int)) ∧
      (∀ (r : Int), Go.P3.seekK l n (List.length l - (0 : Nat)) (0 : Int) = Option.some r → K (r, ())) ∧
        (Go.P3.seekK l n (List.length l - (0 : Nat)) (0 : Int) = Option.none → K ((-1 : Int), ()))) := by kernel_rfl
def atI (a : Int × Int × Int) (j : Int) : Int := if j = 0 then a.1 else if j = 1 then a.2.1 else a.2.2
def markK (a : Int × Int × Int) : Nat → Int → List Int → List Int
  | 0, _, b => b
  | k + 1, j, b => markK a k (j + 1) (b.set (ringI (atI a j) 10).toNat 63)
abbrev sh5a : SV := S [(0, .v I), (4, .box 0 (.v A3)), (11, .own 1 B8), (18, .v I)]
abbrev sh5ae : SV := S [(0, .v I), (11, .own 0 B8)]
def s5a (n : Int) (a : Int × Int × Int) (b : List Int) (j : Int) (Q : LQ) : Prop := (b.length = 10 ∧ 0 ≤ j ∧ j ≤ 3) ∧ Q (.exit 0) (stS 1 sh5ae (n, markK a (3 - j).toNat j b, ()))
abbrev lc5a : LC2 := ⟨0, sh5a, 2, fun (n, a, b, j, _) Q => s5a n a b j Q⟩
theorem v5A0 (n a0 a1 a2 : Int) (b : List Int) (Q : AX → St → Prop) : (xloop2 Tryd.prog { f := [(26, fcRing)] } 5 5 0 lc5a (fun _ => some (sh5ae, 1)) (fun (_, _, _, j, _) => (3 - j).toNat) (n, (a0, a1, a2), b, 0, ()) Q) =
  (((0 : Go.Lom.AT.den (Go.Lom.AT.v Go.P3.I)) < (10 : Int) ∧
        (10 : Int) ≤ (99999999 : Go.Lom.AT.den (Go.Lom.AT.v Go.P3.I))) ∧
      Go.Lom.req
        (Decidable.decide ((0 : Int) ≤ Go.P3.ringI a0 (10 : Int) ∧ Go.P3.ringI a0 (10 : Int) < (↑(List.length b) : Int)))
        (Go.Lom.req (Decidable.decide (Int.toNat (Go.P3.ringI a0 (10 : Int)) + (0 : Nat) < List.length b))
          (Go.Lom.req (Go.Lom.inR Go.IntKind.i64 (1 : Int))
            (Go.Lom.req
              (Decidable.decide
                ((0 : Nat) + List.length b ≤
                  List.length (List.set b (Int.toNat (Go.P3.ringI a0 (10 : Int)) + (0 : Nat)) (63 : Int))))
              ((2 : Nat) < (3 : Nat) ∧
                Go.Lom.LC2.spec Go.P3.lc5a
                  (n, (a0, a1, a2),
                    Go.Lom.seg (0 : Nat) (List.length b)
                      (List.set b (Int.toNat (Go.P3.ringI a0 (10 : Int)) + (0 : Nat)) (63 : Int)),
                    (1 : Int), ())
                  Q))))) := by kernel_rfl
theorem v5A1 (n a0 a1 a2 : Int) (b : List Int) (Q : AX → St → Prop) : (xloop2 Tryd.prog { f := [(26, fcRing)] } 5 5 0 lc5a (fun _ => some (sh5ae, 1)) (fun (_, _, _, j, _) => (3 - j).toNat) (n, (a0, a1, a2), b, 1, ()) Q) =
  (((0 : Go.Lom.AT.den (Go.Lom.AT.v Go.P3.I)) < (10 : Int) ∧
        (10 : Int) ≤ (99999999 : Go.Lom.AT.den (Go.Lom.AT.v Go.P3.I))) ∧
      Go.Lom.req
        (Decidable.decide ((0 : Int) ≤ Go.P3.ringI a1 (10 : Int) ∧ Go.P3.ringI a1 (10 : Int) < (↑(List.length b) : Int)))
        (Go.Lom.req (Decidable.decide (Int.toNat (Go.P3.ringI a1 (10 : Int)) + (0 : Nat) < List.length b))
          (Go.Lom.req (Go.Lom.inR Go.IntKind.i64 (2 : Int))
            (Go.Lom.req
              (Decidable.decide
                ((0 : Nat) + List.length b ≤
                  List.length (List.set b (Int.toNat (Go.P3.ringI a1 (10 : Int)) + (0 : Nat)) (63 : Int))))
              ((1 : Nat) < (2 : Nat) ∧
                Go.Lom.LC2.spec Go.P3.lc5a
                  (n, (a0, a1, a2),
                    Go.Lom.seg (0 : Nat) (List.length b)
                      (List.set b (Int.toNat (Go.P3.ringI a1 (10 : Int)) + (0 : Nat)) (63 : Int)),
                    (2 : Int), ())
                  Q))))) := by kernel_rfl
theorem v5A2 (n a0 a1 a2 : Int) (b : List Int) (Q : AX → St → Prop) : (xloop2 Tryd.prog { f := [(26, fcRing)] } 5 5 0 lc5a (fun _ => some (sh5ae, 1)) (fun (_, _, _, j, _) => (3 - j).toNat) (n, (a0, a1, a2), b, 2, ()) Q) =
  (((0 : Go.Lom.AT.den (Go.Lom.AT.v Go.P3.I)) < (10 : Int) ∧
        (10 : Int) ≤ (99999999 : Go.Lom.AT.den (Go.Lom.AT.v Go.P3.I))) ∧
      Go.Lom.req
        (Decidable.decide ((0 : Int) ≤ Go.P3.ringI a2 (10 : Int) ∧ Go.P3.ringI a2 (10 : Int) < (↑(List.length b) : Int)))
        (Go.Lom.req (Decidable.decide (Int.toNat (Go.P3.ringI a2 (10 : Int)) + (0 : Nat) < List.length b))
          (Go.Lom.req (Go.Lom.inR Go.IntKind.i64 (3 : Int))
            (Go.Lom.req
              (Decidable.decide
                ((0 : Nat) + List.length b ≤
                  List.length (List.set b (Int.toNat (Go.P3.ringI a2 (10 : Int)) + (0 : Nat)) (63 : Int))))
              ((0 : Nat) < (1 : Nat) ∧
                Go.Lom.LC2.spec Go.P3.lc5a
                  (n, (a0, a1, a2),
                    Go.Lom.seg (0 : Nat) (List.length b)
                      (List.set b (Int.toNat (Go.P3.ringI a2 (10 : Int)) + (0 : Nat)) (63 : Int)),
                    (3 : Int), ())
                  Q))))) := by kernel_rfl
theorem v5A3 (n a0 a1 a2 : Int) (b : List Int) (Q : AX → St → Prop) : (xloop2 Tryd.prog { f := [(26, fcRing)] } 5 5 0 lc5a (fun _ => some (sh5ae, 1)) (fun (_, _, _, j, _) => (3 - j).toNat) (n, (a0, a1, a2), b, 3, ()) Q) =
  (Go.Lom.req (Decidable.decide ((0 : Nat) + List.length b ≤ List.length b))
      (Q (Go.Lom.AX.exit (0 : Nat)) (Go.Lom.stS (1 : Nat) Go.P3.sh5ae (n, Go.Lom.seg (0 : Nat) (List.length b) b, ())))) := by kernel_rfl
def fitsB (b : List Int) (t : List UInt8) : Prop := ∀ k : Int, 0 ≤ k → k < 10 → b.getD k.toNat 0 = 63 ∨ b.getD k.toNat 0 = cI t k
abbrev sh5c : SV := S [(11, .v LB), (19, .v L), (20, .v I), (21, .v .s), (23, .v I)]
abbrev sh5ce : SV := S [(11, .v LB), (19, .v L), (20, .v I)]
def s5c (b l : List Int) (j : Int) (t : List UInt8) (k : Int) (Q : LQ) : Prop := (b.length = 10 ∧ t.length = 10 ∧ 0 ≤ k ∧ k ≤ 10 ∧ fitsB b t) ∧ Q (.exit 4) (stS 0 sh5ce (b, l, j, ()))
abbrev lc5c : LC2 := ⟨0, sh5c, 0, fun (b, l, j, t, k, _) Q => s5c b l j t k Q⟩
theorem v5C (b l : List Int) (j : Int) (t : List UInt8) (k : Int) (Q : AX → St → Prop) : (xloop2 Tryd.prog {} 5 5 2 lc5c (fun _ => some (sh5ce, 0)) (fun (_, _, _, _, k, _) => (10 - k).toNat) (b, l, j, t, k, ()) Q) =
  (Go.Lom.fork (Decidable.decide (k < (10 : Int)))
      (Go.Lom.req (Decidable.decide ((0 : Int) ≤ k ∧ k < (↑(List.length b) : Int)))
        (Go.Lom.fork (List.getD b (Int.toNat k) (0 : Int) != (63 : Int))
          (Go.Lom.req (Decidable.decide ((0 : Int) ≤ k ∧ k < (↑(List.length b) : Int)))
            (Go.Lom.req (Decidable.decide ((0 : Int) ≤ k ∧ k < (↑(List.length t) : Int)))
              (Go.Lom.fork
                (List.getD b (Int.toNat k) (0 : Int) != (↑(UInt8.toNat (List.getD t (Int.toNat k) (0 : UInt8))) : Int))
                (Q Go.Lom.AX.ret (Go.Lom.stS (0 : Nat) Go.P3.sh5ce (b, l, j, ())))
                (Go.Lom.req (Go.Lom.inR Go.IntKind.i64 (k + (1 : Int)))
                  (Int.toNat ((10 : Go.Lom.SV.den (Go.Lom.SV.slot (23 : Nat) (Go.Lom.SV.v Go.P3.I))) - (k + (1 : Int))) <
                      Int.toNat ((10 : Go.Lom.SV.den (Go.Lom.SV.slot (23 : Nat) (Go.Lom.SV.v Go.P3.I))) - k) ∧
                    Go.Lom.LC2.spec Go.P3.lc5c (b, l, j, t, k + (1 : Int), ()) Q)))))
          (Go.Lom.req (Go.Lom.inR Go.IntKind.i64 (k + (1 : Int)))
            (Int.toNat ((10 : Go.Lom.SV.den (Go.Lom.SV.slot (23 : Nat) (Go.Lom.SV.v Go.P3.I))) - (k + (1 : Int))) <
                Int.toNat ((10 : Go.Lom.SV.den (Go.Lom.SV.slot (23 : Nat) (Go.Lom.SV.v Go.P3.I))) - k) ∧
              Go.Lom.LC2.spec Go.P3.lc5c (b, l, j, t, k + (1 : Int), ()) Q))))
      (Q (Go.Lom.AX.exit (4 : Nat)) (Go.Lom.stS (0 : Nat) Go.P3.sh5ce (b, l, j, ())))) := by kernel_rfl
def okE (b l : List Int) : Prop := ∀ i : Int, 0 ≤ i → i < l.length → (1 ≤ l.getD i.toNat 0 ∧ l.getD i.toNat 0 ≤ 99999999) ∧ (0 < i → l.getD (i - 1).toNat 0 < l.getD i.toNat 0) ∧ fitsB b (codeS (l.getD i.toNat 0))
abbrev sh5b : SV := S [(11, .v LB), (19, .v L), (20, .v I)]
def s5b (b l : List Int) (j : Int) (Q : LQ) : Prop := (b.length = 10 ∧ l.length ≤ 100000 ∧ 0 ≤ j ∧ j ≤ l.length ∧ okE b l) ∧ Q (.exit 2) (stS 0 .nil ())
abbrev lc5b : LC2 := ⟨0, sh5b, 0, fun (b, l, j, _) Q => s5b b l j Q⟩
theorem v5B (b l : List Int) (j : Int) (Q : AX → St → Prop) : (xloop2 Tryd.prog { f := [(14, fcCode)], l2 := [(5, 2, lc5c)] } 5 5 1 lc5b (fun _ => some (.nil, 0)) (fun (_, l, j, _) => l.length - j.toNat) (b, l, j, ()) Q) =
  (Go.Lom.fork (Decidable.decide (j < (↑(List.length l) : Int)))
      (Go.Lom.req (Decidable.decide ((0 : Int) ≤ j ∧ j < (↑(List.length l) : Int)))
        (Go.Lom.fork
          ((if
                (1 : Go.Lom.AT.den (Go.Lom.AT.v Go.P3.I)) ≤ List.getD l (Int.toNat j) (0 : Int) ∧
                  List.getD l (Int.toNat j) (0 : Int) ≤ (99999999 : Go.Lom.AT.den (Go.Lom.AT.v Go.P3.I)) then
              (0 : Go.Lom.Ty.den Go.P3.I)
            else (7 : Go.Lom.Ty.den Go.P3.I)) !=
            (0 : Int))
          (Q Go.Lom.AX.ret (Go.Lom.stS (0 : Nat) Go.Lom.SV.nil ()))
          (Go.Lom.fork
            ((↑(List.length
                    (if
                        (1 : Go.Lom.AT.den (Go.Lom.AT.v Go.P3.I)) ≤ List.getD l (Int.toNat j) (0 : Int) ∧
                          List.getD l (Int.toNat j) (0 : Int) ≤ (99999999 : Go.Lom.AT.den (Go.Lom.AT.v Go.P3.I)) then
                      Go.P3.codeS (List.getD l (Int.toNat j) (0 : Int))
                    else [])) :
                Int) !=
              (10 : Int))
            (Q Go.Lom.AX.ret (Go.Lom.stS (0 : Nat) Go.Lom.SV.nil ()))
            (Go.Lom.fork (Decidable.decide (j > (0 : Int)))
              (Go.Lom.req (Go.Lom.inR Go.IntKind.i64 (j - (1 : Int)))
                (Go.Lom.req (Decidable.decide ((0 : Int) ≤ j - (1 : Int) ∧ j - (1 : Int) < (↑(List.length l) : Int)))
                  (Go.Lom.req (Decidable.decide ((0 : Int) ≤ j ∧ j < (↑(List.length l) : Int)))
                    (Go.Lom.fork
                      (Decidable.decide
                        (List.getD l (Int.toNat (j - (1 : Int))) (0 : Int) ≥ List.getD l (Int.toNat j) (0 : Int)))
                      (Q Go.Lom.AX.ret (Go.Lom.stS (0 : Nat) Go.Lom.SV.nil ()))
                      ((List.length b = (10 : Nat) ∧
                          List.length
                                (if
                                    (1 : Go.Lom.AT.den (Go.Lom.AT.v Go.P3.I)) ≤ List.getD l (Int.toNat j) (0 : Int) ∧
                                      List.getD l (Int.toNat j) (0 : Int) ≤
                                        (99999999 : Go.Lom.AT.den (Go.Lom.AT.v Go.P3.I)) then
                                  Go.P3.codeS (List.getD l (Int.toNat j) (0 : Int))
                                else []) =
                              (10 : Nat) ∧
                            (0 : Int) ≤ (0 : Int) ∧
                              (0 : Int) ≤ (10 : Int) ∧
                                Go.P3.fitsB b
                                  (if
                                      (1 : Go.Lom.AT.den (Go.Lom.AT.v Go.P3.I)) ≤ List.getD l (Int.toNat j) (0 : Int) ∧
                                        List.getD l (Int.toNat j) (0 : Int) ≤
                                          (99999999 : Go.Lom.AT.den (Go.Lom.AT.v Go.P3.I)) then
                                    Go.P3.codeS (List.getD l (Int.toNat j) (0 : Int))
                                  else [])) ∧
                        Go.Lom.req (Go.Lom.inR Go.IntKind.i64 (j + (1 : Int)))
                          (List.length l - Int.toNat (j + (1 : Int)) < List.length l - Int.toNat j ∧
                            Go.Lom.LC2.spec Go.P3.lc5b (b, l, j + (1 : Int), ()) Q))))))
              ((List.length b = (10 : Nat) ∧
                  List.length
                        (if
                            (1 : Go.Lom.AT.den (Go.Lom.AT.v Go.P3.I)) ≤ List.getD l (Int.toNat j) (0 : Int) ∧
                              List.getD l (Int.toNat j) (0 : Int) ≤ (99999999 : Go.Lom.AT.den (Go.Lom.AT.v Go.P3.I)) then
                          Go.P3.codeS (List.getD l (Int.toNat j) (0 : Int))
                        else []) =
                      (10 : Nat) ∧
                    (0 : Int) ≤ (0 : Int) ∧
                      (0 : Int) ≤ (10 : Int) ∧
                        Go.P3.fitsB b
                          (if
                              (1 : Go.Lom.AT.den (Go.Lom.AT.v Go.P3.I)) ≤ List.getD l (Int.toNat j) (0 : Int) ∧
                                List.getD l (Int.toNat j) (0 : Int) ≤ (99999999 : Go.Lom.AT.den (Go.Lom.AT.v Go.P3.I)) then
                            Go.P3.codeS (List.getD l (Int.toNat j) (0 : Int))
                          else [])) ∧
                Go.Lom.req (Go.Lom.inR Go.IntKind.i64 (j + (1 : Int)))
                  (List.length l - Int.toNat (j + (1 : Int)) < List.length l - Int.toNat j ∧
                    Go.Lom.LC2.spec Go.P3.lc5b (b, l, j + (1 : Int), ()) Q))))))
      (Q (Go.Lom.AX.exit (2 : Nat)) (Go.Lom.stS (0 : Nat) Go.Lom.SV.nil ()))) := by kernel_rfl
abbrev fcDigits : FC := ⟨[.v I, .v A3, .v I], [.b], fun x K => K (true, ())⟩
/-! the same contracts, with names for what is answered -/
abbrev fcRingN : FC := ⟨[.v I, .v I], [I], fun x K => (0 < x.2.1 ∧ x.2.1 ≤ 99999999) ∧ ∀ r : Int, 0 ≤ r → r < x.2.1 → K (r, ())⟩
abbrev fcCodeN : FC := ⟨[.v I], [.s, I], fun x K => (1 ≤ x.1 ∧ x.1 ≤ 99999999) ∧ ∀ s : List UInt8, s = codeS x.1 → K (s, 0, ())⟩
abbrev fcNumberN : FC := ⟨[.v .s], [I, I], fun x K => ∀ r e : Int, (r, e) = numberI x.1 → K (r, e, ())⟩
abbrev fcReadsN : FC := ⟨[.v .s], [L, I], fun x K => ∀ (l : List Int) (e : Int), (l, e) = readsI x.1 → K (l, e, ())⟩
abbrev fcSeekN : FC := ⟨[.v L, .v I], [I], fun x K => x.1.length ≤ 100000 ∧ ∀ r : Int, r = seekI x.1 x.2.1 → K (r, ())⟩
theorem v5F (n a0 a1 a2 d : Int) (K : dens [.b] → Prop) : (xfn1 Tryd.prog { f := [(14, fcCodeN), (16, fcNumberN), (18, fcReadsN), (26, fcRingN), (27, fcSeekN), (21, fcWorks)], l2 := [(5, 0, lc5a), (5, 1, lc5b)] } 5 5 fcDigits (n, (a0, a1, a2), d, ()) K) =
  (((0 : Go.Lom.AT.den (Go.Lom.AT.v Go.P3.I)) < (99999999 : Int) ∧
        (99999999 : Int) ≤ (99999999 : Go.Lom.AT.den (Go.Lom.AT.v Go.P3.I))) ∧
      ∀ (r : Int),
        (0 : Int) ≤ r →
          r < (99999999 : Int) →
            Go.Lom.req (Go.Lom.inR Go.IntKind.i64 ((1 : Int) + r))
              (((1 : Go.Lom.AT.den (Go.Lom.AT.v Go.P3.I)) ≤ (1 : Int) + r ∧
                  (1 : Int) + r ≤ (99999999 : Go.Lom.AT.den (Go.Lom.AT.v Go.P3.I))) ∧
                ∀ (s : List UInt8),
                  s = Go.P3.codeS ((1 : Int) + r) →
                    ∀ (r_1 e : Int),
                      (r_1, e) = Go.P3.numberI s →
                        Go.Lom.fork (e != (0 : Int)) (K (Bool.false, ()))
                          (Go.Lom.fork (r_1 != (1 : Int) + r) (K (Bool.false, ()))
                            (Go.Lom.fork ((↑(List.length s) : Int) != (10 : Int)) (K (Bool.false, ()))
                              (((0 : Go.Lom.AT.den (Go.Lom.AT.v Go.P3.I)) < (10 : Int) ∧
                                  (10 : Int) ≤ (99999999 : Go.Lom.AT.den (Go.Lom.AT.v Go.P3.I))) ∧
                                ∀ (r_2 : Int),
                                  (0 : Int) ≤ r_2 →
                                    r_2 < (10 : Int) →
                                      Go.Lom.req (Decidable.decide ((0 : Int) ≤ r_2 ∧ r_2 < (↑(List.length s) : Int)))
                                        (Go.Lom.req
                                          (Decidable.decide
                                            (Int.toNat r_2 + (0 : Nat) <
                                              List.length (List.map (fun b => (↑(UInt8.toNat b) : Int)) s)))
                                          (Go.Lom.req
                                            (Go.Lom.inR Go.IntKind.u8
                                              (List.getD (List.map (fun b => (↑(UInt8.toNat b) : Int)) s)
                                                  (Int.toNat r_2 + (0 : Nat)) (0 : Int) -
                                                (48 : Int)))
                                            (Go.Lom.req
                                              (Go.Lom.inR Go.IntKind.i64
                                                (List.getD (List.map (fun b => (↑(UInt8.toNat b) : Int)) s)
                                                    (Int.toNat r_2 + (0 : Nat)) (0 : Int) -
                                                  (48 : Int)))
                                              (Go.Lom.req
                                                (Go.Lom.inR Go.IntKind.i64
                                                  (List.getD (List.map (fun b => (↑(UInt8.toNat b) : Int)) s)
                                                        (Int.toNat r_2 + (0 : Nat)) (0 : Int) -
                                                      (48 : Int) +
                                                    (1 : Int)))
                                                (((0 : Go.Lom.AT.den (Go.Lom.AT.v Go.P3.I)) < (9 : Int) ∧
                                                    (9 : Int) ≤ (99999999 : Go.Lom.AT.den (Go.Lom.AT.v Go.P3.I))) ∧
                                                  ∀ (r_3 : Int),
                                                    (0 : Int) ≤ r_3 →
                                                      r_3 < (9 : Int) →
                                                        Go.Lom.req
                                                            (Go.Lom.inR Go.IntKind.i64
                                                              (List.getD (List.map (fun b => (↑(UInt8.toNat b) : Int)) s)
                                                                  (Int.toNat r_2 + (0 : Nat)) (0 : Int) -
                                                                (48 : Int)))
                                                            (Go.Lom.AV.int Go.IntKind.i64
                                                                (List.getD (List.map (fun b => (↑(UInt8.toNat b) : Int)) s)
                                                                    (Int.toNat r_2 + (0 : Nat)) (0 : Int) -
                                                                  (48 : Int)) =
                                                              Go.Lom.AV.int Go.IntKind.i64
                                                                (List.getD (List.map (fun b => (↑(UInt8.toNat b) : Int)) s)
                                                                    (Int.toNat r_2 + (0 : Nat)) (0 : Int) -
                                                                  (48 : Int))) ∧
                                                          Go.Lom.req
                                                              (Decidable.decide
                                                                (Int.toNat r_2 + (0 : Nat) <
                                                                  List.length
                                                                    (List.map (fun b => (↑(UInt8.toNat b) : Int)) s)))
                                                              (Go.Lom.AV.int Go.IntKind.u8
                                                                  (List.getD
                                                                    (List.map (fun b => (↑(UInt8.toNat b) : Int)) s)
                                                                    (Int.toNat r_2 + (0 : Nat)) (0 : Int)) =
                                                                Go.Lom.AV.int Go.IntKind.u8
                                                                  (List.getD
                                                                    (List.map (fun b => (↑(UInt8.toNat b) : Int)) s)
                                                                    (Int.toNat r_2 + (0 : Nat)) (0 : Int))) ∧
                                                            Go.Lom.req
                                                              (Go.Lom.inR Go.IntKind.i64
                                                                (List.getD (List.map (fun b => (↑(UInt8.toNat b) : Int)) s)
                                                                        (Int.toNat r_2 + (0 : Nat)) (0 : Int) -
                                                                      (48 : Int) +
                                                                    (1 : Int) +
                                                                  r_3))
                                                              (Go.Lom.req
                                                                (Go.Lom.inR Go.IntKind.i64
                                                                  ((48 : Int) +
                                                                    Int.tmod
                                                                      (List.getD
                                                                              (List.map (fun b => (↑(UInt8.toNat b) : Int))
                                                                                s)
                                                                              (Int.toNat r_2 + (0 : Nat)) (0 : Int) -
                                                                            (48 : Int) +
                                                                          (1 : Int) +
                                                                        r_3)
                                                                      (10 : Int)))
                                                                (Go.Lom.req
                                                                  (Go.Lom.inR Go.IntKind.u8
                                                                    ((48 : Int) +
                                                                      Int.tmod
                                                                        (List.getD
                                                                                (List.map
                                                                                  (fun b => (↑(UInt8.toNat b) : Int)) s)
                                                                                (Int.toNat r_2 + (0 : Nat)) (0 : Int) -
                                                                              (48 : Int) +
                                                                            (1 : Int) +
                                                                          r_3)
                                                                        (10 : Int)))
                                                                  (Go.Lom.req
                                                                    (Decidable.decide
                                                                      ((0 : Int) ≤ r_2 ∧ r_2 < (↑(List.length s) : Int)))
                                                                    (Go.Lom.req
                                                                      (Decidable.decide
                                                                        (Int.toNat r_2 + (0 : Nat) <
                                                                          List.length
                                                                            (List.map (fun b => (↑(UInt8.toNat b) : Int))
                                                                              s)))
                                                                      (Go.Lom.req
                                                                        (Decidable.decide
                                                                          ((0 : Nat) + List.length s ≤
                                                                            List.length
                                                                              (List.set
                                                                                (List.map
                                                                                  (fun b => (↑(UInt8.toNat b) : Int)) s)
                                                                                (Int.toNat r_2 + (0 : Nat))
                                                                                ((48 : Int) +
                                                                                  Int.tmod
                                                                                    (List.getD
                                                                                            (List.map
                                                                                              (fun b =>
                                                                                                (↑(UInt8.toNat b) : Int))
                                                                                              s)
                                                                                            (Int.toNat r_2 + (0 : Nat))
                                                                                            (0 : Int) -
                                                                                          (48 : Int) +
                                                                                        (1 : Int) +
                                                                                      r_3)
                                                                                    (10 : Int)))))
                                                                        (∀ (r_4 e : Int),
                                                                          (r_4, e) =
                                                                              Go.P3.numberI
                                                                                (List.map Go.Lom.byteI
                                                                                  (Go.Lom.seg (0 : Nat) (List.length s)
                                                                                    (List.set
                                                                                      (List.map
                                                                                        (fun b => (↑(UInt8.toNat b) : Int))
                                                                                        s)
                                                                                      (Int.toNat r_2 + (0 : Nat))
                                                                                      ((48 : Int) +
                                                                                        Int.tmod
                                                                                          (List.getD
                                                                                                  (List.map
                                                                                                    (fun b =>
                                                                                                      (↑(UInt8.toNat b) :
                                                                                                        Int))
                                                                                                    s)
                                                                                                  (Int.toNat r_2 +
                                                                                                    (0 : Nat))
                                                                                                  (0 : Int) -
                                                                                                (48 : Int) +
                                                                                              (1 : Int) +
                                                                                            r_3)
                                                                                          (10 : Int))))) →
                                                                            Go.Lom.fork (e != (30 : Int))
                                                                              (K (Bool.false, ()))
                                                                              (((0 : Go.Lom.AT.den (Go.Lom.AT.v Go.P3.I)) <
                                                                                    (9 : Int) ∧
                                                                                  (9 : Int) ≤
                                                                                    (99999999 :
                                                                                      Go.Lom.AT.den
                                                                                        (Go.Lom.AT.v Go.P3.I))) ∧
                                                                                ∀ (r_5 : Int),
                                                                                  (0 : Int) ≤ r_5 →
                                                                                    r_5 < (9 : Int) →
                                                                                      Go.Lom.req
                                                                                        (Go.Lom.inR Go.IntKind.i64
                                                                                          (r_5 + (1 : Int)))
                                                                                        (Go.Lom.req
                                                                                          (Go.Lom.inR Go.IntKind.i64
                                                                                            (r_5 + (1 : Int)))
                                                                                          (Go.Lom.req
                                                                                            (Decidable.decide
                                                                                              ((0 : Int) ≤ r_5 + (1 : Int) ∧
                                                                                                r_5 + (1 : Int) <
                                                                                                  (↑(List.length s) : Int)))
                                                                                            (Go.Lom.req
                                                                                              (Decidable.decide
                                                                                                (Int.toNat
                                                                                                      (r_5 + (1 : Int)) +
                                                                                                    (0 : Nat) <
                                                                                                  List.length
                                                                                                    (List.map
                                                                                                      (fun b =>
                                                                                                        (↑(UInt8.toNat b) :
                                                                                                          Int))
                                                                                                      s)))
                                                                                              (Go.Lom.req
                                                                                                (Decidable.decide
                                                                                                  ((0 : Int) ≤ r_5 ∧
                                                                                                    r_5 <
                                                                                                      (↑(List.length s) :
                                                                                                        Int)))
                                                                                                (Go.Lom.req
                                                                                                  (Decidable.decide
                                                                                                    (Int.toNat r_5 +
                                                                                                        (0 : Nat) <
                                                                                                      List.length
                                                                                                        (List.map
                                                                                                          (fun b =>
                                                                                                            (↑(UInt8.toNat
                                                                                                                  b) :
                                                                                                              Int))
                                                                                                          s)))
                                                                                                  (Go.Lom.req
                                                                                                    (Decidable.decide
                                                                                                      ((0 : Int) ≤ r_5 ∧
                                                                                                        r_5 <
                                                                                                          (↑(List.length
                                                                                                                s) :
                                                                                                            Int)))
                                                                                                    (Go.Lom.req
                                                                                                      (Decidable.decide
                                                                                                        (Int.toNat r_5 +
                                                                                                            (0 : Nat) <
                                                                                                          List.length
                                                                                                            (List.map
                                                                                                              (fun b =>
                                                                                                                (↑(UInt8.toNat
                                                                                                                      b) :
                                                                                                                  Int))
                                                                                                              s)))
                                                                                                      (Go.Lom.req
                                                                                                        (Decidable.decide
                                                                                                          ((0 : Int) ≤
                                                                                                              r_5 +
                                                                                                                (1 : Int) ∧
                                                                                                            r_5 +
                                                                                                                (1 : Int) <
                                                                                                              (↑(List.length
                                                                                                                    s) :
                                                                                                                Int)))
                                                                                                        (Go.Lom.req
                                                                                                          (Decidable.decide
                                                                                                            (Int.toNat
                                                                                                                  (r_5 +
                                                                                                                    (1 :
                                                                                                                      Int)) +
                                                                                                                (0 : Nat) <
                                                                                                              List.length
                                                                                                                (List.set
                                                                                                                  (List.map
                                                                                                                    (fun
                                                                                                                        b =>
                                                                                                                      (↑(UInt8.toNat
                                                                                                                            b) :
                                                                                                                        Int))
                                                                                                                    s)
                                                                                                                  (Int.toNat
                                                                                                                      r_5 +
                                                                                                                    (0 :
                                                                                                                      Nat))
                                                                                                                  (List.getD
                                                                                                                    (List.map
                                                                                                                      (fun
                                                                                                                          b =>
                                                                                                                        (↑(UInt8.toNat
                                                                                                                              b) :
                                                                                                                          Int))
                                                                                                                      s)
                                                                                                                    (Int.toNat
                                                                                                                        (r_5 +
                                                                                                                          (1 :
                                                                                                                            Int)) +
                                                                                                                      (0 :
                                                                                                                        Nat))
                                                                                                                    (0 :
                                                                                                                      Int)))))
                                                                                                          (Go.Lom.req
                                                                                                            (Decidable.decide
                                                                                                              ((0 : Nat) +
                                                                                                                  List.length
                                                                                                                    s ≤
                                                                                                                List.length
                                                                                                                  (List.set
                                                                                                                    (List.set
                                                                                                                      (List.map
                                                                                                                        (fun
                                                                                                                            b =>
                                                                                                                          (↑(UInt8.toNat
                                                                                                                                b) :
                                                                                                                            Int))
                                                                                                                        s)
                                                                                                                      (Int.toNat
                                                                                                                          r_5 +
                                                                                                                        (0 :
                                                                                                                          Nat))
                                                                                                                      (List.getD
                                                                                                                        (List.map
                                                                                                                          (fun
                                                                                                                              b =>
                                                                                                                            (↑(UInt8.toNat
                                                                                                                                  b) :
                                                                                                                              Int))
                                                                                                                          s)
                                                                                                                        (Int.toNat
                                                                                                                            (r_5 +
                                                                                                                              (1 :
                                                                                                                                Int)) +
                                                                                                                          (0 :
                                                                                                                            Nat))
                                                                                                                        (0 :
                                                                                                                          Int)))
                                                                                                                    (Int.toNat
                                                                                                                        (r_5 +
                                                                                                                          (1 :
                                                                                                                            Int)) +
                                                                                                                      (0 :
                                                                                                                        Nat))
                                                                                                                    (List.getD
                                                                                                                      (List.map
                                                                                                                        (fun
                                                                                                                            b =>
                                                                                                                          (↑(UInt8.toNat
                                                                                                                                b) :
                                                                                                                            Int))
                                                                                                                        s)
                                                                                                                      (Int.toNat
                                                                                                                          r_5 +
                                                                                                                        (0 :
                                                                                                                          Nat))
                                                                                                                      (0 :
                                                                                                                        Int)))))
                                                                                                            (∀
                                                                                                              (r_6 e : Int),
                                                                                                              (r_6, e) =
                                                                                                                  Go.P3.numberI
                                                                                                                    (List.map
                                                                                                                      Go.Lom.byteI
                                                                                                                      (Go.Lom.seg
                                                                                                                        (0 :
                                                                                                                          Nat)
                                                                                                                        (List.length
                                                                                                                          s)
                                                                                                                        (List.set
                                                                                                                          (List.set
                                                                                                                            (List.map
                                                                                                                              (fun
                                                                                                                                  b =>
                                                                                                                                (↑(UInt8.toNat
                                                                                                                                      b) :
                                                                                                                                  Int))
                                                                                                                              s)
                                                                                                                            (Int.toNat
                                                                                                                                r_5 +
                                                                                                                              (0 :
                                                                                                                                Nat))
                                                                                                                            (List.getD
                                                                                                                              (List.map
                                                                                                                                (fun
                                                                                                                                    b =>
                                                                                                                                  (↑(UInt8.toNat
                                                                                                                                        b) :
                                                                                                                                    Int))
                                                                                                                                s)
                                                                                                                              (Int.toNat
                                                                                                                                  (r_5 +
                                                                                                                                    (1 :
                                                                                                                                      Int)) +
                                                                                                                                (0 :
                                                                                                                                  Nat))
                                                                                                                              (0 :
                                                                                                                                Int)))
                                                                                                                          (Int.toNat
                                                                                                                              (r_5 +
                                                                                                                                (1 :
                                                                                                                                  Int)) +
                                                                                                                            (0 :
                                                                                                                              Nat))
                                                                                                                          (List.getD
                                                                                                                            (List.map
                                                                                                                              (fun
                                                                                                                                  b =>
                                                                                                                                (↑(UInt8.toNat
                                                                                                                                      b) :
                                                                                                                                  Int))
                                                                                                                              s)
                                                                                                                            (Int.toNat
                                                                                                                                r_5 +
                                                                                                                              (0 :
                                                                                                                                Nat))
                                                                                                                            (0 :
                                                                                                                              Int))))) →
                                                                                                                Go.Lom.req
                                                                                                                  (Decidable.decide
                                                                                                                    ((0 :
                                                                                                                          Int) ≤
                                                                                                                        r_5 ∧
                                                                                                                      r_5 <
                                                                                                                        (↑(List.length
                                                                                                                              s) :
                                                                                                                          Int)))
                                                                                                                  (Go.Lom.req
                                                                                                                    (Go.Lom.inR
                                                                                                                      Go.IntKind.i64
                                                                                                                      (r_5 +
                                                                                                                        (1 :
                                                                                                                          Int)))
                                                                                                                    (Go.Lom.req
                                                                                                                      (Decidable.decide
                                                                                                                        ((0 :
                                                                                                                              Int) ≤
                                                                                                                            r_5 +
                                                                                                                              (1 :
                                                                                                                                Int) ∧
                                                                                                                          r_5 +
                                                                                                                              (1 :
                                                                                                                                Int) <
                                                                                                                            (↑(List.length
                                                                                                                                  s) :
                                                                                                                              Int)))
                                                                                                                      (Go.Lom.fork
                                                                                                                        (!(e ==
                                                                                                                              (0 :
                                                                                                                                Int)) ==
                                                                                                                            ((↑(UInt8.toNat
                                                                                                                                    (List.getD
                                                                                                                                      s
                                                                                                                                      (Int.toNat
                                                                                                                                        r_5)
                                                                                                                                      (0 :
                                                                                                                                        UInt8))) :
                                                                                                                                Int) ==
                                                                                                                              (↑(UInt8.toNat
                                                                                                                                    (List.getD
                                                                                                                                      s
                                                                                                                                      (Int.toNat
                                                                                                                                        (r_5 +
                                                                                                                                          (1 :
                                                                                                                                            Int)))
                                                                                                                                      (0 :
                                                                                                                                        UInt8))) :
                                                                                                                                Int)))
                                                                                                                        (K
                                                                                                                          (Bool.false,
                                                                                                                            ()))
                                                                                                                        (Go.Lom.req
                                                                                                                          (Decidable.decide
                                                                                                                            ((0 :
                                                                                                                                  Nat) +
                                                                                                                                List.length
                                                                                                                                  s ≤
                                                                                                                              List.length
                                                                                                                                (List.map
                                                                                                                                  (fun
                                                                                                                                      b =>
                                                                                                                                    (↑(UInt8.toNat
                                                                                                                                          b) :
                                                                                                                                      Int))
                                                                                                                                  s)))
                                                                                                                          ((List.length
                                                                                                                                  (Go.Lom.seg
                                                                                                                                    (0 :
                                                                                                                                      Nat)
                                                                                                                                    (List.length
                                                                                                                                      s)
                                                                                                                                    (List.map
                                                                                                                                      (fun
                                                                                                                                          b =>
                                                                                                                                        (↑(UInt8.toNat
                                                                                                                                              b) :
                                                                                                                                          Int))
                                                                                                                                      s)) =
                                                                                                                                (10 :
                                                                                                                                  Nat) ∧
                                                                                                                              (0 :
                                                                                                                                    Int) ≤
                                                                                                                                  (0 :
                                                                                                                                    Int) ∧
                                                                                                                                (0 :
                                                                                                                                    Int) ≤
                                                                                                                                  (3 :
                                                                                                                                    Int)) ∧
                                                                                                                            Go.Lom.req
                                                                                                                              (Decidable.decide
                                                                                                                                ((0 :
                                                                                                                                      Nat) +
                                                                                                                                    List.length
                                                                                                                                      (Go.P3.markK
                                                                                                                                        (a0,
                                                                                                                                          a1,
                                                                                                                                          a2)
                                                                                                                                        (3 :
                                                                                                                                          Nat)
                                                                                                                                        (0 :
                                                                                                                                          Int)
                                                                                                                                        (Go.Lom.seg
                                                                                                                                          (0 :
                                                                                                                                            Nat)
                                                                                                                                          (List.length
                                                                                                                                            s)
                                                                                                                                          (List.map
                                                                                                                                            (fun
                                                                                                                                                b =>
                                                                                                                                              (↑(UInt8.toNat
                                                                                                                                                    b) :
                                                                                                                                                Int))
                                                                                                                                            s))) ≤
                                                                                                                                  List.length
                                                                                                                                    (Go.P3.markK
                                                                                                                                      (a0,
                                                                                                                                        a1,
                                                                                                                                        a2)
                                                                                                                                      (3 :
                                                                                                                                        Nat)
                                                                                                                                      (0 :
                                                                                                                                        Int)
                                                                                                                                      (Go.Lom.seg
                                                                                                                                        (0 :
                                                                                                                                          Nat)
                                                                                                                                        (List.length
                                                                                                                                          s)
                                                                                                                                        (List.map
                                                                                                                                          (fun
                                                                                                                                              b =>
                                                                                                                                            (↑(UInt8.toNat
                                                                                                                                                  b) :
                                                                                                                                              Int))
                                                                                                                                          s)))))
                                                                                                                              (∀
                                                                                                                                (l :
                                                                                                                                  List
                                                                                                                                    Int)
                                                                                                                                (e :
                                                                                                                                  Int),
                                                                                                                                (l,
                                                                                                                                      e) =
                                                                                                                                    Go.P3.readsI
                                                                                                                                      (List.map
                                                                                                                                        Go.Lom.byteI
                                                                                                                                        (Go.Lom.seg
                                                                                                                                          (0 :
                                                                                                                                            Nat)
                                                                                                                                          (List.length
                                                                                                                                            (Go.P3.markK
                                                                                                                                              (a0,
                                                                                                                                                a1,
                                                                                                                                                a2)
                                                                                                                                              (3 :
                                                                                                                                                Nat)
                                                                                                                                              (0 :
                                                                                                                                                Int)
                                                                                                                                              (Go.Lom.seg
                                                                                                                                                (0 :
                                                                                                                                                  Nat)
                                                                                                                                                (List.length
                                                                                                                                                  s)
                                                                                                                                                (List.map
                                                                                                                                                  (fun
                                                                                                                                                      b =>
                                                                                                                                                    (↑(UInt8.toNat
                                                                                                                                                          b) :
                                                                                                                                                      Int))
                                                                                                                                                  s))))
                                                                                                                                          (Go.P3.markK
                                                                                                                                            (a0,
                                                                                                                                              a1,
                                                                                                                                              a2)
                                                                                                                                            (3 :
                                                                                                                                              Nat)
                                                                                                                                            (0 :
                                                                                                                                              Int)
                                                                                                                                            (Go.Lom.seg
                                                                                                                                              (0 :
                                                                                                                                                Nat)
                                                                                                                                              (List.length
                                                                                                                                                s)
                                                                                                                                              (List.map
                                                                                                                                                (fun
                                                                                                                                                    b =>
                                                                                                                                                  (↑(UInt8.toNat
                                                                                                                                                        b) :
                                                                                                                                                    Int))
                                                                                                                                                s))))) →
                                                                                                                                  Go.Lom.fork
                                                                                                                                    (e !=
                                                                                                                                      (0 :
                                                                                                                                        Int))
                                                                                                                                    (K
                                                                                                                                      (Bool.false,
                                                                                                                                        ()))
                                                                                                                                    (List.length
                                                                                                                                          l ≤
                                                                                                                                        (100000 :
                                                                                                                                          Nat) ∧
                                                                                                                                      ∀
                                                                                                                                        (r_7 :
                                                                                                                                          Int),
                                                                                                                                        r_7 =
                                                                                                                                            Go.P3.seekI
                                                                                                                                              l
                                                                                                                                              ((1 :
                                                                                                                                                  Int) +
                                                                                                                                                r) →
                                                                                                                                          Go.Lom.fork
                                                                                                                                            (Decidable.decide
                                                                                                                                              (r_7 <
                                                                                                                                                (0 :
                                                                                                                                                  Int)))
                                                                                                                                            (K
                                                                                                                                              (Bool.false,
                                                                                                                                                ()))
                                                                                                                                            (Go.Lom.req
                                                                                                                                              (Decidable.decide
                                                                                                                                                ((0 :
                                                                                                                                                      Nat) +
                                                                                                                                                    List.length
                                                                                                                                                      (Go.P3.markK
                                                                                                                                                        (a0,
                                                                                                                                                          a1,
                                                                                                                                                          a2)
                                                                                                                                                        (3 :
                                                                                                                                                          Nat)
                                                                                                                                                        (0 :
                                                                                                                                                          Int)
                                                                                                                                                        (Go.Lom.seg
                                                                                                                                                          (0 :
                                                                                                                                                            Nat)
                                                                                                                                                          (List.length
                                                                                                                                                            s)
                                                                                                                                                          (List.map
                                                                                                                                                            (fun
                                                                                                                                                                b =>
                                                                                                                                                              (↑(UInt8.toNat
                                                                                                                                                                    b) :
                                                                                                                                                                Int))
                                                                                                                                                            s))) ≤
                                                                                                                                                  List.length
                                                                                                                                                    (Go.P3.markK
                                                                                                                                                      (a0,
                                                                                                                                                        a1,
                                                                                                                                                        a2)
                                                                                                                                                      (3 :
                                                                                                                                                        Nat)
                                                                                                                                                      (0 :
                                                                                                                                                        Int)
                                                                                                                                                      (Go.Lom.seg
                                                                                                                                                        (0 :
                                                                                                                                                          Nat)
                                                                                                                                                        (List.length
                                                                                                                                                          s)
                                                                                                                                                        (List.map
                                                                                                                                                          (fun
                                                                                                                                                              b =>
                                                                                                                                                            (↑(UInt8.toNat
                                                                                                                                                                  b) :
                                                                                                                                                              Int))
                                                                                                                                                          s)))))
                                                                                                                                              ((List.length
                                                                                                                                                      (Go.Lom.seg
                                                                                                                                                        (0 :
                                                                                                                                                          Nat)
                                                                                                                                                        (List.length
                                                                                                                                                          (Go.P3.markK
                                                                                                                                                            (a0,
                                                                                                                                                              a1,
                                                                                                                                                              a2)
                                                                                                                                                            (3 :
                                                                                                                                                              Nat)
                                                                                                                                                            (0 :
                                                                                                                                                              Int)
                                                                                                                                                            (Go.Lom.seg
                                                                                                                                                              (0 :
                                                                                                                                                                Nat)
                                                                                                                                                              (List.length
                                                                                                                                                                s)
                                                                                                                                                              (List.map
                                                                                                                                                                (fun
                                                                                                                                                                    b =>
                                                                                                                                                                  (↑(UInt8.toNat
                                                                                                                                                                        b) :
                                                                                                                                                                    Int))
                                                                                                                                                                s))))
                                                                                                                                                        (Go.P3.markK
                                                                                                                                                          (a0,
                                                                                                                                                            a1,
                                                                                                                                                            a2)
                                                                                                                                                          (3 :
                                                                                                                                                            Nat)
                                                                                                                                                          (0 :
                                                                                                                                                            Int)
                                                                                                                                                          (Go.Lom.seg
                                                                                                                                                            (0 :
                                                                                                                                                              Nat)
                                                                                                                                                            (List.length
                                                                                                                                                              s)
                                                                                                                                                            (List.map
                                                                                                                                                              (fun
                                                                                                                                                                  b =>
                                                                                                                                                                (↑(UInt8.toNat
                                                                                                                                                                      b) :
                                                                                                                                                                  Int))
                                                                                                                                                              s)))) =
                                                                                                                                                    (10 :
                                                                                                                                                      Nat) ∧
                                                                                                                                                  List.length
                                                                                                                                                        l ≤
                                                                                                                                                      (100000 :
                                                                                                                                                        Nat) ∧
                                                                                                                                                    (0 :
                                                                                                                                                          Int) ≤
                                                                                                                                                        (0 :
                                                                                                                                                          Int) ∧
                                                                                                                                                      (0 :
                                                                                                                                                            Int) ≤
                                                                                                                                                          (↑(List.length
                                                                                                                                                                l) :
                                                                                                                                                            Int) ∧
                                                                                                                                                        Go.P3.okE
                                                                                                                                                          (Go.Lom.seg
                                                                                                                                                            (0 :
                                                                                                                                                              Nat)
                                                                                                                                                            (List.length
                                                                                                                                                              (Go.P3.markK
                                                                                                                                                                (a0,
                                                                                                                                                                  a1,
                                                                                                                                                                  a2)
                                                                                                                                                                (3 :
                                                                                                                                                                  Nat)
                                                                                                                                                                (0 :
                                                                                                                                                                  Int)
                                                                                                                                                                (Go.Lom.seg
                                                                                                                                                                  (0 :
                                                                                                                                                                    Nat)
                                                                                                                                                                  (List.length
                                                                                                                                                                    s)
                                                                                                                                                                  (List.map
                                                                                                                                                                    (fun
                                                                                                                                                                        b =>
                                                                                                                                                                      (↑(UInt8.toNat
                                                                                                                                                                            b) :
                                                                                                                                                                        Int))
                                                                                                                                                                    s))))
                                                                                                                                                            (Go.P3.markK
                                                                                                                                                              (a0,
                                                                                                                                                                a1,
                                                                                                                                                                a2)
                                                                                                                                                              (3 :
                                                                                                                                                                Nat)
                                                                                                                                                              (0 :
                                                                                                                                                                Int)
                                                                                                                                                              (Go.Lom.seg
                                                                                                                                                                (0 :
                                                                                                                                                                  Nat)
                                                                                                                                                                (List.length
                                                                                                                                                                  s)
                                                                                                                                                                (List.map
                                                                                                                                                                  (fun
                                                                                                                                                                      b =>
                                                                                                                                                                    (↑(UInt8.toNat
                                                                                                                                                                          b) :
                                                                                                                                                                      Int))
                                                                                                                                                                  s))))
                                                                                                                                                          l) ∧
                                                                                                                                                K
                                                                                                                                                  (Bool.true,
                                                                                                                                                    ())))))))))))))))))))))))))))))))))))))) := by kernel_rfl
end Go.P3
