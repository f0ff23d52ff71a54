/- Tickets: codes by the reference: states and what is to be shown, reduced. No conditions. -/
import Derived.Test.YtcpdcpfbgmiaoaaDoorReadS
import Derived.Test.YtcpdcpfbgmiaoaaDoorFit2S
set_option linter.unusedSimpArgs false
set_option linter.unusedVariables false
set_option linter.constructorNameAsVariable false
set_option maxRecDepth 100000
set_option maxHeartbeats 2000000
namespace Go.P3
open Go.Lom Go.Proofs Go

/-! a number's text -/
def limT : Nat → Int
  | 0 => 0
  | 1 => 10
  | k + 2 => limT (k + 1) * 10
def textT : Nat → Int → List UInt8
  | 0, _ => []
  | k + 1, n => if n > 9 then textT k (n.tdiv 10) ++ [byteI (48 + n.tmod 10)] else [byteI (48 + n.tmod 10)]
abbrev fcT (m : Int) (F : Int → List UInt8) : FC := ⟨[.v I], [.s], fun x K => (0 ≤ x.1 ∧ x.1 < m) ∧ K (F x.1, ())⟩
theorem v99F (m m' : Int) (F F' : Int → List UInt8) (n : Int) (K : dens [.s] → Prop) : (xfn1 Tryd.prog { f := [(99, fcT m F)] } 5 99 (fcT m' F') (n, ()) K) =
  (Go.Lom.fork (Decidable.decide (n < (0 : Int)))
      (Go.Lom.req (Go.Lom.inR Go.IntKind.i64 (-n))
        (((0 : Go.Lom.AT.den (Go.Lom.AT.v Go.P3.I)) ≤ -n ∧ -n < m) ∧
          Go.Lom.req (Nat.ble ((1 : Nat) + List.length (F (-n))) (9223372036854775807 : Nat))
            (K (Array.toList (ByteArray.data { data := #[(45 : UInt8)] }) ++ F (-n), ()))))
      (Go.Lom.req (Go.Lom.inR Go.IntKind.i64 ((48 : Int) + Int.tmod n (10 : Int)))
        (Go.Lom.req (Go.Lom.inR Go.IntKind.u8 ((48 : Int) + Int.tmod n (10 : Int)))
          (Go.Lom.fork (Decidable.decide (n > (9 : Int)))
            (Go.Lom.req (Go.Lom.inR Go.IntKind.i64 (Int.tdiv n (10 : Int)))
              (((0 : Go.Lom.AT.den (Go.Lom.AT.v Go.P3.I)) ≤ Int.tdiv n (10 : Int) ∧ Int.tdiv n (10 : Int) < m) ∧
                Go.Lom.req
                  (Nat.ble
                    (List.length (F (Int.tdiv n (10 : Int))) +
                      List.length
                        (List.map Go.Lom.byteI (Go.Lom.seg (0 : Nat) (1 : Nat) [(48 : Int) + Int.tmod n (10 : Int)])))
                    (9223372036854775807 : Nat))
                  (K
                    (F (Int.tdiv n (10 : Int)) ++
                        List.map Go.Lom.byteI (Go.Lom.seg (0 : Nat) (1 : Nat) [(48 : Int) + Int.tmod n (10 : Int)]),
                      ()))))
            (K (List.map Go.Lom.byteI (Go.Lom.seg (0 : Nat) (1 : Nat) [(48 : Int) + Int.tmod n (10 : Int)]), ())))))) := by kernel_rfl
def padT (m : Int) (s : List UInt8) : List UInt8 := List.replicate (m - s.length).toNat 48 ++ s
abbrev sh84 : SV := S [(1, .v I), (5, .v .s)]
abbrev sh84e : SV := S [(5, .v .s)]
def s84 (m : Int) (s : List UInt8) (Q : LQ) : Prop := m ≤ 10 ∧ Q (.exit 0) (stS 0 sh84e (padT m s, ()))
abbrev lc84 : LC2 := ⟨0, sh84, 0, fun (m, s, _) Q => s84 m s Q⟩
theorem v84L (m : Int) (s : List UInt8) (Q : AX → St → Prop) : (xloop2 Tryd.prog {} 5 84 0 lc84 (ex1 sh84e) (fun (m, s, _) => (m - s.length).toNat) (m, s, ()) Q) =
  (Go.Lom.fork (Decidable.decide ((↑(List.length s) : Int) < m))
      (Go.Lom.req (Nat.ble ((1 : Nat) + List.length s) (9223372036854775807 : Nat))
        (Int.toNat
              (m -
                (↑(List.length (Array.toList (ByteArray.data { data := #[(48 : UInt8)] }) ++ s)) :
                  Go.Lom.SV.den (Go.Lom.SV.slot (1 : Nat) (Go.Lom.SV.v Go.P3.I)))) <
            Int.toNat (m - (↑(List.length s) : Go.Lom.SV.den (Go.Lom.SV.slot (1 : Nat) (Go.Lom.SV.v Go.P3.I)))) ∧
          Go.Lom.LC2.spec Go.P3.lc84 (m, Array.toList (ByteArray.data { data := #[(48 : UInt8)] }) ++ s, ()) Q))
      (Q (Go.Lom.AX.exit (0 : Nat)) (Go.Lom.stS (0 : Nat) Go.P3.sh84e (s, ())))) := by kernel_rfl
abbrev fcPad : FC := ⟨[.v I, .v I], [.s], fun x K => (0 ≤ x.1 ∧ x.1 ≤ 99999999 ∧ x.2.1 ≤ 10) ∧ K (padT x.2.1 (textT 8 x.1), ())⟩
theorem v84F (n m : Int) (K : dens [.s] → Prop) : (xfn1 Tryd.prog { f := [(99, fcT (limT 8) (textT 8))], l2 := [(84, 0, lc84)] } 5 84 fcPad (n, m, ()) K) =
  (((0 : Go.Lom.AT.den (Go.Lom.AT.v Go.P3.I)) ≤ n ∧ n < (100000000 : Int)) ∧
      m ≤ (10 : Int) ∧ K (Go.P3.padT m (Go.P3.textT (8 : Nat) n), ())) := by kernel_rfl
theorem v51F (n : Int) (K : dens [.s] → Prop) : (xfn1 Tryd.prog { f := [(84, fcPad)] } 5 51 fcCodeI (n, ()) K) =
  (((0 : Go.Lom.AT.den (Go.Lom.AT.v Go.P3.I)) ≤ n ∧
        n ≤ (99999999 : Go.Lom.AT.den (Go.Lom.AT.v Go.P3.I)) ∧ (8 : Int) ≤ (10 : Go.Lom.AT.den (Go.Lom.AT.v Go.P3.I))) ∧
      Go.Lom.req (Go.Lom.inR Go.IntKind.i64 ((100 : Int) * n))
        (Go.Lom.req (Go.Lom.inR Go.IntKind.i64 ((98 : Int) - Int.tmod ((100 : Int) * n) (97 : Int)))
          (((0 : Go.Lom.AT.den (Go.Lom.AT.v Go.P3.I)) ≤ (98 : Int) - Int.tmod ((100 : Int) * n) (97 : Int) ∧
              (98 : Int) - Int.tmod ((100 : Int) * n) (97 : Int) ≤ (99999999 : Go.Lom.AT.den (Go.Lom.AT.v Go.P3.I)) ∧
                (2 : Int) ≤ (10 : Go.Lom.AT.den (Go.Lom.AT.v Go.P3.I))) ∧
            Go.Lom.req
              (Nat.ble
                (List.length (Go.P3.padT (8 : Int) (Go.P3.textT (8 : Nat) n)) +
                  List.length
                    (Go.P3.padT (2 : Int) (Go.P3.textT (8 : Nat) ((98 : Int) - Int.tmod ((100 : Int) * n) (97 : Int)))))
                (9223372036854775807 : Nat))
              (K
                (Go.P3.padT (8 : Int) (Go.P3.textT (8 : Nat) n) ++
                    Go.P3.padT (2 : Int) (Go.P3.textT (8 : Nat) ((98 : Int) - Int.tmod ((100 : Int) * n) (97 : Int))),
                  ()))))) := by kernel_rfl
theorem v15F (n : Int) (K : dens [.s, I] → Prop) : (xfn1 Tryd.prog { f := [(51, fcCodeI), (28, fcFrom)] } 5 15 fcCode (n, ()) K) =
  (Go.Lom.fork (!Decidable.decide ((1 : Int) ≤ n ∧ n ≤ (99999999 : Int)))
      (K (Array.toList (ByteArray.data { data := #[] }), (7 : Int), ()))
      (((0 : Go.Lom.AT.den (Go.Lom.AT.v Go.P3.I)) ≤ n ∧ n ≤ (99999999 : Go.Lom.AT.den (Go.Lom.AT.v Go.P3.I))) ∧
        K (Go.P3.codeS n, (0 : Int), ()))) := by kernel_rfl
/-! the number of a code -/
abbrev sh17 : SV := S [(0, .v .s), (4, .v I), (5, .v I)]
abbrev sh17e : SV := S [(0, .v .s), (4, .v I)]
def ex17 : Ex2
  | .ret => some (shR2, 0)
  | _ => some (sh17e, 0)
def s17 (s : List UInt8) (n i : Int) (Q : LQ) : Prop := (s.length = 10 ∧ 0 ≤ i ∧ i ≤ 10 ∧ 0 ≤ n ∧ n < 10 ^ (min i 8).toNat) ∧
  ((numK s (10 - i).toNat i n = none → Q .ret (stS 0 shR2 (0, 5, ()))) ∧ (∀ r, numK s (10 - i).toNat i n = some r → 0 ≤ r → r ≤ 99999999 → Q (.exit 0) (stS 0 sh17e (s, r, ()))))
abbrev lc17 : LC2 := ⟨0, sh17, 0, fun (s, n, i, _) Q => s17 s n i Q⟩
theorem v17L (s : List UInt8) (n i : Int) (Q : AX → St → Prop) : (xloop2 Tryd.prog { f := [(28, fcFrom)] } 5 17 0 lc17 ex17 (fun (_, _, i, _) => (10 - i).toNat) (s, n, i, ()) Q) =
  (Go.Lom.fork (Decidable.decide (i < (10 : Int)))
      (Go.Lom.req (Decidable.decide ((0 : Int) ≤ i ∧ i < (↑(List.length s) : Int)))
        (Go.Lom.req (Go.Lom.inR Go.IntKind.i64 (↑(UInt8.toNat (List.getD s (Int.toNat i) (0 : UInt8))) : Int))
          (Go.Lom.req
            (Go.Lom.inR Go.IntKind.i64 ((↑(UInt8.toNat (List.getD s (Int.toNat i) (0 : UInt8))) : Int) - (48 : Int)))
            (Go.Lom.fork
              (!Decidable.decide
                  ((0 : Int) ≤ (↑(UInt8.toNat (List.getD s (Int.toNat i) (0 : UInt8))) : Int) - (48 : Int) ∧
                    (↑(UInt8.toNat (List.getD s (Int.toNat i) (0 : UInt8))) : Int) - (48 : Int) ≤ (9 : Int)))
              (Q Go.Lom.AX.ret (Go.Lom.stS (0 : Nat) Go.P3.shR2 ((0 : Int), (5 : Int), ())))
              (Go.Lom.fork (Decidable.decide (i < (8 : Int)))
                (Go.Lom.req (Go.Lom.inR Go.IntKind.i64 ((10 : Int) * n))
                  (Go.Lom.req
                    (Go.Lom.inR Go.IntKind.i64
                      ((10 : Int) * n + ((↑(UInt8.toNat (List.getD s (Int.toNat i) (0 : UInt8))) : Int) - (48 : Int))))
                    (Go.Lom.req (Go.Lom.inR Go.IntKind.i64 (i + (1 : Int)))
                      (Int.toNat ((10 : Go.Lom.SV.den (Go.Lom.SV.slot (5 : Nat) (Go.Lom.SV.v Go.P3.I))) - (i + (1 : Int))) <
                          Int.toNat ((10 : Go.Lom.SV.den (Go.Lom.SV.slot (5 : Nat) (Go.Lom.SV.v Go.P3.I))) - i) ∧
                        Go.Lom.LC2.spec Go.P3.lc17
                          (s,
                            (10 : Int) * n + ((↑(UInt8.toNat (List.getD s (Int.toNat i) (0 : UInt8))) : Int) - (48 : Int)),
                            i + (1 : Int), ())
                          Q))))
                (Go.Lom.req (Go.Lom.inR Go.IntKind.i64 (i + (1 : Int)))
                  (Int.toNat ((10 : Go.Lom.SV.den (Go.Lom.SV.slot (5 : Nat) (Go.Lom.SV.v Go.P3.I))) - (i + (1 : Int))) <
                      Int.toNat ((10 : Go.Lom.SV.den (Go.Lom.SV.slot (5 : Nat) (Go.Lom.SV.v Go.P3.I))) - i) ∧
                    Go.Lom.LC2.spec Go.P3.lc17 (s, n, i + (1 : Int), ()) Q)))))))
      (Q (Go.Lom.AX.exit (0 : Nat)) (Go.Lom.stS (0 : Nat) Go.P3.sh17e (s, n, ())))) := by kernel_rfl
theorem v17F (s : List UInt8) (K : dens [I, I] → Prop) : (xfn1 Tryd.prog { f := [(51, fcCodeI)], l2 := [(17, 0, lc17)] } 5 17 fcNumber (s, ()) K) =
  (Go.Lom.fork ((↑(List.length s) : Int) != (10 : Int)) (K ((0 : Int), (5 : Int), ()))
      ((List.length s = (10 : Nat) ∧
          (0 : Int) ≤ (0 : Int) ∧ (0 : Int) ≤ (10 : Int) ∧ (0 : Int) ≤ (0 : Int) ∧ (0 : Int) < (1 : Int)) ∧
        (Go.P3.numK s (10 : Nat) (0 : Int) (0 : Int) = Option.none →
            K
              ((0 : Go.Lom.SV.den (Go.Lom.SV.slot (2 : Nat) (Go.Lom.SV.v Go.P3.I))),
                (5 : Go.Lom.SV.den (Go.Lom.SV.slot (3 : Nat) (Go.Lom.SV.v Go.P3.I))), ())) ∧
          ∀ (r : Int),
            Go.P3.numK s (10 : Nat) (0 : Int) (0 : Int) = Option.some r →
              (0 : Int) ≤ r →
                r ≤ (99999999 : Int) →
                  Go.Lom.fork (Decidable.decide (r < (1 : Int))) (K ((0 : Int), (30 : Int), ()))
                    (((0 : Go.Lom.AT.den (Go.Lom.AT.v Go.P3.I)) ≤ r ∧
                        r ≤ (99999999 : Go.Lom.AT.den (Go.Lom.AT.v Go.P3.I))) ∧
                      Go.Lom.fork (!Go.P3.codeS r == s) (K ((0 : Int), (30 : Int), ())) (K (r, (0 : Int), ()))))) := by kernel_rfl
/-! what can be read of a code -/
def cntK (s : List UInt8) : Nat → Int → Int → Option Int
  | 0, _, c => some c
  | k + 1, i, c => if cI s i = 63 then cntK s k (i + 1) (c + 1) else if cI s i < 48 ∨ cI s i > 57 then none else cntK s k (i + 1) c
abbrev sh19a : SV := S [(0, .v .s), (4, .v I), (5, .v I)]
abbrev sh19ae : SV := S [(0, .v .s), (4, .v I)]
def ex19a : Ex2
  | .ret => some (shR3, 0)
  | _ => some (sh19ae, 0)
def s19a (s : List UInt8) (c i : Int) (Q : LQ) : Prop := ((s.length : Int) ≤ 9223372036854775807 ∧ 0 ≤ i ∧ i ≤ s.length ∧ 0 ≤ c ∧ c ≤ i) ∧
  ((cntK s (s.length - i.toNat) i c = none → Q .ret (stS 0 shR3 ([], 5, ()))) ∧ (∀ r, cntK s (s.length - i.toNat) i c = some r → Q (.exit 0) (stS 0 sh19ae (s, r, ()))))
abbrev lc19a : LC2 := ⟨0, sh19a, 0, fun (s, c, i, _) Q => s19a s c i Q⟩
theorem v19A (s : List UInt8) (c i : Int) (Q : AX → St → Prop) : (xloop2 Tryd.prog {} 5 19 0 lc19a ex19a (fun (s, _, i, _) => s.length - i.toNat) (s, c, i, ()) Q) =
  (Go.Lom.fork (Decidable.decide (i < (↑(List.length s) : Int)))
      (Go.Lom.req (Decidable.decide ((0 : Int) ≤ i ∧ i < (↑(List.length s) : Int)))
        (Go.Lom.fork ((↑(UInt8.toNat (List.getD s (Int.toNat i) (0 : UInt8))) : Int) == (63 : Int))
          (Go.Lom.req (Go.Lom.inR Go.IntKind.i64 (c + (1 : Int)))
            (Go.Lom.req (Go.Lom.inR Go.IntKind.i64 (i + (1 : Int)))
              (List.length s - Int.toNat (i + (1 : Int)) < List.length s - Int.toNat i ∧
                Go.Lom.LC2.spec Go.P3.lc19a (s, c + (1 : Int), i + (1 : Int), ()) Q)))
          (Go.Lom.req (Decidable.decide ((0 : Int) ≤ i ∧ i < (↑(List.length s) : Int)))
            (Go.Lom.fork (Decidable.decide ((↑(UInt8.toNat (List.getD s (Int.toNat i) (0 : UInt8))) : Int) < (48 : Int)))
              (Q Go.Lom.AX.ret (Go.Lom.stS (0 : Nat) Go.P3.shR3 ([], (5 : Int), ())))
              (Go.Lom.req (Decidable.decide ((0 : Int) ≤ i ∧ i < (↑(List.length s) : Int)))
                (Go.Lom.fork
                  (Decidable.decide ((↑(UInt8.toNat (List.getD s (Int.toNat i) (0 : UInt8))) : Int) > (57 : Int)))
                  (Q Go.Lom.AX.ret (Go.Lom.stS (0 : Nat) Go.P3.shR3 ([], (5 : Int), ())))
                  (Go.Lom.req (Go.Lom.inR Go.IntKind.i64 (i + (1 : Int)))
                    (List.length s - Int.toNat (i + (1 : Int)) < List.length s - Int.toNat i ∧
                      Go.Lom.LC2.spec Go.P3.lc19a (s, c, i + (1 : Int), ()) Q))))))))
      (Q (Go.Lom.AX.exit (0 : Nat)) (Go.Lom.stS (0 : Nat) Go.P3.sh19ae (s, c, ())))) := by kernel_rfl
abbrev sh19b : SV := S [(0, .v .s), (4, .v I), (6, .own 0 I), (7, .v I), (8, .v I)]
abbrev sh19be : SV := S [(0, .v .s), (6, .own 0 I), (7, .v I)]
def s19b (s : List UInt8) (c : Int) (o : List Int) (t i : Int) (Q : LQ) : Prop := (c ≤ 3 ∧ 0 ≤ i ∧ i ≤ c ∧ t = tenK i.toNat) ∧ Q (.exit 2) (stS 1 sh19be (s, o, tenK c.toNat, ()))
abbrev lc19b : LC2 := ⟨0, sh19b, 1, fun (s, c, o, t, i, _) Q => s19b s c o t i Q⟩
theorem v19B (s : List UInt8) (c : Int) (o : List Int) (t i : Int) (Q : AX → St → Prop) : (xloop2 Tryd.prog {} 5 19 1 lc19b (fun _ => some (sh19be, 1)) (fun (_, c, _, _, i, _) => (c - i).toNat) (s, c, o, t, i, ()) Q) =
  (Go.Lom.fork (Decidable.decide (i < c))
      (Go.Lom.req (Go.Lom.inR Go.IntKind.i64 ((10 : Int) * t))
        (Go.Lom.req (Go.Lom.inR Go.IntKind.i64 (i + (1 : Int)))
          (Go.Lom.req (Decidable.decide ((0 : Nat) + List.length o ≤ List.length o))
            (Int.toNat (c - (i + (1 : Int))) < Int.toNat (c - i) ∧
              Go.Lom.LC2.spec Go.P3.lc19b (s, c, Go.Lom.seg (0 : Nat) (List.length o) o, (10 : Int) * t, i + (1 : Int), ())
                Q))))
      (Go.Lom.req (Decidable.decide ((0 : Nat) + List.length o ≤ List.length o))
        (Q (Go.Lom.AX.exit (2 : Nat))
          (Go.Lom.stS (1 : Nat) Go.P3.sh19be (s, Go.Lom.seg (0 : Nat) (List.length o) o, t, ()))))) := by kernel_rfl
/-- The digits of a number in the places of what cannot be read, from the end on. -/
def backK : Nat → Int → Int → List Int → List Int
  | 0, _, _, w => w
  | k + 1, i, n, w => if w.getD i.toNat 0 = 63 then backK k (i - 1) (n.tdiv 10) (w.set i.toNat (48 + n.tmod 10)) else backK k (i - 1) n w
abbrev sh19d : SV := S [(0, .v .s), (7, .v I), (6, .own 1 I), (9, .v I), (10, .own 2 B8), (11, .v I), (12, .v I)]
abbrev sh19de : SV := S [(0, .v .s), (7, .v I), (6, .own 1 I), (9, .v I), (10, .own 2 B8)]
def s19d (s : List UInt8) (t : Int) (o : List Int) (x : Int) (w : List Int) (n i : Int) (Q : LQ) : Prop := (w.length = 10 ∧ -1 ≤ i ∧ i ≤ 9 ∧ 0 ≤ n ∧ n ≤ 1000) ∧
  Q (.exit 6) (stS 3 sh19de (s, t, o, x, backK (i + 1).toNat i n w, ()))
abbrev lc19d : LC2 := ⟨0, sh19d, 3, fun (s, t, o, x, w, n, i, _) Q => s19d s t o x w n i Q⟩
theorem v19D (s : List UInt8) (t : Int) (o : List Int) (x : Int) (w : List Int) (n i : Int) (Q : AX → St → Prop) : (xloop2 Tryd.prog {} 5 19 3 lc19d (fun _ => some (sh19de, 3)) (fun (_, _, _, _, _, _, i, _) => (i + 1).toNat) (s, t, o, x, w, n, i, ()) Q) =
  (Go.Lom.fork (Decidable.decide (i ≥ (0 : Int)))
      (Go.Lom.req (Decidable.decide ((0 : Int) ≤ i ∧ i < (↑(List.length w) : Int)))
        (Go.Lom.req (Decidable.decide (Int.toNat i + (0 : Nat) < List.length w))
          (Go.Lom.fork (List.getD w (Int.toNat i + (0 : Nat)) (0 : Int) == (63 : Int))
            (Go.Lom.req (Go.Lom.inR Go.IntKind.i64 ((48 : Int) + Int.tmod n (10 : Int)))
              (Go.Lom.req (Go.Lom.inR Go.IntKind.u8 ((48 : Int) + Int.tmod n (10 : Int)))
                (Go.Lom.req (Decidable.decide ((0 : Int) ≤ i ∧ i < (↑(List.length w) : Int)))
                  (Go.Lom.req (Decidable.decide (Int.toNat i + (0 : Nat) < List.length w))
                    (Go.Lom.req (Go.Lom.inR Go.IntKind.i64 (Int.tdiv n (10 : Int)))
                      (Go.Lom.req (Go.Lom.inR Go.IntKind.i64 (i - (1 : Int)))
                        (Go.Lom.req (Decidable.decide ((0 : Nat) + List.length o ≤ List.length o))
                          (Go.Lom.req
                            (Decidable.decide
                              ((0 : Nat) + List.length w ≤
                                List.length (List.set w (Int.toNat i + (0 : Nat)) ((48 : Int) + Int.tmod n (10 : Int)))))
                            (Int.toNat
                                  (i - (1 : Int) + (1 : Go.Lom.SV.den (Go.Lom.SV.slot (12 : Nat) (Go.Lom.SV.v Go.P3.I)))) <
                                Int.toNat (i + (1 : Go.Lom.SV.den (Go.Lom.SV.slot (12 : Nat) (Go.Lom.SV.v Go.P3.I)))) ∧
                              Go.Lom.LC2.spec Go.P3.lc19d
                                (s, t, Go.Lom.seg (0 : Nat) (List.length o) o, x,
                                  Go.Lom.seg (0 : Nat) (List.length w)
                                    (List.set w (Int.toNat i + (0 : Nat)) ((48 : Int) + Int.tmod n (10 : Int))),
                                  Int.tdiv n (10 : Int), i - (1 : Int), ())
                                Q)))))))))
            (Go.Lom.req (Go.Lom.inR Go.IntKind.i64 (i - (1 : Int)))
              (Go.Lom.req (Decidable.decide ((0 : Nat) + List.length o ≤ List.length o))
                (Go.Lom.req (Decidable.decide ((0 : Nat) + List.length w ≤ List.length w))
                  (Int.toNat (i - (1 : Int) + (1 : Go.Lom.SV.den (Go.Lom.SV.slot (12 : Nat) (Go.Lom.SV.v Go.P3.I)))) <
                      Int.toNat (i + (1 : Go.Lom.SV.den (Go.Lom.SV.slot (12 : Nat) (Go.Lom.SV.v Go.P3.I)))) ∧
                    Go.Lom.LC2.spec Go.P3.lc19d
                      (s, t, Go.Lom.seg (0 : Nat) (List.length o) o, x, Go.Lom.seg (0 : Nat) (List.length w) w, n,
                        i - (1 : Int), ())
                      Q)))))))
      (Go.Lom.req (Decidable.decide ((0 : Nat) + List.length o ≤ List.length o))
        (Go.Lom.req (Decidable.decide ((0 : Nat) + List.length w ≤ List.length w))
          (Q (Go.Lom.AX.exit (6 : Nat))
            (Go.Lom.stS (3 : Nat) Go.P3.sh19de
              (s, t, Go.Lom.seg (0 : Nat) (List.length o) o, x, Go.Lom.seg (0 : Nat) (List.length w) w, ())))))) := by kernel_rfl
def backS (s : List UInt8) (x : Int) : List UInt8 := (backK 10 9 x (byI s)).map byteI
def rbackK (s : List UInt8) : Nat → Int → List Int → List Int
  | 0, _, o => o
  | k + 1, x, o => rbackK s k (x + 1) (if (numberI (backS s x)).2 = 0 then o ++ [(numberI (backS s x)).1] else o)
abbrev sh19c : SV := S [(0, .v .s), (7, .v I), (6, .own 1 I), (9, .v I)]
abbrev sh19ce : SV := S [(6, .own 0 I)]
def s19c (s : List UInt8) (t : Int) (o : List Int) (x : Int) (Q : LQ) : Prop := (s.length = 10 ∧ t ≤ 1000 ∧ 0 ≤ x ∧ x ≤ t ∧ (o.length : Int) ≤ x) ∧
  Q (.exit 4) (stS 1 sh19ce (rbackK s (t - x).toNat x o, ()))
abbrev lc19c : LC2 := ⟨0, sh19c, 2, fun (s, t, o, x, _) Q => s19c s t o x Q⟩
theorem v19C (s : List UInt8) (t : Int) (o : List Int) (x : Int) (Q : AX → St → Prop) : (xloop2 Tryd.prog { f := [(17, fcNumber)], l2 := [(19, 3, lc19d)] } 5 19 2 lc19c (fun _ => some (sh19ce, 1)) (fun (_, t, _, x, _) => (t - x).toNat) (s, t, o, x, ()) Q) =
  (Go.Lom.fork (Decidable.decide (x < t))
      (Go.Lom.req (Decidable.decide ((0 : Nat) + List.length o ≤ List.length o))
        (Go.Lom.req
          (Decidable.decide ((0 : Nat) + List.length s ≤ List.length (List.map (fun b => (↑(UInt8.toNat b) : Int)) s)))
          ((List.length (Go.Lom.seg (0 : Nat) (List.length s) (List.map (fun b => (↑(UInt8.toNat b) : Int)) s)) =
                (10 : Nat) ∧
              (-1 : Int) ≤ (9 : Int) ∧ (9 : Int) ≤ (9 : Int) ∧ (0 : Int) ≤ x ∧ x ≤ (1000 : Int)) ∧
            Go.Lom.req
              (Decidable.decide
                ((0 : Nat) +
                    List.length
                      (Go.P3.backK (10 : Nat) (9 : Int) x
                        (Go.Lom.seg (0 : Nat) (List.length s) (List.map (fun b => (↑(UInt8.toNat b) : Int)) s))) ≤
                  List.length
                    (Go.P3.backK (10 : Nat) (9 : Int) x
                      (Go.Lom.seg (0 : Nat) (List.length s) (List.map (fun b => (↑(UInt8.toNat b) : Int)) s)))))
              (Go.Lom.fork
                (Prod.snd
                    (Go.P3.numberI
                      (List.map Go.Lom.byteI
                        (Go.Lom.seg (0 : Nat)
                          (List.length
                            (Go.P3.backK (10 : Nat) (9 : Int) x
                              (Go.Lom.seg (0 : Nat) (List.length s) (List.map (fun b => (↑(UInt8.toNat b) : Int)) s))))
                          (Go.P3.backK (10 : Nat) (9 : Int) x
                            (Go.Lom.seg (0 : Nat) (List.length s) (List.map (fun b => (↑(UInt8.toNat b) : Int)) s)))))) ==
                  (0 : Int))
                (Go.Lom.req
                  (Decidable.decide
                    ((0 : Nat) + List.length (Go.Lom.seg (0 : Nat) (List.length o) o) ≤
                      List.length (Go.Lom.seg (0 : Nat) (List.length o) o)))
                  (Go.Lom.req
                    (Go.Lom.fitsN
                      (List.length (Go.Lom.seg (0 : Nat) (List.length o) o) +
                        List.length
                          (Go.Lom.seg (0 : Nat) (1 : Nat)
                            [Prod.fst
                                (Go.P3.numberI
                                  (List.map Go.Lom.byteI
                                    (Go.Lom.seg (0 : Nat)
                                      (List.length
                                        (Go.P3.backK (10 : Nat) (9 : Int) x
                                          (Go.Lom.seg (0 : Nat) (List.length s)
                                            (List.map (fun b => (↑(UInt8.toNat b) : Int)) s))))
                                      (Go.P3.backK (10 : Nat) (9 : Int) x
                                        (Go.Lom.seg (0 : Nat) (List.length s)
                                          (List.map (fun b => (↑(UInt8.toNat b) : Int)) s))))))]))
                      (8 : Nat))
                    (Go.Lom.req (Go.Lom.inR Go.IntKind.i64 (x + (1 : Int)))
                      (Go.Lom.req
                        (Decidable.decide
                          ((0 : Nat) +
                              (List.length (Go.Lom.seg (0 : Nat) (List.length o) o) +
                                List.length
                                  (Go.Lom.seg (0 : Nat) (1 : Nat)
                                    [Prod.fst
                                        (Go.P3.numberI
                                          (List.map Go.Lom.byteI
                                            (Go.Lom.seg (0 : Nat)
                                              (List.length
                                                (Go.P3.backK (10 : Nat) (9 : Int) x
                                                  (Go.Lom.seg (0 : Nat) (List.length s)
                                                    (List.map (fun b => (↑(UInt8.toNat b) : Int)) s))))
                                              (Go.P3.backK (10 : Nat) (9 : Int) x
                                                (Go.Lom.seg (0 : Nat) (List.length s)
                                                  (List.map (fun b => (↑(UInt8.toNat b) : Int)) s))))))])) ≤
                            List.length
                              (Go.Lom.seg (0 : Nat) (List.length (Go.Lom.seg (0 : Nat) (List.length o) o))
                                  (Go.Lom.seg (0 : Nat) (List.length o) o) ++
                                Go.Lom.seg (0 : Nat) (1 : Nat)
                                  [Prod.fst
                                      (Go.P3.numberI
                                        (List.map Go.Lom.byteI
                                          (Go.Lom.seg (0 : Nat)
                                            (List.length
                                              (Go.P3.backK (10 : Nat) (9 : Int) x
                                                (Go.Lom.seg (0 : Nat) (List.length s)
                                                  (List.map (fun b => (↑(UInt8.toNat b) : Int)) s))))
                                            (Go.P3.backK (10 : Nat) (9 : Int) x
                                              (Go.Lom.seg (0 : Nat) (List.length s)
                                                (List.map (fun b => (↑(UInt8.toNat b) : Int)) s))))))])))
                        (Int.toNat (t - (x + (1 : Int))) < Int.toNat (t - x) ∧
                          Go.Lom.LC2.spec Go.P3.lc19c
                            (s, t,
                              Go.Lom.seg (0 : Nat)
                                (List.length (Go.Lom.seg (0 : Nat) (List.length o) o) +
                                  List.length
                                    (Go.Lom.seg (0 : Nat) (1 : Nat)
                                      [Prod.fst
                                          (Go.P3.numberI
                                            (List.map Go.Lom.byteI
                                              (Go.Lom.seg (0 : Nat)
                                                (List.length
                                                  (Go.P3.backK (10 : Nat) (9 : Int) x
                                                    (Go.Lom.seg (0 : Nat) (List.length s)
                                                      (List.map (fun b => (↑(UInt8.toNat b) : Int)) s))))
                                                (Go.P3.backK (10 : Nat) (9 : Int) x
                                                  (Go.Lom.seg (0 : Nat) (List.length s)
                                                    (List.map (fun b => (↑(UInt8.toNat b) : Int)) s))))))]))
                                (Go.Lom.seg (0 : Nat) (List.length (Go.Lom.seg (0 : Nat) (List.length o) o))
                                    (Go.Lom.seg (0 : Nat) (List.length o) o) ++
                                  Go.Lom.seg (0 : Nat) (1 : Nat)
                                    [Prod.fst
                                        (Go.P3.numberI
                                          (List.map Go.Lom.byteI
                                            (Go.Lom.seg (0 : Nat)
                                              (List.length
                                                (Go.P3.backK (10 : Nat) (9 : Int) x
                                                  (Go.Lom.seg (0 : Nat) (List.length s)
                                                    (List.map (fun b => (↑(UInt8.toNat b) : Int)) s))))
                                              (Go.P3.backK (10 : Nat) (9 : Int) x
                                                (Go.Lom.seg (0 : Nat) (List.length s)
                                                  (List.map (fun b => (↑(UInt8.toNat b) : Int)) s))))))]),
                              x + (1 : Int), ())
                            Q)))))
                (Go.Lom.req (Go.Lom.inR Go.IntKind.i64 (x + (1 : Int)))
                  (Go.Lom.req
                    (Decidable.decide
                      ((0 : Nat) + List.length (Go.Lom.seg (0 : Nat) (List.length o) o) ≤
                        List.length (Go.Lom.seg (0 : Nat) (List.length o) o)))
                    (Int.toNat (t - (x + (1 : Int))) < Int.toNat (t - x) ∧
                      Go.Lom.LC2.spec Go.P3.lc19c
                        (s, t,
                          Go.Lom.seg (0 : Nat) (List.length (Go.Lom.seg (0 : Nat) (List.length o) o))
                            (Go.Lom.seg (0 : Nat) (List.length o) o),
                          x + (1 : Int), ())
                        Q)))))))
      (Go.Lom.req (Decidable.decide ((0 : Nat) + List.length o ≤ List.length o))
        (Q (Go.Lom.AX.exit (4 : Nat)) (Go.Lom.stS (1 : Nat) Go.P3.sh19ce (Go.Lom.seg (0 : Nat) (List.length o) o, ()))))) := by kernel_rfl
abbrev fcReadsB : FC := ⟨[.v .s], [L, I], fun x K => (x.1.length : Int) ≤ 9223372036854775807 ∧ K ((readsI x.1).1, (readsI x.1).2, ())⟩
theorem v19F (s : List UInt8) (K : dens [L, I] → Prop) : (xfn1 Tryd.prog { l2 := [(19, 0, lc19a), (19, 1, lc19b), (19, 2, lc19c)] } 5 19 fcReadsB (s, ()) K) =
  (((↑(List.length s) : Int) ≤ (9223372036854775807 : Int) ∧
        (0 : Int) ≤ (0 : Int) ∧ (0 : Int) ≤ (↑(List.length s) : Int) ∧ (0 : Int) ≤ (0 : Int) ∧ (0 : Int) ≤ (0 : Int)) ∧
      (Go.P3.cntK s (List.length s - (0 : Nat)) (0 : Int) (0 : Int) = Option.none →
          K ([], (5 : Go.Lom.SV.den (Go.Lom.SV.slot (3 : Nat) (Go.Lom.SV.v Go.P3.I))), ())) ∧
        ∀ (r : Int),
          Go.P3.cntK s (List.length s - (0 : Nat)) (0 : Int) (0 : Int) = Option.some r →
            Go.Lom.fork ((↑(List.length s) : Int) != (10 : Int)) (K ([], (5 : Int), ()))
              (Go.Lom.fork (Decidable.decide (r > (3 : Int))) (K ([], (5 : Int), ()))
                ((r ≤ (3 : Int) ∧ (0 : Int) ≤ (0 : Int) ∧ (0 : Int) ≤ r ∧ (1 : Int) = (1 : Int)) ∧
                  (List.length s = (10 : Nat) ∧
                      Go.P3.tenK (Int.toNat r) ≤ (1000 : Int) ∧
                        (0 : Int) ≤ (0 : Int) ∧ (0 : Int) ≤ Go.P3.tenK (Int.toNat r) ∧ (0 : Int) ≤ (0 : Int)) ∧
                    Go.Lom.req
                      (Decidable.decide
                        ((0 : Nat) +
                            List.length
                              (Go.P3.rbackK s (Int.toNat (Go.P3.tenK (Int.toNat r) - (0 : Int))) (0 : Int)
                                (Go.Lom.seg (0 : Nat) (0 : Nat) [])) ≤
                          List.length
                            (Go.P3.rbackK s (Int.toNat (Go.P3.tenK (Int.toNat r) - (0 : Int))) (0 : Int)
                              (Go.Lom.seg (0 : Nat) (0 : Nat) []))))
                      (K
                        (Go.Lom.seg (0 : Nat)
                            (List.length
                              (Go.P3.rbackK s (Int.toNat (Go.P3.tenK (Int.toNat r) - (0 : Int))) (0 : Int)
                                (Go.Lom.seg (0 : Nat) (0 : Nat) [])))
                            (Go.P3.rbackK s (Int.toNat (Go.P3.tenK (Int.toNat r) - (0 : Int))) (0 : Int)
                              (Go.Lom.seg (0 : Nat) (0 : Nat) [])),
                          (0 : Int), ()))))) := by kernel_rfl
/-! the law -/
def eqK (a b : List Int) : Nat → Int → Bool → Bool
  | 0, _, r => r
  | k + 1, i, r => if r = true then eqK a b k (i + 1) (a.getD i.toNat 0 == b.getD i.toNat 0) else r
abbrev sh20 : SV := S [(0, .v L), (1, .v L), (5, .v .b), (6, .v I)]
abbrev sh20e : SV := S [(5, .v .b)]
def s20 (a b : List Int) (r : Bool) (i : Int) (Q : LQ) : Prop := (a.length ≤ 100000 ∧ (r = true → a.length = b.length) ∧ 0 ≤ i ∧ i ≤ a.length) ∧ Q (.exit 0) (stS 0 sh20e (eqK a b (a.length - i.toNat) i r, ()))
abbrev lc20 : LC2 := ⟨0, sh20, 0, fun (a, b, r, i, _) Q => s20 a b r i Q⟩
theorem v20L (a b : List Int) (r : Bool) (i : Int) (Q : AX → St → Prop) : (xloop2 Tryd.prog {} 5 20 0 lc20 (ex1 sh20e) (fun (a, _, _, i, _) => a.length - i.toNat) (a, b, r, i, ()) Q) =
  (Go.Lom.fork r
      (Go.Lom.fork (Decidable.decide (i < (↑(List.length a) : Int)))
        (Go.Lom.req (Decidable.decide ((0 : Int) ≤ i ∧ i < (↑(List.length a) : Int)))
          (Go.Lom.req (Decidable.decide ((0 : Int) ≤ i ∧ i < (↑(List.length b) : Int)))
            (Go.Lom.req (Go.Lom.inR Go.IntKind.i64 (i + (1 : Int)))
              (List.length a - Int.toNat (i + (1 : Int)) < List.length a - Int.toNat i ∧
                Go.Lom.LC2.spec Go.P3.lc20
                  (a, b, List.getD a (Int.toNat i) (0 : Int) == List.getD b (Int.toNat i) (0 : Int), i + (1 : Int), ())
                  Q))))
        (Q (Go.Lom.AX.exit (0 : Nat)) (Go.Lom.stS (0 : Nat) Go.P3.sh20e (r, ()))))
      (Q (Go.Lom.AX.exit (0 : Nat)) (Go.Lom.stS (0 : Nat) Go.P3.sh20e (r, ())))) := by kernel_rfl
abbrev fcSame : FC := ⟨[.v L, .v L], [.b], fun x K => (x.1 = x.2.1 ∧ x.1.length ≤ 100000) ∧ K (true, ())⟩
theorem v20F (a b : List Int) (K : dens [.b] → Prop) : (xfn1 Tryd.prog { l2 := [(20, 0, lc20)] } 5 20 fcSame (a, b, ()) K) =
  ((List.length a ≤ (100000 : Nat) ∧
        (((↑(List.length a) : Int) == (↑(List.length b) : Int)) = Bool.true → List.length a = List.length b) ∧
          (0 : Int) ≤ (0 : Int) ∧ (0 : Int) ≤ (↑(List.length a) : Int)) ∧
      K (Go.P3.eqK a b (List.length a - (0 : Nat)) (0 : Int) ((↑(List.length a) : Int) == (↑(List.length b) : Int)), ())) := by kernel_rfl
abbrev fcCodesL : FC := ⟨[.v I, .v .s, .v .s], [.b], fun x K => (x.2.2.1.length : Int) ≤ 9223372036854775807 ∧ K (true, ())⟩
theorem v3F (n : Int) (s t : List UInt8) (K : dens [.b] → Prop) : (xfn1 Tryd.prog { f := [(14, fcCode), (15, fcCode), (16, fcNumber), (17, fcNumber), (18, fcReads), (19, fcReadsB), (20, fcSame), (21, fcWorks)] } 5 3 fcCodesL (n, s, t, ()) K) =
  (Go.Lom.fork
      (!(if (1 : Go.Lom.AT.den (Go.Lom.AT.v Go.P3.I)) ≤ n ∧ n ≤ (99999999 : Go.Lom.AT.den (Go.Lom.AT.v Go.P3.I)) then
            Go.P3.codeS n
          else []) ==
          if (1 : Go.Lom.AT.den (Go.Lom.AT.v Go.P3.I)) ≤ n ∧ n ≤ (99999999 : Go.Lom.AT.den (Go.Lom.AT.v Go.P3.I)) then
            Go.P3.codeS n
          else [])
      (K (Bool.false, ()))
      (Go.Lom.fork
        ((if (1 : Go.Lom.AT.den (Go.Lom.AT.v Go.P3.I)) ≤ n ∧ n ≤ (99999999 : Go.Lom.AT.den (Go.Lom.AT.v Go.P3.I)) then
            (0 : Go.Lom.Ty.den Go.P3.I)
          else (7 : Go.Lom.Ty.den Go.P3.I)) !=
          if (1 : Go.Lom.AT.den (Go.Lom.AT.v Go.P3.I)) ≤ n ∧ n ≤ (99999999 : Go.Lom.AT.den (Go.Lom.AT.v Go.P3.I)) then
            (0 : Go.Lom.Ty.den Go.P3.I)
          else (7 : Go.Lom.Ty.den Go.P3.I))
        (K (Bool.false, ()))
        (Go.Lom.fork (Prod.fst (Go.P3.numberI s) != Prod.fst (Go.P3.numberI s)) (K (Bool.false, ()))
          (Go.Lom.fork (Prod.snd (Go.P3.numberI s) != Prod.snd (Go.P3.numberI s)) (K (Bool.false, ()))
            ((↑(List.length t) : Int) ≤ (9223372036854775807 : Int) ∧
              (Prod.fst (Go.P3.readsI t) = Prod.fst (Go.P3.readsI t) ∧
                  List.length (Prod.fst (Go.P3.readsI t)) ≤ (100000 : Nat)) ∧
                Go.Lom.fork (Prod.snd (Go.P3.readsI t) == Prod.snd (Go.P3.readsI t)) (K (Bool.true, ()))
                  (K (Bool.false, ()))))))) := by kernel_rfl
end Go.P3
