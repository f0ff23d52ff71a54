/- Tickets: the best half by the reference, and the laws of halves: states and what is to be shown, reduced. No conditions. -/
import Derived.Test.YtcpdcpfbgmiaoaaDoorFitS
set_option linter.unusedSimpArgs false
set_option linter.unusedVariables false
set_option linter.constructorNameAsVariable false
set_option maxRecDepth 100000
set_option maxHeartbeats 2000000
namespace Go.P3
open Go.Lom Go.Proofs Go

abbrev shE45 : SV := S [(4, .v I), (5, .v I)]
abbrev sh25a : SV := S [(0, .v L), (1, .v LL), (6, .v I)]
abbrev sh25e : SV := S [(0, .v L), (1, .v LL)]
def ex25a : Ex2
  | .ret => some (shE45, 0)
  | _ => some (sh25e, 0)
def s25a (e : List Int) (hs : List (List Int)) (i : Int) (Q : LQ) : Prop := (0 ≤ i ∧ i ≤ hs.length ∧ hs.length ≤ 16) ∧
  ((allH hs i = false → Q .ret (stS 0 shE45 (0, 31, ()))) ∧ (allH hs i = true → Q (.exit 0) (stS 0 sh25e (e, hs, ()))))
abbrev lc25a : LC2 := ⟨0, sh25a, 0, fun (e, hs, i, _) Q => s25a e hs i Q⟩
theorem v25A (e : List Int) (hs : List (List Int)) (i : Int) (Q : AX → St → Prop) : (xloop2 Tryd.prog { f := [(61, fcEdge (-1))] } 5 25 0 lc25a ex25a (fun (_, hs, i, _) => mL hs i) (e, hs, i, ()) Q) =
  (Go.Lom.fork (Decidable.decide (i < (↑(List.length hs) : Int)))
      (Go.Lom.req (Decidable.decide ((0 : Int) ≤ i ∧ i < (↑(List.length hs) : Int)))
        (Go.Lom.fork (!Go.P3.inB (-1 : Int) (List.getD hs (Int.toNat i) []))
          (Q Go.Lom.AX.ret (Go.Lom.stS (0 : Nat) Go.P3.shE45 ((0 : Int), (31 : Int), ())))
          (Go.Lom.req (Go.Lom.inR Go.IntKind.i64 (i + (1 : Int)))
            (Go.P3.mL hs (i + (1 : Int)) < Go.P3.mL hs i ∧ Go.Lom.LC2.spec Go.P3.lc25a (e, hs, i + (1 : Int), ()) Q))))
      (Q (Go.Lom.AX.exit (0 : Nat)) (Go.Lom.stS (0 : Nat) Go.P3.sh25e (e, hs, ())))) := by kernel_rfl
def fR (e : List Int) (hs : List (List Int)) (i : Int) : Int := rfI e (hs.getD i.toNat [])
def betK (e : List Int) (hs : List (List Int)) (i : Int) : Nat → Int → Bool → Bool
  | 0, _, b => b
  | f + 1, k, b => betK e hs i f (k + 1) (b && (decide (k = i) || decide (fR e hs k < fR e hs i)))
abbrev sh25c : SV := S [(0, .v L), (1, .v LL), (7, .v I), (8, .v .b), (9, .v I)]
abbrev sh25ce : SV := S [(0, .v L), (1, .v LL), (7, .v I), (8, .v .b)]
def s25c (e : List Int) (hs : List (List Int)) (i : Int) (b : Bool) (k : Int) (Q : LQ) : Prop := (allH hs 0 = true ∧ hs.length ≤ 16 ∧ 0 ≤ i ∧ i < hs.length ∧ 0 ≤ k ∧ k ≤ hs.length) ∧
  Q (.exit 4) (stS 0 sh25ce (e, hs, i, betK e hs i (hs.length - k.toNat) k b, ()))
abbrev lc25c : LC2 := ⟨0, sh25c, 0, fun (e, hs, i, b, k, _) Q => s25c e hs i b k Q⟩
theorem v25C (e : List Int) (hs : List (List Int)) (i : Int) (b : Bool) (k : Int) (Q : AX → St → Prop) : (xloop2 Tryd.prog { f := [(62, fc62)] } 5 25 2 lc25c (fun _ => some (sh25ce, 0)) (fun (_, hs, _, _, k, _) => mL hs k) (e, hs, i, b, k, ()) Q) =
  (Go.Lom.fork (Decidable.decide (k < (↑(List.length hs) : Int)))
      (Go.Lom.fork b
        (Go.Lom.fork (k == i)
          (Go.Lom.req (Go.Lom.inR Go.IntKind.i64 (k + (1 : Int)))
            (Go.P3.mL hs (k + (1 : Int)) < Go.P3.mL hs k ∧
              Go.Lom.LC2.spec Go.P3.lc25c (e, hs, i, Bool.true, k + (1 : Int), ()) Q))
          (Go.Lom.req (Decidable.decide ((0 : Int) ≤ k ∧ k < (↑(List.length hs) : Int)))
            (Go.Lom.req (Decidable.decide ((0 : Int) ≤ i ∧ i < (↑(List.length hs) : Int)))
              (Go.P3.inB (-1 : Int) (List.getD hs (Int.toNat k) []) = Bool.true ∧
                Go.Lom.AV.rl Go.P3.I (List.getD hs (Int.toNat i) []) =
                    Go.Lom.AV.rl Go.P3.I (List.getD hs (Int.toNat i) []) ∧
                  Go.P3.inB (-1 : Int) (List.getD hs (Int.toNat i) []) = Bool.true ∧
                    Go.Lom.req (Go.Lom.inR Go.IntKind.i64 (k + (1 : Int)))
                      (Go.P3.mL hs (k + (1 : Int)) < Go.P3.mL hs k ∧
                        Go.Lom.LC2.spec Go.P3.lc25c
                          (e, hs, i,
                            Decidable.decide
                              (Go.P3.rfI e (List.getD hs (Int.toNat k) []) < Go.P3.rfI e (List.getD hs (Int.toNat i) [])),
                            k + (1 : Int), ())
                          Q)))))
        (Go.Lom.req (Go.Lom.inR Go.IntKind.i64 (k + (1 : Int)))
          (Go.P3.mL hs (k + (1 : Int)) < Go.P3.mL hs k ∧
            Go.Lom.LC2.spec Go.P3.lc25c (e, hs, i, Bool.false, k + (1 : Int), ()) Q)))
      (Q (Go.Lom.AX.exit (4 : Nat)) (Go.Lom.stS (0 : Nat) Go.P3.sh25ce (e, hs, i, b, ())))) := by kernel_rfl
def betB (e : List Int) (hs : List (List Int)) (i : Int) : Bool := betK e hs i hs.length 0 (decide (fR e hs i ≥ 0))
def seekR (e : List Int) (hs : List (List Int)) : Nat → Int → Option Int
  | 0, _ => none
  | f + 1, i => if betB e hs i = true then some i else seekR e hs f (i + 1)
abbrev sh25b : SV := S [(0, .v L), (1, .v LL), (7, .v I)]
def ex25b : Ex2
  | .ret => some (shE45, 0)
  | _ => some (.nil, 0)
def s25b (e : List Int) (hs : List (List Int)) (i : Int) (Q : LQ) : Prop := (allH hs 0 = true ∧ hs.length ≤ 16 ∧ 0 ≤ i ∧ i ≤ hs.length) ∧
  ((∀ r, seekR e hs (hs.length - i.toNat) i = some r → Q .ret (stS 0 shE45 (r, 0, ()))) ∧ (seekR e hs (hs.length - i.toNat) i = none → Q (.exit 2) (stS 0 .nil ())))
abbrev lc25b : LC2 := ⟨0, sh25b, 0, fun (e, hs, i, _) Q => s25b e hs i Q⟩
theorem v25B (e : List Int) (hs : List (List Int)) (i : Int) (Q : AX → St → Prop) : (xloop2 Tryd.prog { f := [(62, fc62)], l2 := [(25, 2, lc25c)] } 5 25 1 lc25b ex25b (fun (_, hs, i, _) => mL hs i) (e, hs, i, ()) Q) =
  (Go.Lom.fork (Decidable.decide (i < (↑(List.length hs) : Int)))
      (Go.Lom.req (Decidable.decide ((0 : Int) ≤ i ∧ i < (↑(List.length hs) : Int)))
        (Go.P3.inB (-1 : Int) (List.getD hs (Int.toNat i) []) = Bool.true ∧
          (Go.P3.allH hs (0 : Int) = Bool.true ∧
              List.length hs ≤ (16 : Nat) ∧
                (0 : Int) ≤ i ∧
                  i < (↑(List.length hs) : Int) ∧ (0 : Int) ≤ (0 : Int) ∧ (0 : Int) ≤ (↑(List.length hs) : Int)) ∧
            Go.Lom.fork
              (Go.P3.betK e hs i (List.length hs - (0 : Nat)) (0 : Int)
                (Decidable.decide (Go.P3.rfI e (List.getD hs (Int.toNat i) []) ≥ (0 : Int))))
              (Q Go.Lom.AX.ret (Go.Lom.stS (0 : Nat) Go.P3.shE45 (i, (0 : Int), ())))
              (Go.Lom.req (Go.Lom.inR Go.IntKind.i64 (i + (1 : Int)))
                (Go.P3.mL hs (i + (1 : Int)) < Go.P3.mL hs i ∧ Go.Lom.LC2.spec Go.P3.lc25b (e, hs, i + (1 : Int), ()) Q))))
      (Q (Go.Lom.AX.exit (2 : Nat)) (Go.Lom.stS (0 : Nat) Go.Lom.SV.nil ()))) := by kernel_rfl
theorem v25F (e : List Int) (hs : List (List Int)) (K : dens [I, I] → Prop) : (xfn1 Tryd.prog { l2 := [(25, 0, lc25a), (25, 1, lc25b)], f := [(60, fcEdge 0)] } 5 25 fcBest (e, hs, ()) K) =
  (Go.Lom.fork (!Go.P3.inB (0 : Int) e) (K ((0 : Int), (31 : Int), ()))
      (Go.Lom.fork (Decidable.decide ((↑(List.length hs) : Int) > (16 : Int))) (K ((0 : Int), (31 : Int), ()))
        (((0 : Int) ≤ (0 : Int) ∧ (0 : Int) ≤ (↑(List.length hs) : Int) ∧ List.length hs ≤ (16 : Nat)) ∧
          (Go.P3.allH hs (0 : Int) = Bool.false →
              K
                ((0 : Go.Lom.SV.den (Go.Lom.SV.slot (4 : Nat) (Go.Lom.SV.v Go.P3.I))),
                  (31 : Go.Lom.SV.den (Go.Lom.SV.slot (5 : Nat) (Go.Lom.SV.v Go.P3.I))), ())) ∧
            (Go.P3.allH hs (0 : Int) = Bool.true →
              (Go.P3.allH hs (0 : Int) = Bool.true ∧
                  List.length hs ≤ (16 : Nat) ∧ (0 : Int) ≤ (0 : Int) ∧ (0 : Int) ≤ (↑(List.length hs) : Int)) ∧
                (∀ (r : Int),
                    Go.P3.seekR e hs (List.length hs - (0 : Nat)) (0 : Int) = Option.some r →
                      K (r, (0 : Go.Lom.SV.den (Go.Lom.SV.slot (5 : Nat) (Go.Lom.SV.v Go.P3.I))), ())) ∧
                  (Go.P3.seekR e hs (List.length hs - (0 : Nat)) (0 : Int) = Option.none → K ((0 : Int), (4 : Int), ())))))) := by kernel_rfl

/-! the laws -/
abbrev fcWorks : FC := ⟨[], [.b], fun _ K => K (true, ())⟩
abbrev fcFits : FC := ⟨[.v L, .v L, .v LL], [.b], fun x K => K (true, ())⟩
theorem v4F (e h : List Int) (hs : List (List Int)) (K : dens [.b] → Prop) : (xfn1 Tryd.prog { f := [(22, fcFit), (23, fcFit), (24, fcBest), (25, fcBest), (21, fcWorks)] } 5 4 fcFits (e, h, hs, ()) K) =
  (Go.Lom.fork (Prod.fst (Go.P3.fitE e h) != Prod.fst (Go.P3.fitE e h)) (K (Bool.false, ()))
      (Go.Lom.fork (Prod.snd (Go.P3.fitE e h) != Prod.snd (Go.P3.fitE e h)) (K (Bool.false, ()))
        (Go.Lom.fork (Prod.fst (Go.P3.bestE e hs) == Prod.fst (Go.P3.bestE e hs))
          (Go.Lom.fork (Prod.snd (Go.P3.bestE e hs) == Prod.snd (Go.P3.bestE e hs)) (K (Bool.true, ()))
            (K (Bool.false, ())))
          (K (Bool.false, ()))))) := by kernel_rfl
def stepC (e : List Int) (x : Int × Int) (h : List Int) : Int × Int :=
  if (fitE e h).2 = 0 then (if (fitE e h).1 > x.1 then ((fitE e h).1, 1) else if (fitE e h).1 = x.1 then (x.1, x.2 + 1) else x) else x
def runC (e : List Int) (hs : List (List Int)) : Nat → Int → Int × Int → Int × Int
  | 0, _, x => x
  | k + 1, i, x => runC e hs k (i + 1) (stepC e x (hs.getD i.toNat []))
abbrev sh6 : SV := S [(0, .v L), (1, .v LL), (5, .v I), (6, .v I), (9, .v I), (10, .v I), (11, .v I)]
abbrev sh6e : SV := S [(0, .v L), (1, .v LL), (5, .v I), (6, .v I), (9, .v I), (10, .v I)]
abbrev shB4' : SV := S [(4, .v .b)]
def ex6 : Ex2
  | .ret => some (shB4', 0)
  | _ => some (sh6e, 0)
def s6 (e : List Int) (hs : List (List Int)) (a b m c i : Int) (Q : LQ) : Prop := (inB 0 e = true ∧ allH hs 0 = true ∧ hs.length ≤ 16 ∧ 0 ≤ i ∧ i ≤ hs.length ∧ 0 ≤ c ∧ c ≤ i) ∧
  Q (.exit 0) (stS 0 sh6e (e, hs, a, b, (runC e hs (hs.length - i.toNat) i (m, c)).1, (runC e hs (hs.length - i.toNat) i (m, c)).2, ()))
abbrev lc6 : LC2 := ⟨0, sh6, 0, fun (e, hs, a, b, m, c, i, _) Q => s6 e hs a b m c i Q⟩
theorem v6L (e : List Int) (hs : List (List Int)) (a b m c i : Int) (Q : AX → St → Prop) : (xloop2 Tryd.prog { f := [(22, fcFit)] } 5 6 0 lc6 ex6 (fun (_, hs, _, _, _, _, i, _) => mL hs i) (e, hs, a, b, m, c, i, ()) Q) =
  (Go.Lom.fork (Decidable.decide (i < (↑(List.length hs) : Int)))
      (Go.Lom.req (Decidable.decide ((0 : Int) ≤ i ∧ i < (↑(List.length hs) : Int)))
        (Go.Lom.fork (Prod.snd (Go.P3.fitE e (List.getD hs (Int.toNat i) [])) != (0 : Int))
          (Go.Lom.fork (Prod.snd (Go.P3.fitE e (List.getD hs (Int.toNat i) [])) != (32 : Int))
            (Q Go.Lom.AX.ret (Go.Lom.stS (0 : Nat) Go.P3.shB4' (Bool.false, ())))
            (Go.Lom.fork (Prod.snd (Go.P3.fitE e (List.getD hs (Int.toNat i) [])) == (0 : Int))
              (Go.Lom.fork (Prod.fst (Go.P3.fitE e (List.getD hs (Int.toNat i) [])) == m)
                (Go.Lom.req (Go.Lom.inR Go.IntKind.i64 (c + (1 : Int)))
                  (Go.Lom.fork (Prod.snd (Go.P3.fitE e (List.getD hs (Int.toNat i) [])) == (0 : Int))
                    (Go.Lom.fork (Decidable.decide (Prod.fst (Go.P3.fitE e (List.getD hs (Int.toNat i) [])) > m))
                      (Go.Lom.req (Go.Lom.inR Go.IntKind.i64 (i + (1 : Int)))
                        (Go.P3.mL hs (i + (1 : Int)) < Go.P3.mL hs i ∧
                          Go.Lom.LC2.spec Go.P3.lc6
                            (e, hs, a, b, Prod.fst (Go.P3.fitE e (List.getD hs (Int.toNat i) [])), (1 : Int), i + (1 : Int),
                              ())
                            Q))
                      (Go.Lom.req (Go.Lom.inR Go.IntKind.i64 (i + (1 : Int)))
                        (Go.P3.mL hs (i + (1 : Int)) < Go.P3.mL hs i ∧
                          Go.Lom.LC2.spec Go.P3.lc6 (e, hs, a, b, m, c + (1 : Int), i + (1 : Int), ()) Q)))
                    (Go.Lom.req (Go.Lom.inR Go.IntKind.i64 (i + (1 : Int)))
                      (Go.P3.mL hs (i + (1 : Int)) < Go.P3.mL hs i ∧
                        Go.Lom.LC2.spec Go.P3.lc6 (e, hs, a, b, m, c + (1 : Int), i + (1 : Int), ()) Q))))
                (Go.Lom.fork (Prod.snd (Go.P3.fitE e (List.getD hs (Int.toNat i) [])) == (0 : Int))
                  (Go.Lom.fork (Decidable.decide (Prod.fst (Go.P3.fitE e (List.getD hs (Int.toNat i) [])) > m))
                    (Go.Lom.req (Go.Lom.inR Go.IntKind.i64 (i + (1 : Int)))
                      (Go.P3.mL hs (i + (1 : Int)) < Go.P3.mL hs i ∧
                        Go.Lom.LC2.spec Go.P3.lc6
                          (e, hs, a, b, Prod.fst (Go.P3.fitE e (List.getD hs (Int.toNat i) [])), (1 : Int), i + (1 : Int),
                            ())
                          Q))
                    (Go.Lom.req (Go.Lom.inR Go.IntKind.i64 (i + (1 : Int)))
                      (Go.P3.mL hs (i + (1 : Int)) < Go.P3.mL hs i ∧
                        Go.Lom.LC2.spec Go.P3.lc6 (e, hs, a, b, m, c, i + (1 : Int), ()) Q)))
                  (Go.Lom.req (Go.Lom.inR Go.IntKind.i64 (i + (1 : Int)))
                    (Go.P3.mL hs (i + (1 : Int)) < Go.P3.mL hs i ∧
                      Go.Lom.LC2.spec Go.P3.lc6 (e, hs, a, b, m, c, i + (1 : Int), ()) Q))))
              (Go.Lom.fork (Prod.snd (Go.P3.fitE e (List.getD hs (Int.toNat i) [])) == (0 : Int))
                (Go.Lom.fork (Decidable.decide (Prod.fst (Go.P3.fitE e (List.getD hs (Int.toNat i) [])) > m))
                  (Go.Lom.req (Go.Lom.inR Go.IntKind.i64 (i + (1 : Int)))
                    (Go.P3.mL hs (i + (1 : Int)) < Go.P3.mL hs i ∧
                      Go.Lom.LC2.spec Go.P3.lc6
                        (e, hs, a, b, Prod.fst (Go.P3.fitE e (List.getD hs (Int.toNat i) [])), (1 : Int), i + (1 : Int), ())
                        Q))
                  (Go.Lom.req (Go.Lom.inR Go.IntKind.i64 (i + (1 : Int)))
                    (Go.P3.mL hs (i + (1 : Int)) < Go.P3.mL hs i ∧
                      Go.Lom.LC2.spec Go.P3.lc6 (e, hs, a, b, m, c, i + (1 : Int), ()) Q)))
                (Go.Lom.req (Go.Lom.inR Go.IntKind.i64 (i + (1 : Int)))
                  (Go.P3.mL hs (i + (1 : Int)) < Go.P3.mL hs i ∧
                    Go.Lom.LC2.spec Go.P3.lc6 (e, hs, a, b, m, c, i + (1 : Int), ()) Q)))))
          (Go.Lom.fork (Prod.snd (Go.P3.fitE e (List.getD hs (Int.toNat i) [])) == (0 : Int))
            (Go.Lom.fork (Prod.fst (Go.P3.fitE e (List.getD hs (Int.toNat i) [])) == m)
              (Go.Lom.req (Go.Lom.inR Go.IntKind.i64 (c + (1 : Int)))
                (Go.Lom.fork (Prod.snd (Go.P3.fitE e (List.getD hs (Int.toNat i) [])) == (0 : Int))
                  (Go.Lom.fork (Decidable.decide (Prod.fst (Go.P3.fitE e (List.getD hs (Int.toNat i) [])) > m))
                    (Go.Lom.req (Go.Lom.inR Go.IntKind.i64 (i + (1 : Int)))
                      (Go.P3.mL hs (i + (1 : Int)) < Go.P3.mL hs i ∧
                        Go.Lom.LC2.spec Go.P3.lc6
                          (e, hs, a, b, Prod.fst (Go.P3.fitE e (List.getD hs (Int.toNat i) [])), (1 : Int), i + (1 : Int),
                            ())
                          Q))
                    (Go.Lom.req (Go.Lom.inR Go.IntKind.i64 (i + (1 : Int)))
                      (Go.P3.mL hs (i + (1 : Int)) < Go.P3.mL hs i ∧
                        Go.Lom.LC2.spec Go.P3.lc6 (e, hs, a, b, m, c + (1 : Int), i + (1 : Int), ()) Q)))
                  (Go.Lom.req (Go.Lom.inR Go.IntKind.i64 (i + (1 : Int)))
                    (Go.P3.mL hs (i + (1 : Int)) < Go.P3.mL hs i ∧
                      Go.Lom.LC2.spec Go.P3.lc6 (e, hs, a, b, m, c + (1 : Int), i + (1 : Int), ()) Q))))
              (Go.Lom.fork (Prod.snd (Go.P3.fitE e (List.getD hs (Int.toNat i) [])) == (0 : Int))
                (Go.Lom.fork (Decidable.decide (Prod.fst (Go.P3.fitE e (List.getD hs (Int.toNat i) [])) > m))
                  (Go.Lom.req (Go.Lom.inR Go.IntKind.i64 (i + (1 : Int)))
                    (Go.P3.mL hs (i + (1 : Int)) < Go.P3.mL hs i ∧
                      Go.Lom.LC2.spec Go.P3.lc6
                        (e, hs, a, b, Prod.fst (Go.P3.fitE e (List.getD hs (Int.toNat i) [])), (1 : Int), i + (1 : Int), ())
                        Q))
                  (Go.Lom.req (Go.Lom.inR Go.IntKind.i64 (i + (1 : Int)))
                    (Go.P3.mL hs (i + (1 : Int)) < Go.P3.mL hs i ∧
                      Go.Lom.LC2.spec Go.P3.lc6 (e, hs, a, b, m, c, i + (1 : Int), ()) Q)))
                (Go.Lom.req (Go.Lom.inR Go.IntKind.i64 (i + (1 : Int)))
                  (Go.P3.mL hs (i + (1 : Int)) < Go.P3.mL hs i ∧
                    Go.Lom.LC2.spec Go.P3.lc6 (e, hs, a, b, m, c, i + (1 : Int), ()) Q))))
            (Go.Lom.fork (Prod.snd (Go.P3.fitE e (List.getD hs (Int.toNat i) [])) == (0 : Int))
              (Go.Lom.fork (Decidable.decide (Prod.fst (Go.P3.fitE e (List.getD hs (Int.toNat i) [])) > m))
                (Go.Lom.req (Go.Lom.inR Go.IntKind.i64 (i + (1 : Int)))
                  (Go.P3.mL hs (i + (1 : Int)) < Go.P3.mL hs i ∧
                    Go.Lom.LC2.spec Go.P3.lc6
                      (e, hs, a, b, Prod.fst (Go.P3.fitE e (List.getD hs (Int.toNat i) [])), (1 : Int), i + (1 : Int), ())
                      Q))
                (Go.Lom.req (Go.Lom.inR Go.IntKind.i64 (i + (1 : Int)))
                  (Go.P3.mL hs (i + (1 : Int)) < Go.P3.mL hs i ∧
                    Go.Lom.LC2.spec Go.P3.lc6 (e, hs, a, b, m, c, i + (1 : Int), ()) Q)))
              (Go.Lom.req (Go.Lom.inR Go.IntKind.i64 (i + (1 : Int)))
                (Go.P3.mL hs (i + (1 : Int)) < Go.P3.mL hs i ∧
                  Go.Lom.LC2.spec Go.P3.lc6 (e, hs, a, b, m, c, i + (1 : Int), ()) Q))))))
      (Q (Go.Lom.AX.exit (0 : Nat)) (Go.Lom.stS (0 : Nat) Go.P3.sh6e (e, hs, a, b, m, c, ())))) := by kernel_rfl
abbrev fcLawBest : FC := ⟨[.v L, .v LL], [.b], fun x K => K (true, ())⟩
theorem v6F (e : List Int) (hs : List (List Int)) (K : dens [.b] → Prop) : (xfn1 Tryd.prog { l2 := [(6, 0, lc6)], f := [(22, fcFit), (24, fcBest), (28, fcFrom), (21, fcWorks)] } 5 6 fcLawBest (e, hs, ()) K) =
  (Go.Lom.fork (Prod.snd (Go.P3.bestE e hs) == (31 : Int))
      (Go.Lom.fork (Prod.fst (Go.P3.bestE e hs) == (0 : Int)) (K (Bool.true, ())) (K (Bool.false, ())))
      (Go.Lom.fork (Prod.snd (Go.P3.fitE e e) != (0 : Int)) (K (Bool.false, ()))
        (Go.Lom.fork (Prod.fst (Go.P3.fitE e e) != (↑(List.length e) : Int)) (K (Bool.false, ()))
          ((Go.P3.inB (0 : Int) e = Bool.true ∧
              Go.P3.allH hs (0 : Int) = Bool.true ∧
                List.length hs ≤ (16 : Nat) ∧
                  (0 : Int) ≤ (0 : Int) ∧
                    (0 : Int) ≤ (↑(List.length hs) : Int) ∧ (0 : Int) ≤ (0 : Int) ∧ (0 : Int) ≤ (0 : Int)) ∧
            Go.Lom.fork (Prod.snd (Go.P3.bestE e hs) != (0 : Int))
              (Go.Lom.fork (Prod.snd (Go.P3.bestE e hs) == (4 : Int))
                (Go.Lom.fork
                  (Prod.snd (Go.P3.runC e hs (List.length hs - (0 : Nat)) (0 : Int) ((-1 : Int), (0 : Int))) != (1 : Int))
                  (K (Bool.true, ())) (K (Bool.false, ())))
                (K (Bool.false, ())))
              (Go.Lom.req (Go.Lom.inR Go.IntKind.i64 ((↑(List.length hs) : Int) - (1 : Int)))
                (Go.Lom.fork
                  (!Decidable.decide
                      ((0 : Int) ≤ Prod.fst (Go.P3.bestE e hs) ∧
                        Prod.fst (Go.P3.bestE e hs) ≤ (↑(List.length hs) : Int) - (1 : Int)))
                  (K (Bool.false, ()))
                  (Go.Lom.fork
                    (Prod.snd (Go.P3.runC e hs (List.length hs - (0 : Nat)) (0 : Int) ((-1 : Int), (0 : Int))) != (1 : Int))
                    (K (Bool.false, ()))
                    (Go.Lom.req
                      (Decidable.decide
                        ((0 : Int) ≤ Prod.fst (Go.P3.bestE e hs) ∧ Prod.fst (Go.P3.bestE e hs) < (↑(List.length hs) : Int)))
                      (Go.Lom.fork
                        (Prod.snd (Go.P3.fitE e (List.getD hs (Int.toNat (Prod.fst (Go.P3.bestE e hs))) [])) == (0 : Int))
                        (Go.Lom.fork
                          (Prod.fst (Go.P3.fitE e (List.getD hs (Int.toNat (Prod.fst (Go.P3.bestE e hs))) [])) ==
                            Prod.fst (Go.P3.runC e hs (List.length hs - (0 : Nat)) (0 : Int) ((-1 : Int), (0 : Int))))
                          (K (Bool.true, ())) (K (Bool.false, ())))
                        (K (Bool.false, ()))))))))))) := by kernel_rfl
end Go.P3
