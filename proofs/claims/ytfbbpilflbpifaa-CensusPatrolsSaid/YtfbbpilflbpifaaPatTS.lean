/- CensusPatrols: the reference: states and what is to be shown, reduced. No conditions. -/
import Derived.Test.YtfbbpilflbpifaaMeetP
set_option linter.unusedSimpArgs false
set_option linter.unusedVariables false
set_option linter.constructorNameAsVariable false
set_option maxRecDepth 100000
set_option maxHeartbeats 2000000
namespace Go.P10
open Go.Lom Go.Proofs Go

def okWn (n : Int) : Bool := decide (1 ≤ n ∧ n ≤ 10000)
abbrev sh90 : SV := S [(0, .v L), (3, .v .b), (4, .v I)]
abbrev sh90e : SV := S [(3, .v .b)]
abbrev lc90 : LC2 := ⟨0, sh90, 0, fun (l, ok, i, _) Q => (l.length ≤ big ∧ 0 ≤ i ∧ i ≤ l.length) ∧ ∀ r : Bool, r = (ok && (l.drop i.toNat).all okWn) → Q (.exit 0) (stS 0 sh90e (r, ()))⟩
theorem v90L (l : List Int) (ok : Bool) (i : Int) (Q : AX → St → Prop) : (xloop2 Try.prog {} 5 90 0 lc90 (fun _ => some (sh90e, 0)) (fun (l, _, i, _) => mL l i) (l, ok, i, ()) Q) =
  (Go.Lom.fork (Decidable.decide (i < (↑(List.length l) : Int)))
      (Go.Lom.fork ok
        (Go.Lom.req (Decidable.decide ((0 : Int) ≤ i ∧ i < (↑(List.length l) : Int)))
          (Go.Lom.fork (Decidable.decide ((1 : Int) ≤ List.getD l (Int.toNat i) (0 : Int)))
            (Go.Lom.req (Go.Lom.inR Go.IntKind.i64 (i + (1 : Int)))
              (Go.P10.mL l (i + (1 : Int)) < Go.P10.mL l i ∧
                Go.Lom.LC2.spec Go.P10.lc90
                  (l, Decidable.decide (List.getD l (Int.toNat i) (0 : Int) ≤ (10000 : Int)), i + (1 : Int), ()) Q))
            (Go.Lom.req (Go.Lom.inR Go.IntKind.i64 (i + (1 : Int)))
              (Go.P10.mL l (i + (1 : Int)) < Go.P10.mL l i ∧
                Go.Lom.LC2.spec Go.P10.lc90 (l, Bool.false, i + (1 : Int), ()) Q))))
        (Go.Lom.req (Go.Lom.inR Go.IntKind.i64 (i + (1 : Int)))
          (Go.P10.mL l (i + (1 : Int)) < Go.P10.mL l i ∧ Go.Lom.LC2.spec Go.P10.lc90 (l, Bool.false, i + (1 : Int), ()) Q)))
      (Q (Go.Lom.AX.exit (0 : Nat)) (Go.Lom.stS (0 : Nat) Go.P10.sh90e (ok, ())))) := by kernel_rfl
theorem v90F (l : List Int) (K : dens [.b] → Prop) : (xfn1 Try.prog { l2 := [(90, 0, lc90)] } 5 90 fc89 (l, ()) K) =
  (Go.Lom.fork (Decidable.decide ((1 : Int) ≤ (↑(List.length l) : Int)))
      ((List.length l ≤ (9223372036854775807 : Nat) ∧
          (0 : Go.Lom.SV.den (Go.Lom.SV.slot (4 : Nat) (Go.Lom.SV.v Go.P10.I))) ≤ (0 : Int) ∧
            (0 : Int) ≤ (↑(List.length l) : Go.Lom.SV.den (Go.Lom.SV.slot (4 : Nat) (Go.Lom.SV.v Go.P10.I)))) ∧
        ∀ (r : Bool),
          r = (Decidable.decide ((↑(List.length l) : Int) ≤ (6 : Int)) && List.all (List.drop (0 : Nat) l) Go.P10.okWn) →
            K (r, ()))
      ((List.length l ≤ (9223372036854775807 : Nat) ∧
          (0 : Go.Lom.SV.den (Go.Lom.SV.slot (4 : Nat) (Go.Lom.SV.v Go.P10.I))) ≤ (0 : Int) ∧
            (0 : Int) ≤ (↑(List.length l) : Go.Lom.SV.den (Go.Lom.SV.slot (4 : Nat) (Go.Lom.SV.v Go.P10.I)))) ∧
        ∀ (r : Bool), r = (Bool.false && List.all (List.drop (0 : Nat) l) Go.P10.okWn) → K (r, ()))) := by kernel_rfl
abbrev sh104 : SV := S [(0, .v I), (1, .v I), (5, .v I)]
abbrev sh104e : SV := S [(5, .v I)]
abbrev lc104 : LC2 := ⟨0, sh104, 0, fun (n, r, w, _) Q => ((1 ≤ n ∧ n ≤ 10000) ∧ 0 ≤ r ∧ 0 ≤ w ∧ w ≤ wI r n) ∧ ∀ x, x = wI r n → Q (.exit 0) (stS 0 sh104e (x, ()))⟩
theorem v104L (n r w : Int) (Q : AX → St → Prop) : (xloop2 Try.prog {} 5 104 0 lc104 (fun _ => some (sh104e, 0)) (fun (_, _, w, _) => (64 - w).toNat) (n, r, w, ()) Q) =
  (Go.Lom.req (Go.Lom.inR Go.IntKind.i64 ((64 : Int) - w))
      (Go.Lom.req (Go.Lom.inR Go.IntKind.i64 (n * ((64 : Int) - w)))
        (Go.Lom.fork (Decidable.decide (n * ((64 : Int) - w) > r))
          (Go.Lom.req (Go.Lom.inR Go.IntKind.i64 (w + (1 : Int)))
            (Int.toNat ((64 : Go.Lom.SV.den (Go.Lom.SV.slot (5 : Nat) (Go.Lom.SV.v Go.P10.I))) - (w + (1 : Int))) <
                Int.toNat ((64 : Go.Lom.SV.den (Go.Lom.SV.slot (5 : Nat) (Go.Lom.SV.v Go.P10.I))) - w) ∧
              Go.Lom.LC2.spec Go.P10.lc104 (n, r, w + (1 : Int), ()) Q))
          (Q (Go.Lom.AX.exit (0 : Nat)) (Go.Lom.stS (0 : Nat) Go.P10.sh104e (w, ())))))) := by kernel_rfl
abbrev fc104 : FC := ⟨[.v I, .v I], [I], fun x K => ((1 ≤ x.1 ∧ x.1 ≤ 10000) ∧ 0 ≤ x.2.1) ∧ ∀ w, w = wI x.2.1 x.1 → K (w, ())⟩
theorem v104F (n r : Int) (K : dens [I] → Prop) : (xfn1 Try.prog { l2 := [(104, 0, lc104)] } 5 104 fc104 (n, r, ()) K) =
  ((((1 : Go.Lom.SV.den (Go.Lom.SV.slot (0 : Nat) (Go.Lom.SV.v Go.P10.I))) ≤ n ∧
          n ≤ (10000 : Go.Lom.SV.den (Go.Lom.SV.slot (0 : Nat) (Go.Lom.SV.v Go.P10.I)))) ∧
        (0 : Go.Lom.SV.den (Go.Lom.SV.slot (1 : Nat) (Go.Lom.SV.v Go.P10.I))) ≤ r ∧
          (0 : Go.Lom.SV.den (Go.Lom.SV.slot (5 : Nat) (Go.Lom.SV.v Go.P10.I))) ≤ (0 : Int) ∧ (0 : Int) ≤ Go.P10.wI r n) ∧
      ∀ (x : Int), x = Go.P10.wI r n → K (x, ())) := by kernel_rfl
abbrev sh92 : SV := S [(0, .v L), (1, .v I), (5, .v I), (6, .v I)]
abbrev sh92e : SV := S [(5, .v I)]
abbrev lc92 : LC2 := ⟨0, sh92, 0, fun (l, r, n, i, _) Q => (okW l ∧ 0 ≤ r ∧ (0 ≤ i ∧ i ≤ l.length) ∧ (0 ≤ n ∧ n ≤ 64 * i)) ∧ ∀ x, x = n + needN (l.drop i.toNat) r → Q (.exit 0) (stS 0 sh92e (x, ()))⟩
theorem v92L (l : List Int) (r n i : Int) (Q : AX → St → Prop) : (xloop2 Try.prog { f := [(104, fc104)] } 5 92 0 lc92 (fun _ => some (sh92e, 0)) (fun (l, _, _, i, _) => mL l i) (l, r, n, i, ()) Q) =
  (Go.Lom.fork (Decidable.decide (i < (↑(List.length l) : Int)))
      (Go.Lom.req (Decidable.decide ((0 : Int) ≤ i ∧ i < (↑(List.length l) : Int)))
        ((((1 : Go.Lom.AT.den (Go.Lom.AT.v Go.P10.I)) ≤ List.getD l (Int.toNat i) (0 : Int) ∧
              List.getD l (Int.toNat i) (0 : Int) ≤ (10000 : Go.Lom.AT.den (Go.Lom.AT.v Go.P10.I))) ∧
            (0 : Go.Lom.AT.den (Go.Lom.AT.v Go.P10.I)) ≤ r) ∧
          ∀ (w : Int),
            w = Go.P10.wI r (List.getD l (Int.toNat i) (0 : Int)) →
              Go.Lom.req (Go.Lom.inR Go.IntKind.i64 (n + w))
                (Go.Lom.req (Go.Lom.inR Go.IntKind.i64 (i + (1 : Int)))
                  (Go.P10.mL l (i + (1 : Int)) < Go.P10.mL l i ∧
                    Go.Lom.LC2.spec Go.P10.lc92 (l, r, n + w, i + (1 : Int), ()) Q))))
      (Q (Go.Lom.AX.exit (0 : Nat)) (Go.Lom.stS (0 : Nat) Go.P10.sh92e (n, ())))) := by kernel_rfl
abbrev fc92 : FC := ⟨[.v L, .v I], [I], fun x K => (okW x.1 ∧ 0 ≤ x.2.1) ∧ ∀ n, n = needN x.1 x.2.1 → K (n, ())⟩
theorem v92F (l : List Int) (r : Int) (K : dens [I] → Prop) : (xfn1 Try.prog { l2 := [(92, 0, lc92)] } 5 92 fc92 (l, r, ()) K) =
  ((Go.P10.okW l ∧
        (0 : Go.Lom.SV.den (Go.Lom.SV.slot (1 : Nat) (Go.Lom.SV.v Go.P10.I))) ≤ r ∧
          ((0 : Go.Lom.SV.den (Go.Lom.SV.slot (6 : Nat) (Go.Lom.SV.v Go.P10.I))) ≤ (0 : Int) ∧
              (0 : Int) ≤ (↑(List.length l) : Go.Lom.SV.den (Go.Lom.SV.slot (6 : Nat) (Go.Lom.SV.v Go.P10.I)))) ∧
            (0 : Go.Lom.SV.den (Go.Lom.SV.slot (5 : Nat) (Go.Lom.SV.v Go.P10.I))) ≤ (0 : Int) ∧
              (0 : Int) ≤ (64 : Go.Lom.SV.den (Go.Lom.SV.slot (5 : Nat) (Go.Lom.SV.v Go.P10.I))) * (0 : Int)) ∧
      ∀
        (x :
          Go.Lom.SV.den
            (Go.Lom.SV.slot (Prod.fst ((5 : Nat), Go.Lom.SV.v Go.P10.I)) (Prod.snd ((5 : Nat), Go.Lom.SV.v Go.P10.I)))),
        x = (0 : Int) + Go.P10.needN (List.drop (0 : Nat) l) r → K (x, ())) := by kernel_rfl
theorem v51F (l : List Int) (r : Int) (K : dens [I, E] → Prop) : (xfn1 Try.prog { f := [(90, fc89), (92, fc92)] } 5 51 fc50 (l, r, ()) K) =
  (List.length l ≤ (9223372036854775807 : Nat) ∧
      ∀ (r_1 : Bool),
        r_1 = Decidable.decide (Go.P10.okW l) →
          Go.Lom.fork (!r_1) (K ((0 : Int), (103 : Int), ()))
            (Go.Lom.fork (Decidable.decide (r < (0 : Int))) (K ((0 : Int), (7 : Int), ()))
              ((Go.P10.okW l ∧ (0 : Go.Lom.AT.den (Go.Lom.AT.v Go.P10.I)) ≤ r) ∧
                ∀ (n : Int), n = Go.P10.needN l r → K (n, (0 : Int), ())))) := by kernel_rfl
abbrev sh24 : SV := S [(0, .v L), (3, .v I), (4, .v I)]
abbrev sh24e : SV := S [(3, .v I)]
abbrev lc24 : LC2 := ⟨0, sh24, 0, fun (l, n, i, _) Q => (l.length ≤ big ∧ (0 ≤ i ∧ i ≤ l.length) ∧ (l.length ≤ 6 → l.all inW = true → 0 ≤ n ∧ n ≤ 64 * i)) ∧ ∀ x, (l.length ≤ 6 → l.all inW = true → x = n + (l.drop i.toNat).sum) → Q (.exit 0) (stS 0 sh24e (x, ()))⟩
theorem v24L (l : List Int) (n i : Int) (Q : AX → St → Prop) : (xloop2 Try.prog { wr := true } 5 24 0 lc24 (fun _ => some (sh24e, 0)) (fun (l, _, i, _) => mL l i) (l, n, i, ()) Q) =
  (Go.Lom.fork (Decidable.decide (i < (↑(List.length l) : Int)))
      (Go.Lom.req (Decidable.decide ((0 : Int) ≤ i ∧ i < (↑(List.length l) : Int)))
        (Go.P10.mL l (Go.Lom.wrapA Go.IntKind.i64 (i + (1 : Int))) < Go.P10.mL l i ∧
          Go.Lom.LC2.spec Go.P10.lc24
            (l, Go.Lom.wrapA Go.IntKind.i64 (n + List.getD l (Int.toNat i) (0 : Int)),
              Go.Lom.wrapA Go.IntKind.i64 (i + (1 : Int)), ())
            Q))
      (Q (Go.Lom.AX.exit (0 : Nat)) (Go.Lom.stS (0 : Nat) Go.P10.sh24e (n, ())))) := by kernel_rfl
abbrev fc24w : FC := ⟨[.v L], [I], fun x K => x.1.length ≤ big ∧ ∀ n, (x.1.length ≤ 6 → x.1.all inW = true → n = x.1.sum) → K (n, ())⟩
theorem v24F (l : List Int) (K : dens [I] → Prop) : (xfn1 Try.prog { l2 := [(24, 0, lc24)] } 5 24 fc24w (l, ()) K) =
  ((List.length l ≤ (9223372036854775807 : Nat) ∧
        ((0 : Go.Lom.SV.den (Go.Lom.SV.slot (4 : Nat) (Go.Lom.SV.v Go.P10.I))) ≤ (0 : Int) ∧
            (0 : Int) ≤ (↑(List.length l) : Go.Lom.SV.den (Go.Lom.SV.slot (4 : Nat) (Go.Lom.SV.v Go.P10.I)))) ∧
          (List.length l ≤ (6 : Nat) →
            List.all l Go.P10.inW = Bool.true →
              (0 : Go.Lom.SV.den (Go.Lom.SV.slot (3 : Nat) (Go.Lom.SV.v Go.P10.I))) ≤ (0 : Int) ∧
                (0 : Int) ≤ (64 : Go.Lom.SV.den (Go.Lom.SV.slot (3 : Nat) (Go.Lom.SV.v Go.P10.I))) * (0 : Int))) ∧
      ∀
        (x :
          Go.Lom.SV.den
            (Go.Lom.SV.slot (Prod.fst ((3 : Nat), Go.Lom.SV.v Go.P10.I)) (Prod.snd ((3 : Nat), Go.Lom.SV.v Go.P10.I)))),
        (List.length l ≤ (6 : Nat) → List.all l Go.P10.inW = Bool.true → x = (0 : Int) + List.sum (List.drop (0 : Nat) l)) →
          K (x, ())) := by kernel_rfl
abbrev sh53 : SV := S [(0, .v L), (3, .v I), (4, .v I)]
abbrev sh53e : SV := S [(4, .v I)]
abbrev lc53 : LC2 := ⟨0, sh53, 0, fun (l, a, b, _) Q => (okW l ∧ -1 ≤ a ∧ a < b ∧ b ≤ 640000 ∧ needN l b ≤ 64 ∧ (a = -1 ∨ needN l a > 64)) ∧ ∀ r, leastR l r → Q (.exit 0) (stS 0 sh53e (r, ()))⟩
theorem v53L (l : List Int) (a b : Int) (Q : AX → St → Prop) : (xloop2 Try.prog { f := [(92, fc92)] } 5 53 0 lc53 (fun _ => some (sh53e, 0)) (fun (_, a, b, _) => (b - a).toNat) (l, a, b, ()) Q) =
  (Go.Lom.req (Go.Lom.inR Go.IntKind.i64 (b - a))
      (Go.Lom.fork (Decidable.decide (b - a > (1 : Int)))
        (Go.Lom.req (Go.Lom.inR Go.IntKind.i64 (a + b))
          (Go.Lom.req (Go.Lom.inR Go.IntKind.i64 (Int.tdiv (a + b) (2 : Int)))
            ((Go.P10.okW l ∧ (0 : Go.Lom.AT.den (Go.Lom.AT.v Go.P10.I)) ≤ Int.tdiv (a + b) (2 : Int)) ∧
              ∀ (n : Int),
                n = Go.P10.needN l (Int.tdiv (a + b) (2 : Int)) →
                  Go.Lom.fork (Decidable.decide (n ≤ (64 : Int)))
                    (Int.toNat (Int.tdiv (a + b) (2 : Int) - a) < Int.toNat (b - a) ∧
                      Go.Lom.LC2.spec Go.P10.lc53 (l, a, Int.tdiv (a + b) (2 : Int), ()) Q)
                    (Int.toNat (b - Int.tdiv (a + b) (2 : Int)) < Int.toNat (b - a) ∧
                      Go.Lom.LC2.spec Go.P10.lc53 (l, Int.tdiv (a + b) (2 : Int), b, ()) Q))))
        (Q (Go.Lom.AX.exit (0 : Nat)) (Go.Lom.stS (0 : Nat) Go.P10.sh53e (b, ()))))) := by kernel_rfl
abbrev fc53 : FC := ⟨[.v L], [I], fun x K => okW x.1 ∧ ∀ r, leastR x.1 r → K (r, ())⟩
theorem v53F (l : List Int) (K : dens [I] → Prop) : (xfn1 Try.prog { l2 := [(53, 0, lc53)] } 5 53 fc53 (l, ()) K) =
  ((Go.P10.okW l ∧
        (-1 : Go.Lom.SV.den (Go.Lom.SV.slot (3 : Nat) (Go.Lom.SV.v Go.P10.I))) ≤ (-1 : Int) ∧
          (-1 : Int) < (640000 : Int) ∧
            (640000 : Int) ≤ (640000 : Go.Lom.SV.den (Go.Lom.SV.slot (4 : Nat) (Go.Lom.SV.v Go.P10.I))) ∧
              Go.P10.needN l (640000 : Int) ≤ (64 : Int) ∧
                ((-1 : Int) = (-1 : Go.Lom.SV.den (Go.Lom.SV.slot (3 : Nat) (Go.Lom.SV.v Go.P10.I))) ∨
                  Go.P10.needN l (-1 : Int) > (64 : Int))) ∧
      ∀ (r : Int), Go.P10.leastR l r → K (r, ())) := by kernel_rfl
abbrev sh49a : SV := S [(0, .v L), (1, .v L), (6, .v .b), (7, .v I)]
abbrev sh49ae : SV := S [(0, .v L), (1, .v L), (6, .v .b)]
abbrev lc49a : LC2 := ⟨0, sh49a, 0, fun (l, ws, ok, i, _) Q => (ws.length ≤ big ∧ 0 ≤ i ∧ i ≤ ws.length) ∧ ∀ r : Bool, r = (ok && (ws.drop i.toNat).all inW) → Q (.exit 0) (stS 0 sh49ae (l, ws, r, ()))⟩
theorem v49A (l ws : List Int) (ok : Bool) (i : Int) (Q : AX → St → Prop) : (xloop2 Try.prog {} 5 49 0 lc49a (fun _ => some (sh49ae, 0)) (fun (_, ws, _, i, _) => mL ws i) (l, ws, ok, i, ()) Q) =
  (Go.Lom.fork (Decidable.decide (i < (↑(List.length ws) : Int)))
      (Go.Lom.fork ok
        (Go.Lom.req (Decidable.decide ((0 : Int) ≤ i ∧ i < (↑(List.length ws) : Int)))
          (Go.Lom.fork (Decidable.decide ((0 : Int) ≤ List.getD ws (Int.toNat i) (0 : Int)))
            (Go.Lom.req (Go.Lom.inR Go.IntKind.i64 (i + (1 : Int)))
              (Go.P10.mL ws (i + (1 : Int)) < Go.P10.mL ws i ∧
                Go.Lom.LC2.spec Go.P10.lc49a
                  (l, ws, Decidable.decide (List.getD ws (Int.toNat i) (0 : Int) ≤ (64 : Int)), i + (1 : Int), ()) Q))
            (Go.Lom.req (Go.Lom.inR Go.IntKind.i64 (i + (1 : Int)))
              (Go.P10.mL ws (i + (1 : Int)) < Go.P10.mL ws i ∧
                Go.Lom.LC2.spec Go.P10.lc49a (l, ws, Bool.false, i + (1 : Int), ()) Q))))
        (Go.Lom.req (Go.Lom.inR Go.IntKind.i64 (i + (1 : Int)))
          (Go.P10.mL ws (i + (1 : Int)) < Go.P10.mL ws i ∧
            Go.Lom.LC2.spec Go.P10.lc49a (l, ws, Bool.false, i + (1 : Int), ()) Q)))
      (Q (Go.Lom.AX.exit (0 : Nat)) (Go.Lom.stS (0 : Nat) Go.P10.sh49ae (l, ws, ok, ())))) := by kernel_rfl
abbrev sh49b : SV := S [(0, .v L), (1, .v L), (8, .v I), (9, .v I)]
abbrev sh49be : SV := S [(8, .v I)]
abbrev lc49b : LC2 := ⟨0, sh49b, 0, fun (l, ws, x, i, _) Q => (okW l ∧ ws.length = l.length ∧ (∀ w ∈ ws, 0 ≤ w ∧ w ≤ 64) ∧ (0 ≤ i ∧ i ≤ l.length)) ∧ ∀ x', x' = maxR (l.drop i.toNat) (ws.drop i.toNat) x → Q (.exit 2) (stS 0 sh49be (x', ()))⟩
theorem v49B (l ws : List Int) (x i : Int) (Q : AX → St → Prop) : (xloop2 Try.prog {} 5 49 1 lc49b (fun _ => some (sh49be, 0)) (fun (l, _, _, i, _) => mL l i) (l, ws, x, i, ()) Q) =
  (Go.Lom.fork (Decidable.decide (i < (↑(List.length l) : Int)))
      (Go.Lom.req (Decidable.decide ((0 : Int) ≤ i ∧ i < (↑(List.length l) : Int)))
        (Go.Lom.req (Decidable.decide ((0 : Int) ≤ i ∧ i < (↑(List.length ws) : Int)))
          (Go.Lom.req (Go.Lom.inR Go.IntKind.i64 ((64 : Int) - List.getD ws (Int.toNat i) (0 : Int)))
            (Go.Lom.req
              (Go.Lom.inR Go.IntKind.i64
                (List.getD l (Int.toNat i) (0 : Int) * ((64 : Int) - List.getD ws (Int.toNat i) (0 : Int))))
              (Go.Lom.req (Go.Lom.inR Go.IntKind.i64 (i + (1 : Int)))
                (Go.P10.mL l (i + (1 : Int)) < Go.P10.mL l i ∧
                  Go.Lom.LC2.spec Go.P10.lc49b
                    (l, ws,
                      if List.getD l (Int.toNat i) (0 : Int) * ((64 : Int) - List.getD ws (Int.toNat i) (0 : Int)) > x then
                        List.getD l (Int.toNat i) (0 : Int) * ((64 : Int) - List.getD ws (Int.toNat i) (0 : Int))
                      else x,
                      i + (1 : Int), ())
                    Q))))))
      (Q (Go.Lom.AX.exit (2 : Nat)) (Go.Lom.stS (0 : Nat) Go.P10.sh49be (x, ())))) := by kernel_rfl
theorem v49F (l ws : List Int) (K : dens [I, E] → Prop) : (xfn1 Try.prog { f := [(90, fc89), (24, fc24w)], l2 := [(49, 0, lc49a), (49, 1, lc49b)] } 5 49 fc48 (l, ws, ()) K) =
  (List.length l ≤ (9223372036854775807 : Nat) ∧
      ∀ (r : Bool),
        r = Decidable.decide (Go.P10.okW l) →
          Go.Lom.fork r
            (Go.Lom.fork ((↑(List.length ws) : Int) == (↑(List.length l) : Int))
              (List.length ws ≤ (9223372036854775807 : Nat) ∧
                ∀ (n : Go.Lom.Ty.den Go.P10.I),
                  (List.length ws ≤ (6 : Nat) → List.all ws Go.P10.inW = Bool.true → n = List.sum ws) →
                    (List.length ws ≤ (9223372036854775807 : Nat) ∧
                        (0 : Go.Lom.SV.den (Go.Lom.SV.slot (7 : Nat) (Go.Lom.SV.v Go.P10.I))) ≤ (0 : Int) ∧
                          (0 : Int) ≤
                            (↑(List.length ws) : Go.Lom.SV.den (Go.Lom.SV.slot (7 : Nat) (Go.Lom.SV.v Go.P10.I)))) ∧
                      ∀ (r : Bool),
                        r = (n == (64 : Int) && List.all (List.drop (0 : Nat) ws) Go.P10.inW) →
                          Go.Lom.fork (!r) (K ((0 : Int), (103 : Int), ()))
                            ((Go.P10.okW l ∧
                                List.length ws = List.length l ∧
                                  (∀ (w : Go.Lom.Ty.den Go.P10.I),
                                      w ∈ ws → (0 : Go.Lom.Ty.den Go.P10.I) ≤ w ∧ w ≤ (64 : Go.Lom.Ty.den Go.P10.I)) ∧
                                    (0 : Go.Lom.SV.den (Go.Lom.SV.slot (9 : Nat) (Go.Lom.SV.v Go.P10.I))) ≤ (0 : Int) ∧
                                      (0 : Int) ≤
                                        (↑(List.length l) :
                                          Go.Lom.SV.den (Go.Lom.SV.slot (9 : Nat) (Go.Lom.SV.v Go.P10.I)))) ∧
                              ∀ (x' : Int),
                                x' = Go.P10.maxR (List.drop (0 : Nat) l) (List.drop (0 : Nat) ws) (0 : Int) →
                                  K (x', (0 : Int), ())))
              ((List.length ws ≤ (9223372036854775807 : Nat) ∧
                  (0 : Go.Lom.SV.den (Go.Lom.SV.slot (7 : Nat) (Go.Lom.SV.v Go.P10.I))) ≤ (0 : Int) ∧
                    (0 : Int) ≤ (↑(List.length ws) : Go.Lom.SV.den (Go.Lom.SV.slot (7 : Nat) (Go.Lom.SV.v Go.P10.I)))) ∧
                ∀ (r : Bool),
                  r = (Bool.false && List.all (List.drop (0 : Nat) ws) Go.P10.inW) →
                    Go.Lom.fork (!r) (K ((0 : Int), (103 : Int), ()))
                      ((Go.P10.okW l ∧
                          List.length ws = List.length l ∧
                            (∀ (w : Go.Lom.Ty.den Go.P10.I),
                                w ∈ ws → (0 : Go.Lom.Ty.den Go.P10.I) ≤ w ∧ w ≤ (64 : Go.Lom.Ty.den Go.P10.I)) ∧
                              (0 : Go.Lom.SV.den (Go.Lom.SV.slot (9 : Nat) (Go.Lom.SV.v Go.P10.I))) ≤ (0 : Int) ∧
                                (0 : Int) ≤
                                  (↑(List.length l) : Go.Lom.SV.den (Go.Lom.SV.slot (9 : Nat) (Go.Lom.SV.v Go.P10.I)))) ∧
                        ∀ (x' : Int),
                          x' = Go.P10.maxR (List.drop (0 : Nat) l) (List.drop (0 : Nat) ws) (0 : Int) →
                            K (x', (0 : Int), ()))))
            ((List.length ws ≤ (9223372036854775807 : Nat) ∧
                (0 : Go.Lom.SV.den (Go.Lom.SV.slot (7 : Nat) (Go.Lom.SV.v Go.P10.I))) ≤ (0 : Int) ∧
                  (0 : Int) ≤ (↑(List.length ws) : Go.Lom.SV.den (Go.Lom.SV.slot (7 : Nat) (Go.Lom.SV.v Go.P10.I)))) ∧
              ∀ (r : Bool),
                r = (Bool.false && List.all (List.drop (0 : Nat) ws) Go.P10.inW) →
                  Go.Lom.fork (!r) (K ((0 : Int), (103 : Int), ()))
                    ((Go.P10.okW l ∧
                        List.length ws = List.length l ∧
                          (∀ (w : Go.Lom.Ty.den Go.P10.I),
                              w ∈ ws → (0 : Go.Lom.Ty.den Go.P10.I) ≤ w ∧ w ≤ (64 : Go.Lom.Ty.den Go.P10.I)) ∧
                            (0 : Go.Lom.SV.den (Go.Lom.SV.slot (9 : Nat) (Go.Lom.SV.v Go.P10.I))) ≤ (0 : Int) ∧
                              (0 : Int) ≤
                                (↑(List.length l) : Go.Lom.SV.den (Go.Lom.SV.slot (9 : Nat) (Go.Lom.SV.v Go.P10.I)))) ∧
                      ∀ (x' : Int),
                        x' = Go.P10.maxR (List.drop (0 : Nat) l) (List.drop (0 : Nat) ws) (0 : Int) →
                          K (x', (0 : Int), ())))) := by kernel_rfl
abbrev fc13 : FC := ⟨[.v L, .v L, .v I], [.b], fun x K => (x.1.length ≤ big ∧ x.2.1.length ≤ big ∧ x.2.2.1 ≤ 9223372036854775807) ∧ K (true, ())⟩
theorem v13F (l ws : List Int) (r : Int) (K : dens [.b] → Prop) : (xfn1 Try.prog { f := [(52, fc52), (48, fc48), (49, fc48), (50, fc50), (51, fc50), (53, fc53), (19, fcWorks)] } 5 13 fc13 (l, ws, r, ()) K) =
  ((List.length l ≤ (9223372036854775807 : Nat) ∧ List.length ws ≤ (9223372036854775807 : Nat)) ∧
      ∀ (n e : Int),
        (n, e) = Go.P10.riskV l ws →
          (List.length l ≤ (9223372036854775807 : Nat) ∧ List.length ws ≤ (9223372036854775807 : Nat)) ∧
            ∀ (n_1 e_1 : Int),
              (n_1, e_1) = Go.P10.riskV l ws →
                Go.Lom.fork (n != n_1) (K (Bool.false, ()))
                  (Go.Lom.fork (e != e_1) (K (Bool.false, ()))
                    ((List.length l ≤ (9223372036854775807 : Nat) ∧
                        r ≤ (9223372036854775807 : Go.Lom.AT.den (Go.Lom.AT.v Go.P10.I))) ∧
                      ∀ (n e : Int),
                        (n, e) = Go.P10.needV l r →
                          (List.length l ≤ (9223372036854775807 : Nat) ∧
                              r ≤ (9223372036854775807 : Go.Lom.AT.den (Go.Lom.AT.v Go.P10.I))) ∧
                            ∀ (n_2 e_2 : Int),
                              (n_2, e_2) = Go.P10.needV l r →
                                Go.Lom.fork (n != n_2) (K (Bool.false, ()))
                                  (Go.Lom.fork (e != e_2) (K (Bool.false, ()))
                                    (List.length l ≤ (9223372036854775807 : Nat) ∧
                                      ∀ (w : List Int) (r e : Int),
                                        Go.P10.patR l w r e →
                                          (List.length l ≤ (9223372036854775807 : Nat) ∧
                                              List.length w ≤ (9223372036854775807 : Nat)) ∧
                                            ∀ (n e_3 : Int),
                                              (n, e_3) = Go.P10.riskV l w →
                                                Go.Lom.fork (e != (0 : Int))
                                                  ((List.length l ≤ (9223372036854775807 : Nat) ∧
                                                      (0 : Int) ≤
                                                        (9223372036854775807 : Go.Lom.AT.den (Go.Lom.AT.v Go.P10.I))) ∧
                                                    ∀ (n e_4 : Int),
                                                      (n, e_4) = Go.P10.needV l (0 : Int) →
                                                        Go.Lom.fork (e == (103 : Int))
                                                          (Go.Lom.fork (e_4 == e)
                                                            (Go.Lom.fork ((↑(List.length w) : Int) == (0 : Int))
                                                              (Go.Lom.fork (r == (0 : Int)) (K (Bool.true, ()))
                                                                (K (Bool.false, ())))
                                                              (K (Bool.false, ())))
                                                            (K (Bool.false, ())))
                                                          (K (Bool.false, ())))
                                                  (Go.Lom.fork (e_3 == (0 : Int))
                                                    (Go.Lom.fork (n == r)
                                                      (Go.P10.okW l ∧
                                                        ∀ (r_1 : Int),
                                                          Go.P10.leastR l r_1 →
                                                            Go.Lom.fork (r == r_1) (K (Bool.true, ())) (K (Bool.false, ())))
                                                      (K (Bool.false, ())))
                                                    (K (Bool.false, ())))))))) := by kernel_rfl
end Go.P10
