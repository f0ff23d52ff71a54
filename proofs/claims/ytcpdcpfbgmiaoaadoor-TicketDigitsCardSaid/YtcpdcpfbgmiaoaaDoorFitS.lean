/- Tickets: edges and halves: states and what is to be shown, reduced. No conditions. -/
import Derived.Test.YtcpdcpfbgmiaoaaDoorTickS
set_option linter.unusedSimpArgs false
set_option linter.unusedVariables false
set_option linter.constructorNameAsVariable false
set_option maxRecDepth 100000
set_option maxHeartbeats 2000000
namespace Go.P3
open Go.Lom Go.Proofs Go

abbrev LL : Ty := .sl L
abbrev big : Nat := 9223372036854775807
abbrev shB4 : SV := S [(4, .v .b)]
def exB4 : Ex2
  | .ret => some (shB4, 0)
  | _ => some (.nil, 0)
def allFrom (lo : Int) (l : List Int) (i : Int) : Bool := (l.drop i.toNat).all fun x => decide (lo ≤ x ∧ x ≤ 9)
def inB (lo : Int) (l : List Int) : Bool := decide (8 ≤ l.length ∧ l.length ≤ 16) && allFrom lo l 0
abbrev C104 : AT := .clo 104 [] [(true, I)]
abbrev sh103 : SV := S [(1, .a C104), (7, .v L), (8, .v I), (9, .v I)]
def s103 (lo : Int) (l : List Int) (m i : Int) (Q : LQ) : Prop := (0 ≤ i ∧ i ≤ l.length ∧ m = l.length ∧ l.length ≤ 9223372036854775807) ∧
  ((allFrom lo l i = false → Q .ret (stS 0 shB4 (false, ()))) ∧ (allFrom lo l i = true → Q (.exit 0) (stS 0 .nil ())))
abbrev lc103 : LC2 := ⟨0, sh103, 0, fun (c, l, m, i, _) Q => s103 c.2.1 l m i Q⟩
theorem v103L (lo : Int) (l : List Int) (m i : Int) (Q : AX → St → Prop) : (xloop2 Tryd.prog { f := [(49, fcWith)] } 5 103 0 lc103 exB4 (fun (_, l, _, i, _) => mL l i) (((), lo, ()), l, m, i, ()) Q) =
  (Go.Lom.fork (Decidable.decide (i < m))
      (Go.Lom.req (Decidable.decide ((0 : Int) ≤ i ∧ i < (↑(List.length l) : Int)))
        (Go.Lom.fork
          (!Decidable.decide (lo ≤ List.getD l (Int.toNat i) (0 : Int) ∧ List.getD l (Int.toNat i) (0 : Int) ≤ (9 : Int)))
          (Q Go.Lom.AX.ret (Go.Lom.stS (0 : Nat) Go.P3.shB4 (Bool.false, ())))
          (Go.Lom.req (Go.Lom.inR Go.IntKind.i64 (i + (1 : Int)))
            (Go.P3.mL l (i + (1 : Int)) < Go.P3.mL l i ∧
              Go.Lom.LC2.spec Go.P3.lc103 (((), lo, ()), l, m, i + (1 : Int), ()) Q))))
      (Q (Go.Lom.AX.exit (0 : Nat)) (Go.Lom.stS (0 : Nat) Go.Lom.SV.nil ()))) := by kernel_rfl
abbrev fc103 : FC := ⟨[.v L, C104], [.b], fun x K => x.1.length ≤ 9223372036854775807 ∧ K (allFrom x.2.1.2.1 x.1 0, ())⟩
theorem v103F (lo : Int) (l : List Int) (K : dens [.b] → Prop) : (xfn1 Tryd.prog { l2 := [(103, 0, lc103)] } 5 103 fc103 (l, ((), lo, ()), ()) K) =
  (((0 : Int) ≤ (0 : Int) ∧
        (0 : Int) ≤ (↑(List.length l) : Int) ∧
          (↑(List.length l) : Int) = (↑(List.length l) : Int) ∧ List.length l ≤ (9223372036854775807 : Nat)) ∧
      (Go.P3.allFrom lo l (0 : Int) = Bool.false → K (Bool.false, ())) ∧
        (Go.P3.allFrom lo l (0 : Int) = Bool.true → K (Bool.true, ()))) := by kernel_rfl
abbrev fc88 : FC := ⟨[.v L, .v I], [.b], fun x K => K (inB x.2.1 x.1, ())⟩
theorem v88F (l : List Int) (lo : Int) (K : dens [.b] → Prop) : (xfn1 Tryd.prog { f := [(103, fc103), (49, fcWith)] } 5 88 fc88 (l, lo, ()) K) =
  (Go.Lom.fork (Decidable.decide ((8 : Int) ≤ (↑(List.length l) : Int) ∧ (↑(List.length l) : Int) ≤ (16 : Int)))
      (List.length l ≤ (9223372036854775807 : Nat) ∧ K (Go.P3.allFrom lo l (0 : Int), ())) (K (Bool.false, ()))) := by kernel_rfl
abbrev fcEdge (lo : Int) : FC := ⟨[.v L], [.b], fun x K => K (inB lo x.1, ())⟩
theorem v57F (l : List Int) (K : dens [.b] → Prop) : (xfn1 Tryd.prog { f := [(88, fc88)] } 5 57 (fcEdge 0) (l, ()) K) =
  (K (Go.P3.inB (0 : Int) l, ())) := by kernel_rfl
theorem v58F (l : List Int) (K : dens [.b] → Prop) : (xfn1 Tryd.prog { f := [(88, fc88)] } 5 58 (fcEdge (-1)) (l, ()) K) =
  (K (Go.P3.inB (-1 : Int) l, ())) := by kernel_rfl

/-! the reference's -/
abbrev sh89 : SV := S [(0, .v L), (1, .v I), (5, .v I)]
def s89 (l : List Int) (lo i : Int) (Q : LQ) : Prop := (0 ≤ i ∧ i ≤ l.length ∧ l.length ≤ 9223372036854775807) ∧
  ((allFrom lo l i = false → Q .ret (stS 0 shB4 (false, ()))) ∧ (allFrom lo l i = true → Q (.exit 0) (stS 0 .nil ())))
abbrev lc89 : LC2 := ⟨0, sh89, 0, fun (l, lo, i, _) Q => s89 l lo i Q⟩
theorem v89L (l : List Int) (lo i : Int) (Q : AX → St → Prop) : (xloop2 Tryd.prog { f := [(28, fcFrom)] } 5 89 0 lc89 exB4 (fun (l, _, i, _) => mL l i) (l, lo, i, ()) Q) =
  (Go.Lom.fork (Decidable.decide (i < (↑(List.length l) : Int)))
      (Go.Lom.req (Decidable.decide ((0 : Int) ≤ i ∧ i < (↑(List.length l) : Int)))
        (Go.Lom.fork
          (!Decidable.decide (lo ≤ List.getD l (Int.toNat i) (0 : Int) ∧ List.getD l (Int.toNat i) (0 : Int) ≤ (9 : Int)))
          (Q Go.Lom.AX.ret (Go.Lom.stS (0 : Nat) Go.P3.shB4 (Bool.false, ())))
          (Go.Lom.req (Go.Lom.inR Go.IntKind.i64 (i + (1 : Int)))
            (Go.P3.mL l (i + (1 : Int)) < Go.P3.mL l i ∧ Go.Lom.LC2.spec Go.P3.lc89 (l, lo, i + (1 : Int), ()) Q))))
      (Q (Go.Lom.AX.exit (0 : Nat)) (Go.Lom.stS (0 : Nat) Go.Lom.SV.nil ()))) := by kernel_rfl
theorem v89F (l : List Int) (lo : Int) (K : dens [.b] → Prop) : (xfn1 Tryd.prog { l2 := [(89, 0, lc89)], f := [(28, fcFrom)] } 5 89 fc88 (l, lo, ()) K) =
  (Go.Lom.fork (!Decidable.decide ((8 : Int) ≤ (↑(List.length l) : Int) ∧ (↑(List.length l) : Int) ≤ (16 : Int)))
      (K (Bool.false, ()))
      (((0 : Int) ≤ (0 : Int) ∧ (0 : Int) ≤ (↑(List.length l) : Int) ∧ List.length l ≤ (9223372036854775807 : Nat)) ∧
        (Go.P3.allFrom lo l (0 : Int) = Bool.false → K (Bool.false, ())) ∧
          (Go.P3.allFrom lo l (0 : Int) = Bool.true → K (Bool.true, ())))) := by kernel_rfl
theorem v60F (l : List Int) (K : dens [.b] → Prop) : (xfn1 Tryd.prog { f := [(89, fc88)] } 5 60 (fcEdge 0) (l, ()) K) =
  (K (Go.P3.inB (0 : Int) l, ())) := by kernel_rfl
theorem v61F (l : List Int) (K : dens [.b] → Prop) : (xfn1 Tryd.prog { f := [(89, fc88)] } 5 61 (fcEdge (-1)) (l, ()) K) =
  (K (Go.P3.inB (-1 : Int) l, ())) := by kernel_rfl

/-! what fits -/
def gI (l : List Int) (i : Int) : Int := l.getD i.toNat 0
def fitK (e h : List Int) : Nat → Int → Int → Option Int
  | 0, _, n => some n
  | k + 1, i, n => if gI h i = -1 then fitK e h k (i + 1) n else if gI h i ≠ gI e i then none else fitK e h k (i + 1) (n + 1)
def fitI (e h : List Int) : Int × Bool := if e.length ≠ h.length then (0, false) else match fitK e h h.length 0 0 with
  | none => (0, false)
  | some n => (n, decide (n ≥ 4))
abbrev shF4 : SV := S [(4, .v I), (5, .v .b)]
abbrev sh59 : SV := S [(0, .v L), (6, .v I), (14, .v L), (15, .v I), (16, .v I)]
abbrev sh59e : SV := S [(6, .v I)]
def ex59 : Ex2
  | .ret => some (shF4, 0)
  | _ => some (sh59e, 0)
def s59 (e : List Int) (n : Int) (h : List Int) (m i : Int) (Q : LQ) : Prop := (e.length = h.length ∧ 0 ≤ i ∧ i ≤ h.length ∧ m = h.length ∧ h.length ≤ 9223372036854775807 ∧ 0 ≤ n ∧ n ≤ i) ∧
  ((fitK e h (h.length - i.toNat) i n = none → Q .ret (stS 0 shF4 (0, false, ()))) ∧ (∀ r, fitK e h (h.length - i.toNat) i n = some r → Q (.exit 0) (stS 0 sh59e (r, ()))))
abbrev lc59 : LC2 := ⟨0, sh59, 0, fun (e, n, h, m, i, _) Q => s59 e n h m i Q⟩
theorem v59L (e : List Int) (n : Int) (h : List Int) (m i : Int) (Q : AX → St → Prop) : (xloop2 Tryd.prog {} 5 59 0 lc59 ex59 (fun (_, _, h, _, i, _) => mL h i) (e, n, h, m, i, ()) Q) =
  (Go.Lom.fork (Decidable.decide (i < m))
      (Go.Lom.req (Decidable.decide ((0 : Int) ≤ i ∧ i < (↑(List.length h) : Int)))
        (Go.Lom.fork (List.getD h (Int.toNat i) (0 : Int) == (-1 : Int))
          (Go.Lom.req (Go.Lom.inR Go.IntKind.i64 (i + (1 : Int)))
            (Go.P3.mL h (i + (1 : Int)) < Go.P3.mL h i ∧ Go.Lom.LC2.spec Go.P3.lc59 (e, n, h, m, i + (1 : Int), ()) Q))
          (Go.Lom.req (Decidable.decide ((0 : Int) ≤ i ∧ i < (↑(List.length e) : Int)))
            (Go.Lom.fork (List.getD h (Int.toNat i) (0 : Int) != List.getD e (Int.toNat i) (0 : Int))
              (Q Go.Lom.AX.ret (Go.Lom.stS (0 : Nat) Go.P3.shF4 ((0 : Int), Bool.false, ())))
              (Go.Lom.req (Go.Lom.inR Go.IntKind.i64 (n + (1 : Int)))
                (Go.Lom.req (Go.Lom.inR Go.IntKind.i64 (i + (1 : Int)))
                  (Go.P3.mL h (i + (1 : Int)) < Go.P3.mL h i ∧
                    Go.Lom.LC2.spec Go.P3.lc59 (e, n + (1 : Int), h, m, i + (1 : Int), ()) Q)))))))
      (Q (Go.Lom.AX.exit (0 : Nat)) (Go.Lom.stS (0 : Nat) Go.P3.sh59e (n, ())))) := by kernel_rfl
abbrev fc59 : FC := ⟨[.v L, .v L], [I, .b], fun x K => x.1.length ≤ 9223372036854775807 ∧ K ((fitI x.1 x.2.1).1, (fitI x.1 x.2.1).2, ())⟩
theorem v59F (e h : List Int) (K : dens [I, .b] → Prop) : (xfn1 Tryd.prog { l2 := [(59, 0, lc59)] } 5 59 fc59 (e, h, ()) K) =
  (Go.Lom.fork ((↑(List.length e) : Int) != (↑(List.length h) : Int)) (K ((0 : Int), Bool.false, ()))
      ((List.length e = List.length h ∧
          (0 : Int) ≤ (0 : Int) ∧
            (0 : Int) ≤ (↑(List.length h) : Int) ∧
              (↑(List.length h) : Int) = (↑(List.length h) : Int) ∧
                List.length h ≤ (9223372036854775807 : Nat) ∧ (0 : Int) ≤ (0 : Int) ∧ (0 : Int) ≤ (0 : Int)) ∧
        (Go.P3.fitK e h (List.length h - (0 : Nat)) (0 : Int) (0 : Int) = Option.none →
            K ((0 : Go.Lom.SV.den (Go.Lom.SV.slot (4 : Nat) (Go.Lom.SV.v Go.P3.I))), Bool.false, ())) ∧
          ∀ (r : Int),
            Go.P3.fitK e h (List.length h - (0 : Nat)) (0 : Int) (0 : Int) = Option.some r →
              K (r, Decidable.decide (r ≥ (4 : Int)), ()))) := by kernel_rfl
def fitE (e h : List Int) : Int × Int := if (inB 0 e && inB (-1) h) = true then (if (fitI e h).2 = true then ((fitI e h).1, 0) else (0, 32)) else (0, 31)
abbrev fcFit : FC := ⟨[.v L, .v L], [I, I], fun x K => K ((fitE x.1 x.2.1).1, (fitE x.1 x.2.1).2, ())⟩
theorem v22F (e h : List Int) (K : dens [I, I] → Prop) : (xfn1 Tryd.prog { f := [(57, fcEdge 0), (58, fcEdge (-1)), (59, fc59)] } 5 22 fcFit (e, h, ()) K) =
  (Go.Lom.fork (!Go.P3.inB (0 : Int) e) (K ((0 : Int), (31 : Int), ()))
      (Go.Lom.fork (!Go.P3.inB (-1 : Int) h) (K ((0 : Int), (31 : Int), ()))
        (List.length e ≤ (9223372036854775807 : Nat) ∧
          Go.Lom.fork (!Prod.snd (Go.P3.fitI e h)) (K ((0 : Int), (32 : Int), ()))
            (K (Prod.fst (Go.P3.fitI e h), (0 : Int), ()))))) := by kernel_rfl
/-- By the reference. -/
def rfI (e h : List Int) : Int := if (fitI e h).2 = true then (fitI e h).1 else -1
abbrev shR4 : SV := S [(4, .v I)]
abbrev sh62 : SV := S [(0, .v L), (1, .v L), (5, .v I), (6, .v I)]
abbrev sh62e : SV := S [(5, .v I)]
def ex62 : Ex2
  | .ret => some (shR4, 0)
  | _ => some (sh62e, 0)
def s62 (e h : List Int) (n i : Int) (Q : LQ) : Prop := (inB (-1) h = true ∧ 0 ≤ i ∧ i ≤ h.length ∧ 0 ≤ n ∧ n ≤ i ∧ (e.length ≠ h.length → i = 0 ∧ n = 0)) ∧
  ((e.length = h.length → fitK e h (h.length - i.toNat) i n = none → Q .ret (stS 0 shR4 (-1, ()))) ∧ (e.length = h.length → ∀ r, fitK e h (h.length - i.toNat) i n = some r → Q (.exit 0) (stS 0 sh62e (r, ()))) ∧
   (e.length ≠ h.length → Q (.exit 0) (stS 0 sh62e (0, ()))))
abbrev lc62 : LC2 := ⟨0, sh62, 0, fun (e, h, n, i, _) Q => s62 e h n i Q⟩
theorem v62L (e h : List Int) (n i : Int) (Q : AX → St → Prop) : (xloop2 Tryd.prog {} 5 62 0 lc62 ex62 (fun (_, h, _, i, _) => mL h i) (e, h, n, i, ()) Q) =
  (Go.Lom.fork (Decidable.decide (i < (↑(List.length h) : Int)))
      (Go.Lom.fork ((↑(List.length h) : Int) == (↑(List.length e) : Int))
        (Go.Lom.req (Decidable.decide ((0 : Int) ≤ i ∧ i < (↑(List.length h) : Int)))
          (Go.Lom.fork (Decidable.decide (List.getD h (Int.toNat i) (0 : Int) ≥ (0 : Int)))
            (Go.Lom.req (Decidable.decide ((0 : Int) ≤ i ∧ i < (↑(List.length h) : Int)))
              (Go.Lom.req (Decidable.decide ((0 : Int) ≤ i ∧ i < (↑(List.length e) : Int)))
                (Go.Lom.fork (List.getD h (Int.toNat i) (0 : Int) != List.getD e (Int.toNat i) (0 : Int))
                  (Q Go.Lom.AX.ret (Go.Lom.stS (0 : Nat) Go.P3.shR4 ((-1 : Int), ())))
                  (Go.Lom.req (Decidable.decide ((0 : Int) ≤ i ∧ i < (↑(List.length h) : Int)))
                    (Go.Lom.fork (Decidable.decide (List.getD h (Int.toNat i) (0 : Int) ≥ (0 : Int)))
                      (Go.Lom.req (Go.Lom.inR Go.IntKind.i64 (n + (1 : Int)))
                        (Go.Lom.req (Go.Lom.inR Go.IntKind.i64 (i + (1 : Int)))
                          (Go.P3.mL h (i + (1 : Int)) < Go.P3.mL h i ∧
                            Go.Lom.LC2.spec Go.P3.lc62 (e, h, n + (1 : Int), i + (1 : Int), ()) Q)))
                      (Go.Lom.req (Go.Lom.inR Go.IntKind.i64 (i + (1 : Int)))
                        (Go.P3.mL h (i + (1 : Int)) < Go.P3.mL h i ∧
                          Go.Lom.LC2.spec Go.P3.lc62 (e, h, n, i + (1 : Int), ()) Q)))))))
            (Go.Lom.req (Decidable.decide ((0 : Int) ≤ i ∧ i < (↑(List.length h) : Int)))
              (Go.Lom.fork (Decidable.decide (List.getD h (Int.toNat i) (0 : Int) ≥ (0 : Int)))
                (Go.Lom.req (Go.Lom.inR Go.IntKind.i64 (n + (1 : Int)))
                  (Go.Lom.req (Go.Lom.inR Go.IntKind.i64 (i + (1 : Int)))
                    (Go.P3.mL h (i + (1 : Int)) < Go.P3.mL h i ∧
                      Go.Lom.LC2.spec Go.P3.lc62 (e, h, n + (1 : Int), i + (1 : Int), ()) Q)))
                (Go.Lom.req (Go.Lom.inR Go.IntKind.i64 (i + (1 : Int)))
                  (Go.P3.mL h (i + (1 : Int)) < Go.P3.mL h i ∧
                    Go.Lom.LC2.spec Go.P3.lc62 (e, h, n, i + (1 : Int), ()) Q))))))
        (Q (Go.Lom.AX.exit (0 : Nat)) (Go.Lom.stS (0 : Nat) Go.P3.sh62e (n, ()))))
      (Q (Go.Lom.AX.exit (0 : Nat)) (Go.Lom.stS (0 : Nat) Go.P3.sh62e (n, ())))) := by kernel_rfl
abbrev fc62 : FC := ⟨[.v L, .v L], [I], fun x K => inB (-1) x.2.1 = true ∧ K (rfI x.1 x.2.1, ())⟩
theorem v62F (e h : List Int) (K : dens [I] → Prop) : (xfn1 Tryd.prog { l2 := [(62, 0, lc62)] } 5 62 fc62 (e, h, ()) K) =
  ((Go.P3.inB (-1 : Int) h = Bool.true ∧
        (0 : Int) ≤ (0 : Int) ∧
          (0 : Int) ≤ (↑(List.length h) : Int) ∧
            (0 : Int) ≤ (0 : Int) ∧
              (0 : Int) ≤ (0 : Int) ∧ (List.length e ≠ List.length h → (0 : Int) = (0 : Int) ∧ (0 : Int) = (0 : Int))) ∧
      (List.length e = List.length h →
          Go.P3.fitK e h (List.length h - (0 : Nat)) (0 : Int) (0 : Int) = Option.none →
            K ((-1 : Go.Lom.SV.den (Go.Lom.SV.slot (4 : Nat) (Go.Lom.SV.v Go.P3.I))), ())) ∧
        (List.length e = List.length h →
            ∀ (r : Int),
              Go.P3.fitK e h (List.length h - (0 : Nat)) (0 : Int) (0 : Int) = Option.some r →
                Go.Lom.fork (Decidable.decide (r < (4 : Int))) (K ((-1 : Int), ())) (K (r, ()))) ∧
          (List.length e ≠ List.length h → K ((-1 : Int), ()))) := by kernel_rfl
theorem v23F (e h : List Int) (K : dens [I, I] → Prop) : (xfn1 Tryd.prog { f := [(60, fcEdge 0), (61, fcEdge (-1)), (62, fc62)] } 5 23 fcFit (e, h, ()) K) =
  (Go.Lom.fork (!Go.P3.inB (0 : Int) e) (K ((0 : Int), (31 : Int), ()))
      (Go.Lom.fork (!Go.P3.inB (-1 : Int) h) (K ((0 : Int), (31 : Int), ()))
        (Go.P3.inB (-1 : Int) h = Bool.true ∧
          Go.Lom.fork (Decidable.decide (Go.P3.rfI e h < (0 : Int))) (K ((0 : Int), (32 : Int), ()))
            (K (Go.P3.rfI e h, (0 : Int), ()))))) := by kernel_rfl

/-! the best -/
def allH (hs : List (List Int)) (i : Int) : Bool := (hs.drop i.toNat).all (inB (-1))
abbrev C58 : AT := .clo 58 [] []
abbrev sh63 : SV := S [(1, .a C58), (7, .v LL), (8, .v I), (9, .v I)]
def s63 (hs : List (List Int)) (m i : Int) (Q : LQ) : Prop := (0 ≤ i ∧ i ≤ hs.length ∧ m = hs.length ∧ hs.length ≤ 9223372036854775807) ∧
  ((allH hs i = false → Q .ret (stS 0 shB4 (false, ()))) ∧ (allH hs i = true → Q (.exit 0) (stS 0 .nil ())))
abbrev lc63 : LC2 := ⟨0, sh63, 0, fun (_, l, m, i, _) Q => s63 l m i Q⟩
theorem v63L (l : List (List Int)) (m i : Int) (Q : AX → St → Prop) : (xloop2 Tryd.prog { f := [(58, fcEdge (-1))] } 5 63 0 lc63 exB4 (fun (_, l, _, i, _) => mL l i) (((), ()), l, m, i, ()) Q) =
  (Go.Lom.fork (Decidable.decide (i < m))
      (Go.Lom.req (Decidable.decide ((0 : Int) ≤ i ∧ i < (↑(List.length l) : Int)))
        (Go.Lom.fork (!Go.P3.inB (-1 : Int) (List.getD l (Int.toNat i) []))
          (Q Go.Lom.AX.ret (Go.Lom.stS (0 : Nat) Go.P3.shB4 (Bool.false, ())))
          (Go.Lom.req (Go.Lom.inR Go.IntKind.i64 (i + (1 : Int)))
            (Go.P3.mL l (i + (1 : Int)) < Go.P3.mL l i ∧
              Go.Lom.LC2.spec Go.P3.lc63 (((), ()), l, m, i + (1 : Int), ()) Q))))
      (Q (Go.Lom.AX.exit (0 : Nat)) (Go.Lom.stS (0 : Nat) Go.Lom.SV.nil ()))) := by kernel_rfl
abbrev fc63 : FC := ⟨[.v LL, C58], [.b], fun x K => x.1.length ≤ 9223372036854775807 ∧ K (allH x.1 0, ())⟩
theorem v63F (l : List (List Int)) (K : dens [.b] → Prop) : (xfn1 Tryd.prog { l2 := [(63, 0, lc63)] } 5 63 fc63 (l, ((), ()), ()) K) =
  (((0 : Int) ≤ (0 : Int) ∧
        (0 : Int) ≤ (↑(List.length l) : Int) ∧
          (↑(List.length l) : Int) = (↑(List.length l) : Int) ∧ List.length l ≤ (9223372036854775807 : Nat)) ∧
      (Go.P3.allH l (0 : Int) = Bool.false → K (Bool.false, ())) ∧ (Go.P3.allH l (0 : Int) = Bool.true → K (Bool.true, ()))) := by kernel_rfl
abbrev Tri := Int × Int × Int
def stepB (e : List Int) (x : Tri) (i : Int) (h : List Int) : Tri :=
  if (fitI e h).2 = false ∨ (fitI e h).1 < x.1 then x else if (fitI e h).1 = x.1 then (x.1, x.2.1, x.2.2 + 1) else ((fitI e h).1, i, 1)
def runB (e : List Int) (hs : List (List Int)) : Nat → Int → Tri → Tri
  | 0, _, x => x
  | k + 1, i, x => runB e hs k (i + 1) (stepB e x i (hs.getD i.toNat []))
abbrev sh24 : SV := S [(0, .v L), (6, .v I), (7, .v I), (8, .v I), (26, .v LL), (27, .v I), (28, .v I)]
abbrev sh24e : SV := S [(7, .v I), (8, .v I)]
def s24 (e : List Int) (a b c : Int) (hs : List (List Int)) (m i : Int) (Q : LQ) : Prop := (e.length ≤ 16 ∧ hs.length ≤ 16 ∧ 0 ≤ i ∧ i ≤ hs.length ∧ m = hs.length ∧ 0 ≤ c ∧ c ≤ i) ∧
  Q (.exit 0) (stS 0 sh24e ((runB e hs (hs.length - i.toNat) i (a, b, c)).2.1, (runB e hs (hs.length - i.toNat) i (a, b, c)).2.2, ()))
abbrev lc24 : LC2 := ⟨0, sh24, 0, fun (e, a, b, c, hs, m, i, _) Q => s24 e a b c hs m i Q⟩
theorem v24L (e : List Int) (a b c : Int) (hs : List (List Int)) (m i : Int) (Q : AX → St → Prop) : (xloop2 Tryd.prog { f := [(59, fc59)] } 5 24 0 lc24 (fun _ => some (sh24e, 0)) (fun (_, _, _, _, hs, _, i, _) => mL hs i) (e, a, b, c, hs, m, i, ()) Q) =
  (Go.Lom.fork (Decidable.decide (i < m))
      (Go.Lom.req (Decidable.decide ((0 : Int) ≤ i ∧ i < (↑(List.length hs) : Int)))
        (List.length e ≤ (9223372036854775807 : Nat) ∧
          Go.Lom.fork (!Prod.snd (Go.P3.fitI e (List.getD hs (Int.toNat i) [])))
            (Go.Lom.req (Go.Lom.inR Go.IntKind.i64 (i + (1 : Int)))
              (Go.P3.mL hs (i + (1 : Int)) < Go.P3.mL hs i ∧
                Go.Lom.LC2.spec Go.P3.lc24 (e, a, b, c, hs, m, i + (1 : Int), ()) Q))
            (Go.Lom.fork (Decidable.decide (Prod.fst (Go.P3.fitI e (List.getD hs (Int.toNat i) [])) < a))
              (Go.Lom.req (Go.Lom.inR Go.IntKind.i64 (i + (1 : Int)))
                (Go.P3.mL hs (i + (1 : Int)) < Go.P3.mL hs i ∧
                  Go.Lom.LC2.spec Go.P3.lc24 (e, a, b, c, hs, m, i + (1 : Int), ()) Q))
              (Go.Lom.fork (Prod.fst (Go.P3.fitI e (List.getD hs (Int.toNat i) [])) == a)
                (Go.Lom.req (Go.Lom.inR Go.IntKind.i64 (c + (1 : Int)))
                  (Go.Lom.req (Go.Lom.inR Go.IntKind.i64 (i + (1 : Int)))
                    (Go.P3.mL hs (i + (1 : Int)) < Go.P3.mL hs i ∧
                      Go.Lom.LC2.spec Go.P3.lc24 (e, a, b, c + (1 : Int), hs, m, i + (1 : Int), ()) Q)))
                (Go.Lom.req (Go.Lom.inR Go.IntKind.i64 (i + (1 : Int)))
                  (Go.P3.mL hs (i + (1 : Int)) < Go.P3.mL hs i ∧
                    Go.Lom.LC2.spec Go.P3.lc24
                      (e, Prod.fst (Go.P3.fitI e (List.getD hs (Int.toNat i) [])), i, (1 : Int), hs, m, i + (1 : Int), ())
                      Q))))))
      (Q (Go.Lom.AX.exit (0 : Nat)) (Go.Lom.stS (0 : Nat) Go.P3.sh24e (b, c, ())))) := by kernel_rfl
def bestX (e : List Int) (hs : List (List Int)) : Tri := runB e hs hs.length 0 (0, 0, 0)
def bestE (e : List Int) (hs : List (List Int)) : Int × Int := if inB 0 e = true ∧ hs.length ≤ 16 ∧ allH hs 0 = true then (if (bestX e hs).2.2 = 1 then ((bestX e hs).2.1, 0) else (0, 4)) else (0, 31)
abbrev fcBest : FC := ⟨[.v L, .v LL], [I, I], fun x K => K ((bestE x.1 x.2.1).1, (bestE x.1 x.2.1).2, ())⟩
theorem v24F (e : List Int) (hs : List (List Int)) (K : dens [I, I] → Prop) : (xfn1 Tryd.prog { l2 := [(24, 0, lc24)], f := [(57, fcEdge 0), (63, fc63)] } 5 24 fcBest (e, hs, ()) K) =
  (Go.Lom.fork (!Go.P3.inB (0 : Int) e) (K ((0 : Int), (31 : Int), ()))
      (Go.Lom.fork (Decidable.decide ((↑(List.length hs) : Int) > (16 : Int))) (K ((0 : Int), (31 : Int), ()))
        (List.length hs ≤ (9223372036854775807 : Nat) ∧
          Go.Lom.fork (!Go.P3.allH hs (0 : Int)) (K ((0 : Int), (31 : Int), ()))
            ((List.length e ≤ (16 : Nat) ∧
                List.length hs ≤ (16 : Nat) ∧
                  (0 : Int) ≤ (0 : Int) ∧
                    (0 : Int) ≤ (↑(List.length hs) : Int) ∧
                      (↑(List.length hs) : Int) = (↑(List.length hs) : Int) ∧
                        (0 : Int) ≤ (0 : Int) ∧ (0 : Int) ≤ (0 : Int)) ∧
              Go.Lom.fork
                (Prod.snd
                    (Prod.snd (Go.P3.runB e hs (List.length hs - (0 : Nat)) (0 : Int) ((0 : Int), (0 : Int), (0 : Int)))) !=
                  (1 : Int))
                (K ((0 : Int), (4 : Int), ()))
                (K
                  (Prod.fst
                      (Prod.snd (Go.P3.runB e hs (List.length hs - (0 : Nat)) (0 : Int) ((0 : Int), (0 : Int), (0 : Int)))),
                    (0 : Int), ())))))) := by kernel_rfl
end Go.P3
