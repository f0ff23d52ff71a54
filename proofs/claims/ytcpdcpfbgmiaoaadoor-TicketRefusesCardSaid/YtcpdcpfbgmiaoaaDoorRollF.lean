/- Rolls: what can be asked of a roll, and calls of the statements: states and what is to be shown, reduced. No conditions. -/
import Derived.Test.YtcpdcpfbgmiaoaaDoorRollD
set_option linter.unusedSimpArgs false
set_option linter.unusedVariables false
set_option linter.constructorNameAsVariable false
set_option maxRecDepth 100000
set_option maxHeartbeats 2000000
namespace Go.P3
open Go.Lom Go.Proofs Go

abbrev rollL : SV := A [.v I, .v I, .lst 1 T6, .lst 2 E5, .v .b]
/-! Live -/
abbrev sh48 : SV := S [(0, .box 0 rollL), (1, .v .s), (21, .sls 1 6), (22, .v I), (23, .v I)]
abbrev sh48e : SV := SB [] (A [.blk 0 rollL])
abbrev sh48r : SV := SB [(4, .v .s), (5, .v I)] (A [.blk 0 rollL])
def ex48 : Ex2
  | .ret => some (sh48r, 3)
  | _ => some (sh48e, 3)
abbrev lc48 : LC2 := ⟨3, sh48, 3, fun (r, p, n, m, i, _) Q => (n = r.2.2.1.length ∧ m = r.2.2.1.length ∧ 0 ≤ i ∧ i ≤ r.2.2.1.length ∧ r.2.2.1.length ≤ 256 ∧ ∀ t ∈ r.2.2.1, 0 ≤ t.1 ∧ t.1 ≤ 99999999) ∧
  ((r.2.2.1.drop i.toNat).any (fun t => named p t && liveB t) = false → Q (.exit 0) (stS 3 sh48e (r, ()))) ∧
  ((r.2.2.1.drop i.toNat).any (fun t => named p t && liveB t) = true → Q .ret (stS 3 sh48r ((liveK (r.2.2.1.drop i.toNat) p).1, 0, r, ())))⟩
theorem v48L (w d0 : Int) (ts : List Tk) (es : List Ev) (b : Bool) (p : Tx) (m i : Int) (Q : AX → St → Prop) : (xloop2 Tryd.prog { f := [(50, fcCodeX)] } 5 48 0 lc48 ex48 (fun (r, _, _, _, i, _) => mL r.2.2.1 i) ((w, d0, ts, es, b, ()), p, ts.length, m, i, ()) Q) =
(fork (decide (i < m)) (req (decide ((0 : Int) ≤ i ∧ i < (↑(List.length ts) : Int))) (req (decide (Int.toNat i < List.length ts)) (fork (Prod.fst (Prod.snd (List.getD ts (Int.toNat i) ((0 : Int), [], (0 : Int), [], (0 :
 Int), (0 : Int)))) == p) (fork (Prod.fst (Prod.snd (Prod.snd (List.getD ts (Int.toNat i) ((0 : Int), [], (0 : Int), [], (0 : Int), (0 : Int))))) == (1 : Int)) (((0 : AT.den (AT.v Go.P3.I)) ≤ Prod.fst (List.getD ts
 (Int.toNat i) ((0 : Int), [], (0 : Int), [], (0 : Int), (0 : Int))) ∧ Prod.fst (List.getD ts (Int.toNat i) ((0 : Int), [], (0 : Int), [], (0 : Int), (0 : Int))) ≤ (99999999 : AT.den (AT.v Go.P3.I))) ∧ ∀ (s : Go.P3.Tx), s
 = Go.P3.codeS (Prod.fst (List.getD ts (Int.toNat i) ((0 : Int), [], (0 : Int), [], (0 : Int), (0 : Int)))) → req (decide (List.length ts = List.length ts)) (req (decide (List.length es = List.length es)) (Q AX.ret (stS
 (3 : Nat) Go.P3.sh48r (s, (0 : Int), (w, d0, ts, es, b, ()), ()))))) (fork (Prod.fst (Prod.snd (Prod.snd (List.getD ts (Int.toNat i) ((0 : Int), [], (0 : Int), [], (0 : Int), (0 : Int))))) == (2 : Int)) (((0 : AT.den
 (AT.v Go.P3.I)) ≤ Prod.fst (List.getD ts (Int.toNat i) ((0 : Int), [], (0 : Int), [], (0 : Int), (0 : Int))) ∧ Prod.fst (List.getD ts (Int.toNat i) ((0 : Int), [], (0 : Int), [], (0 : Int), (0 : Int))) ≤ (99999999 :
 AT.den (AT.v Go.P3.I))) ∧ ∀ (s : Go.P3.Tx), s = Go.P3.codeS (Prod.fst (List.getD ts (Int.toNat i) ((0 : Int), [], (0 : Int), [], (0 : Int), (0 : Int)))) → req (decide (List.length ts = List.length ts)) (req (decide
 (List.length es = List.length es)) (Q AX.ret (stS (3 : Nat) Go.P3.sh48r (s, (0 : Int), (w, d0, ts, es, b, ()), ()))))) (req (inR Go.IntKind.i64 (i + (1 : Int))) (req (decide (List.length ts = List.length ts)) (req
 (decide (List.length es = List.length es)) (Go.P3.mL ts (i + (1 : Int)) < Go.P3.mL ts i ∧ LC2.spec Go.P3.lc48 ((w, d0, ts, es, b, ()), p, List.length ts, m, i + (1 : Int), ()) Q)))))) (req (inR Go.IntKind.i64 (i + (1 :
 Int))) (req (decide (List.length ts = List.length ts)) (req (decide (List.length es = List.length es)) (Go.P3.mL ts (i + (1 : Int)) < Go.P3.mL ts i ∧ LC2.spec Go.P3.lc48 ((w, d0, ts, es, b, ()), p, List.length ts, m, i +
 (1 : Int), ()) Q))))))) (req (decide (List.length ts = List.length ts)) (req (decide (List.length es = List.length es)) (Q (AX.exit (0 : Nat)) (stS (3 : Nat) Go.P3.sh48e ((w, d0, ts, es, b, ()), ())))))) := by kernel_rfl
abbrev fcLive : FC2 := ⟨A [.box 0 (rollC 1 2), .v .s], 3, A [.box 0 (rollC 3 4), .any, .v .s, .v I], 5, fun ((w, d0, ts, es, rdy, _), p, _) K => (okR (w, d0, ts, es) ∧ rdy = true) ∧
  ∀ (s : Tx) (e : Int), (s, e) = liveI (w, d0, ts, es) p → K ((w, d0, ts, es, true, ()), (), s, e, ())⟩
theorem v48F (w d0 : Int) (ts : List Tk) (es : List Ev) (p : Tx) (K : fcLive.post.den → Prop) : (xfn2 Tryd.prog { l2 := [(48, 0, lc48)] } 5 48 fcLive ((w, d0, ts, es, true, ()), p, ()) K) =
(req (decide (List.length ts = List.length ts)) (req (decide (List.length es = List.length es)) ((List.length ts = List.length ts ∧ (↑(List.length ts) : Int) = (↑(List.length ts) : SV.den (SV.slot (22 : Nat) (SV.v
 Go.P3.I))) ∧ (0 : SV.den (SV.slot (23 : Nat) (SV.v Go.P3.I))) ≤ (0 : Int) ∧ (0 : Int) ≤ (↑(List.length ts) : SV.den (SV.slot (23 : Nat) (SV.v Go.P3.I))) ∧ List.length ts ≤ (256 : Nat) ∧ ∀ (t : Ty.den Go.P3.T6), t ∈ ts →
 (0 : Ty.den Go.P3.I) ≤ Prod.fst t ∧ Prod.fst t ≤ (99999999 : Ty.den Go.P3.I)) ∧ ((List.any (List.drop (0 : Nat) ts) fun t => Go.P3.named p t && Go.P3.liveB t) = Bool.false → req (decide ((0 : Nat) + List.length ts ≤
 List.length ts)) (req (decide ((0 : Nat) + List.length es ≤ List.length es)) (K ((w, d0, seg (0 : Nat) (List.length ts) ts, seg (0 : Nat) (List.length es) es, Bool.true, ()), (), [], (4 : Int), ())))) ∧ ((List.any
 (List.drop (0 : Nat) ts) fun t => Go.P3.named p t && Go.P3.liveB t) = Bool.true → req (decide ((0 : Nat) + List.length ts ≤ List.length ts)) (req (decide ((0 : Nat) + List.length es ≤ List.length es)) (K ((w, d0, seg (0
 : Nat) (List.length ts) ts, seg (0 : Nat) (List.length es) es, Bool.true, ()), (), Prod.fst (Go.P3.liveK (List.drop (0 : Nat) ts) p), (0 : SV.den (SV.slot (5 : Nat) (SV.v Go.P3.I))), ()))))))) := by kernel_rfl
/-! Line -/
abbrev sh44 : SV := S [(0, .box 0 rollL), (6, .v I), (8, .own 3 I)]
abbrev sh44e : SV := SB [(8, .own 3 I)] (A [.blk 0 rollL])
abbrev lc44 : LC2 := ⟨3, sh44, 4, fun (r, n, o, _) Q => (0 ≤ n ∧ n ≤ r.2.2.1.length ∧ r.2.2.1.length ≤ 256 ∧ (o.length : Int) + n ≤ 256 ∧ ∀ i : Int, 1 ≤ i → i ≤ r.2.2.1.length → 0 ≤ (tkI r.2.2.1 i).2.2.2.2.2 ∧ (tkI r.2.2.1 i).2.2.2.2.2 ≤ i - 1) ∧
  Q (.exit 0) (stS 4 sh44e (o ++ lineK r.2.2.1 n.toNat n, r, ()))⟩
theorem v44L (w d0 : Int) (ts : List Tk) (es : List Ev) (b : Bool) (n : Int) (o : List Int) (Q : AX → St → Prop) : (xloop2 Tryd.prog { nm := true } 5 44 0 lc44 (fun _ => some (sh44e, 4)) (fun (_, n, _) => n.toNat) ((w, d0, ts, es, b, ()), n, o, ()) Q) =
(fork (decide (n > (0 : Int))) (req (decide ((0 : Nat) + List.length o ≤ List.length o)) (req (fitsN (List.length o + (1 : Nat)) (8 : Nat)) (∀ (ys : List (Ty.den (Ty.i Go.IntKind.i64))), ys = seg (0 : Nat) (List.length
 o) o ++ [n] → req (inR Go.IntKind.i64 (n - (1 : Int))) (req (decide ((0 : Int) ≤ n - (1 : Int) ∧ n - (1 : Int) < (↑(List.length ts) : Int))) (req (decide (Int.toNat (n - (1 : Int)) < List.length ts)) (req (decide
 (List.length ts = List.length ts)) (req (decide (List.length es = List.length es)) (req (decide ((0 : Nat) + (List.length o + (1 : Nat)) ≤ List.length ys)) (Int.toNat (Prod.snd (Prod.snd (Prod.snd (Prod.snd (Prod.snd
 (List.getD ts (Int.toNat (n - (1 : Int))) ((0 : Int), [], (0 : Int), [], (0 : Int), (0 : Int)))))))) < Int.toNat n ∧ LC2.spec Go.P3.lc44 ((w, d0, ts, es, b, ()), Prod.snd (Prod.snd (Prod.snd (Prod.snd (Prod.snd
 (List.getD ts (Int.toNat (n - (1 : Int))) ((0 : Int), [], (0 : Int), [], (0 : Int), (0 : Int))))))), seg (0 : Nat) (List.length o + (1 : Nat)) ys, ()) Q))))))))) (req (decide ((0 : Nat) + List.length o ≤ List.length o))
 (req (decide (List.length ts = List.length ts)) (req (decide (List.length es = List.length es)) (Q (AX.exit (0 : Nat)) (stS (4 : Nat) Go.P3.sh44e (seg (0 : Nat) (List.length o) o, (w, d0, ts, es, b, ()), ()))))))) := by kernel_rfl
abbrev fcLine : FC2 := ⟨A [.box 0 (rollC 1 2), .v .s], 3, A [.box 0 (rollC 3 4), .any, .v L, .v I], 5, fun ((w, d0, ts, es, rdy, _), p, _) K => (okR (w, d0, ts, es) ∧ rdy = true) ∧
  ∀ (s : List Int) (e : Int), (s, e) = lineI (w, d0, ts, es) p → K ((w, d0, ts, es, true, ()), (), s, e, ())⟩
theorem v44F (w d0 : Int) (ts : List Tk) (es : List Ev) (p : Tx) (K : fcLine.post.den → Prop) : (xfn2 Tryd.prog { f := [(16, fcNumX)], l2 := [(44, 0, lc44)] } 5 44 fcLine ((w, d0, ts, es, true, ()), p, ()) K) =
(∀ (r e : Int), (r, e) = Go.P3.numberI p → fork (e != (0 : Int)) (req (decide ((0 : Nat) + List.length ts ≤ List.length ts)) (req (decide ((0 : Nat) + List.length es ≤ List.length es)) (K ((w, d0, seg (0 : Nat)
 (List.length ts) ts, seg (0 : Nat) (List.length es) es, Bool.true, ()), (), [], e, ())))) (fork (decide (r > (↑(List.length ts) : Int))) (req (decide ((0 : Nat) + List.length ts ≤ List.length ts)) (req (decide ((0 : Nat)
 + List.length es ≤ List.length es)) (K ((w, d0, seg (0 : Nat) (List.length ts) ts, seg (0 : Nat) (List.length es) es, Bool.true, ()), (), [], (4 : Int), ())))) (req (decide (List.length ts = List.length ts)) (req (decide
 (List.length es = List.length es)) (((0 : SV.den (SV.slot (6 : Nat) (SV.v Go.P3.I))) ≤ r ∧ r ≤ (↑(List.length ts) : SV.den (SV.slot (6 : Nat) (SV.v Go.P3.I))) ∧ List.length ts ≤ (256 : Nat) ∧ (0 : Int) + r ≤ (256 : Int)
 ∧ ∀ (i : Int), (1 : Int) ≤ i → i ≤ (↑(List.length ts) : Int) → (0 : Int) ≤ Prod.snd (Prod.snd (Prod.snd (Prod.snd (Prod.snd (Go.P3.tkI ts i))))) ∧ Prod.snd (Prod.snd (Prod.snd (Prod.snd (Prod.snd (Go.P3.tkI ts i))))) ≤ i
 - (1 : Int)) ∧ req (decide ((0 : Nat) + List.length ts ≤ List.length ts)) (req (decide ((0 : Nat) + List.length es ≤ List.length es)) (req (decide ((0 : Nat) + List.length ([] ++ Go.P3.lineK ts (Int.toNat r) r) ≤
 List.length ([] ++ Go.P3.lineK ts (Int.toNat r) r))) (K ((w, d0, seg (0 : Nat) (List.length ts) ts, seg (0 : Nat) (List.length es) es, Bool.true, ()), (), seg (0 : Nat) (List.length ([] ++ Go.P3.lineK ts (Int.toNat r)
 r)) ([] ++ Go.P3.lineK ts (Int.toNat r) r), (0 : Int), ()))))))))) := by kernel_rfl
/-! Tickets, Events -/
abbrev sh30 : SV := S [(0, .box 0 rollL), (3, .own 3 T6), (13, .sls 1 6), (14, .v I), (15, .v I)]
abbrev sh30e : SV := SB [(3, .own 3 T6)] (A [.blk 0 rollL])
abbrev lc30 : LC2 := ⟨3, sh30, 4, fun (r, o, n, m, i, _) Q => (n = r.2.2.1.length ∧ m = r.2.2.1.length ∧ 0 ≤ i ∧ i ≤ r.2.2.1.length ∧ r.2.2.1.length ≤ 256 ∧ o = r.2.2.1.take i.toNat ∧ ∀ t ∈ r.2.2.1, t.2.2.2.1.length ≤ 100) ∧
  Q (.exit 0) (stS 4 sh30e (r.2.2.1, r, ()))⟩
theorem v30L (w d0 : Int) (ts : List Tk) (es : List Ev) (b : Bool) (o : List Tk) (m i : Int) (Q : AX → St → Prop) : (xloop2 Tryd.prog { nm := true, f := [(64, fcId)] } 5 30 0 lc30 (fun _ => some (sh30e, 4)) (fun (r, _, _, _, i, _) => mL r.2.2.1 i) ((w, d0, ts, es, b, ()), o, ts.length, m, i, ()) Q) =
(fork (decide (i < m)) (req (decide ((0 : Int) ≤ i ∧ i < (↑(List.length ts) : Int))) (req (decide (Int.toNat i < List.length ts)) (List.length (Prod.fst (Prod.snd (Prod.snd (Prod.snd (List.getD ts (Int.toNat i) ((0 :
 Int), [], (0 : Int), [], (0 : Int), (0 : Int))))))) ≤ (100 : Nat) ∧ ∀ (r : List Int), r = Prod.fst (Prod.snd (Prod.snd (Prod.snd (List.getD ts (Int.toNat i) ((0 : Int), [], (0 : Int), [], (0 : Int), (0 : Int)))))) → req
 (decide ((0 : Nat) + List.length o ≤ List.length o)) (req (fitsN (List.length o + (1 : Nat)) (72 : Nat)) (∀ (ys : List (Ty.den (Ty.pr (Ty.i Go.IntKind.i64) (Ty.pr Ty.s (Ty.pr (Ty.i Go.IntKind.i64) (Ty.pr (Ty.sl (Ty.i
 Go.IntKind.i64)) (Ty.pr (Ty.i Go.IntKind.i64) (Ty.i Go.IntKind.i64)))))))), ys = seg (0 : Nat) (List.length o) o ++ [(Prod.fst (List.getD ts (Int.toNat i) ((0 : Int), [], (0 : Int), [], (0 : Int), (0 : Int))), Prod.fst
 (Prod.snd (List.getD ts (Int.toNat i) ((0 : Int), [], (0 : Int), [], (0 : Int), (0 : Int)))), Prod.fst (Prod.snd (Prod.snd (List.getD ts (Int.toNat i) ((0 : Int), [], (0 : Int), [], (0 : Int), (0 : Int))))), r, Prod.snd
 (Prod.snd (Prod.snd (Prod.snd (List.getD ts (Int.toNat i) ((0 : Int), [], (0 : Int), [], (0 : Int), (0 : Int)))))))] → req (inR Go.IntKind.i64 (i + (1 : Int))) (req (decide (List.length ts = List.length ts)) (req (decide
 (List.length es = List.length es)) (req (decide ((0 : Nat) + (List.length o + (1 : Nat)) ≤ List.length ys)) (Go.P3.mL ts (i + (1 : Int)) < Go.P3.mL ts i ∧ LC2.spec Go.P3.lc30 ((w, d0, ts, es, b, ()), seg (0 : Nat)
 (List.length o + (1 : Nat)) ys, List.length ts, m, i + (1 : Int), ()) Q))))))))) (req (decide ((0 : Nat) + List.length o ≤ List.length o)) (req (decide (List.length ts = List.length ts)) (req (decide (List.length es =
 List.length es)) (Q (AX.exit (0 : Nat)) (stS (4 : Nat) Go.P3.sh30e (seg (0 : Nat) (List.length o) o, (w, d0, ts, es, b, ()), ()))))))) := by kernel_rfl
abbrev fcTix : FC2 := ⟨A [.box 0 (rollC 1 2)], 3, A [.box 0 (rollC 3 4), .v (.sl T6)], 5, fun ((w, d0, ts, es, rdy, _), _) K => (ts.length ≤ 256 ∧ ∀ t ∈ ts, t.2.2.2.1.length ≤ 100) ∧
  ∀ (l : List Tk), l = ts → K ((w, d0, ts, es, rdy, ()), l, ())⟩
theorem v30F (w d0 : Int) (ts : List Tk) (es : List Ev) (b : Bool) (K : fcTix.post.den → Prop) : (xfn2 Tryd.prog { l2 := [(30, 0, lc30)] } 5 30 fcTix ((w, d0, ts, es, b, ()), ()) K) =
(req (decide (List.length ts = List.length ts)) (req (decide (List.length es = List.length es)) ((List.length ts = List.length ts ∧ (↑(List.length ts) : Int) = (↑(List.length ts) : SV.den (SV.slot (14 : Nat) (SV.v
 Go.P3.I))) ∧ (0 : SV.den (SV.slot (15 : Nat) (SV.v Go.P3.I))) ≤ (0 : Int) ∧ (0 : Int) ≤ (↑(List.length ts) : SV.den (SV.slot (15 : Nat) (SV.v Go.P3.I))) ∧ List.length ts ≤ (256 : Nat) ∧ [] = List.take (0 : Nat) ts ∧ ∀ (t
 : Ty.den Go.P3.T6), t ∈ ts → List.length (Prod.fst (Prod.snd (Prod.snd (Prod.snd t)))) ≤ (100 : Nat)) ∧ req (decide ((0 : Nat) + List.length ts ≤ List.length ts)) (req (decide ((0 : Nat) + List.length es ≤ List.length
 es)) (req (decide ((0 : Nat) + List.length ts ≤ List.length ts)) (K ((w, d0, seg (0 : Nat) (List.length ts) ts, seg (0 : Nat) (List.length es) es, b, ()), seg (0 : Nat) (List.length ts) ts, ()))))))) := by kernel_rfl
abbrev fcEvs : FC2 := ⟨A [.box 0 (rollC 1 2)], 3, A [.box 0 (rollC 3 4), .v (.sl E5)], 5, fun ((w, d0, ts, es, rdy, _), _) K => es.length ≤ 1000 ∧
  ∀ (l : List Ev), l = es → K ((w, d0, ts, es, rdy, ()), l, ())⟩
theorem v38F (w d0 : Int) (ts : List Tk) (es : List Ev) (b : Bool) (K : fcEvs.post.den → Prop) : (xfn2 Tryd.prog { f2 := [(78, fcClE)] } 5 38 fcEvs ((w, d0, ts, es, b, ()), ()) K) =
(req (decide (List.length es = List.length es)) (List.length es ≤ (1000 : Nat) ∧ req (decide ((0 : Nat) + List.length ts ≤ List.length ts)) (req (decide ((0 : Nat) + List.length es ≤ List.length es)) (req (decide ((0 :
 Nat) + List.length es ≤ List.length es)) (K ((w, d0, seg (0 : Nat) (List.length ts) ts, seg (0 : Nat) (List.length es) es, b, ()), seg (0 : Nat) (List.length es) es, ())))))) := by kernel_rfl
/-! calls -/
abbrev CT : Ty := .pr I (.pr I (.pr .s (.pr .s (.pr L (.pr LT LL)))))
structure okCl (c : Cl) : Prop where
  pledge : c.2.2.2.1.length ≤ big
  names : c.2.2.2.2.2.1.length ≤ big ∧ ∀ p ∈ c.2.2.2.2.2.1, p.length ≤ big
  edges : c.2.2.2.2.2.2.length ≤ big
abbrev fcCall : FC2 := ⟨A [.box 0 (rollC 1 2), .v CT], 3, A [.box 0 (rollC 3 4), .any, .v LT, .v L, .v I], 5, fun ((w, d0, ts, es, rdy, _), c, _) K => (okR (w, d0, ts, es) ∧ rdy = true ∧ fitsN (es.length + 1) 40 = true ∧ okCl c) ∧
  ∀ (w1 d1 : Int) (ts1 : List Tk) (es1 : List Ev) (tx : List Tx) (l : List Int) (e : Int), ((w1, d1, ts1, es1), tx, l, e) = callI (w, d0, ts, es) c → K ((w1, d1, ts1, es1, true, ()), (), tx, l, e, ())⟩
theorem v31F (w d0 : Int) (ts : List Tk) (es : List Ev) (k d : Int) (c p : Tx) (h : List Int) (ps : List Tx) (eds : List (List Int)) (K : fcCall.post.den → Prop) : (xfn2 Tryd.prog { nm := true, f2 := [(86, fcDo), (48, fcLive), (44, fcLine)] } 8 31 fcCall ((w, d0, ts, es, true, ()), (k, d, c, p, h, ps, eds), ()) K) =
(fork (k == (1 : Int)) (fork ((↑(List.length eds) : Int) == (0 : Int)) (AV.int Go.IntKind.i64 d = AV.int Go.IntKind.i64 d ∧ AV.str p = AV.str p ∧ req (decide ((0 : Nat) + List.length ts ≤ List.length ts)) (req (decide
 ((0 : Nat) + List.length es ≤ List.length es)) (Go.P3.preD w d0 (seg (0 : Nat) (List.length ts) ts) (seg (0 : Nat) (List.length es) es) Bool.true (1 : Int) [] [p] [[]] [] [] ∧ ∀ (w1 d1 : Int) (ts1 : List Go.P3.Tk) (es1 :
 List Go.P3.Ev) (c1 : Go.P3.Tx) (h1 : List Int) (ps1 : List Go.P3.Tx) (eds1 : List (List Int)) (dd1 : Int) (cs1 : List Go.P3.Tx) (pl1 : Go.P3.Tx) (e : Int), ((w1, d1, ts1, es1), cs1, pl1, e) = Go.P3.doC (1 : Int) (w, d0,
 seg (0 : Nat) (List.length ts) ts, seg (0 : Nat) (List.length es) es) [] [] [p] [[]] d → fork ((↑(List.length cs1) : Int) == (0 : Int)) (req (decide ((0 : Nat) + List.length ts1 ≤ List.length ts1)) (req (decide ((0 :
 Nat) + List.length es1 ≤ List.length es1)) (K ((w1, d1, seg (0 : Nat) (List.length ts1) ts1, seg (0 : Nat) (List.length es1) es1, Bool.true, ()), (), [[]], [], e, ())))) (req (decide ((0 : Int) ≤ (0 : Int) ∧ (0 : Int) <
 (↑(List.length cs1) : Int))) (req (decide ((0 : Nat) < List.length cs1)) (req (decide ((0 : Nat) + List.length ts1 ≤ List.length ts1)) (req (decide ((0 : Nat) + List.length es1 ≤ List.length es1)) (K ((w1, d1, seg (0 :
 Nat) (List.length ts1) ts1, seg (0 : Nat) (List.length es1) es1, Bool.true, ()), (), [List.getD cs1 (0 : Nat) []], [], e, ()))))))))) (req (decide ((0 : Int) ≤ (0 : Int) ∧ (0 : Int) < (↑(List.length eds) : Int))) (AV.int
 Go.IntKind.i64 d = AV.int Go.IntKind.i64 d ∧ AV.str p = AV.str p ∧ req (decide ((0 : Nat) + List.length ts ≤ List.length ts)) (req (decide ((0 : Nat) + List.length es ≤ List.length es)) (Go.P3.preD w d0 (seg (0 : Nat)
 (List.length ts) ts) (seg (0 : Nat) (List.length es) es) Bool.true (1 : Int) [] [p] [List.getD eds (0 : Nat) []] [] [] ∧ ∀ (w1 d1 : Int) (ts1 : List Go.P3.Tk) (es1 : List Go.P3.Ev) (c1 : Go.P3.Tx) (h1 : List Int) (ps1 :
 List Go.P3.Tx) (eds1 : List (List Int)) (dd1 : Int) (cs1 : List Go.P3.Tx) (pl1 : Go.P3.Tx) (e : Int), ((w1, d1, ts1, es1), cs1, pl1, e) = Go.P3.doC (1 : Int) (w, d0, seg (0 : Nat) (List.length ts) ts, seg (0 : Nat)
 (List.length es) es) [] [] [p] [List.getD eds (0 : Nat) []] d → fork ((↑(List.length cs1) : Int) == (0 : Int)) (req (decide ((0 : Nat) + List.length ts1 ≤ List.length ts1)) (req (decide ((0 : Nat) + List.length es1 ≤
 List.length es1)) (K ((w1, d1, seg (0 : Nat) (List.length ts1) ts1, seg (0 : Nat) (List.length es1) es1, Bool.true, ()), (), [[]], [], e, ())))) (req (decide ((0 : Int) ≤ (0 : Int) ∧ (0 : Int) < (↑(List.length cs1) :
 Int))) (req (decide ((0 : Nat) < List.length cs1)) (req (decide ((0 : Nat) + List.length ts1 ≤ List.length ts1)) (req (decide ((0 : Nat) + List.length es1 ≤ List.length es1)) (K ((w1, d1, seg (0 : Nat) (List.length ts1)
 ts1, seg (0 : Nat) (List.length es1) es1, Bool.true, ()), (), [List.getD cs1 (0 : Nat) []], [], e, ()))))))))))) (fork (k == (2 : Int)) (req (decide ((0 : Nat) + List.length ts ≤ List.length ts)) (req (decide ((0 : Nat)
 + List.length es ≤ List.length es)) (Go.P3.preD w d0 (seg (0 : Nat) (List.length ts) ts) (seg (0 : Nat) (List.length es) es) Bool.true (2 : Int) [] [] [] [] [] ∧ ∀ (w1 d1 : Int) (ts1 : List Go.P3.Tk) (es1 : List
 Go.P3.Ev) (c1 : Go.P3.Tx) (h1 : List Int) (ps1 : List Go.P3.Tx) (eds1 : List (List Int)) (dd1 : Int) (cs1 : List Go.P3.Tx) (pl1 : Go.P3.Tx) (e : Int), ((w1, d1, ts1, es1), cs1, pl1, e) = Go.P3.doC (2 : Int) (w, d0, seg
 (0 : Nat) (List.length ts) ts, seg (0 : Nat) (List.length es) es) c [] [] [] d → req (decide ((0 : Nat) + List.length ts1 ≤ List.length ts1)) (req (decide ((0 : Nat) + List.length es1 ≤ List.length es1)) (K ((w1, d1, seg
 (0 : Nat) (List.length ts1) ts1, seg (0 : Nat) (List.length es1) es1, Bool.true, ()), (), [[]], [], e, ())))))) (fork (k == (3 : Int)) (req (decide ((0 : Nat) + List.length ts ≤ List.length ts)) (req (decide ((0 : Nat) +
 List.length es ≤ List.length es)) (Go.P3.preD w d0 (seg (0 : Nat) (List.length ts) ts) (seg (0 : Nat) (List.length es) es) Bool.true (3 : Int) h [] [] [] [] ∧ ∀ (w1 d1 : Int) (ts1 : List Go.P3.Tk) (es1 : List Go.P3.Ev)
 (c1 : Go.P3.Tx) (h1 : List Int) (ps1 : List Go.P3.Tx) (eds1 : List (List Int)) (dd1 : Int) (cs1 : List Go.P3.Tx) (pl1 : Go.P3.Tx) (e : Int), ((w1, d1, ts1, es1), cs1, pl1, e) = Go.P3.doC (3 : Int) (w, d0, seg (0 : Nat)
 (List.length ts) ts, seg (0 : Nat) (List.length es) es) c h [] [] d → req (decide ((0 : Nat) + List.length ts1 ≤ List.length ts1)) (req (decide ((0 : Nat) + List.length es1 ≤ List.length es1)) (K ((w1, d1, seg (0 : Nat)
 (List.length ts1) ts1, seg (0 : Nat) (List.length es1) es1, Bool.true, ()), (), [[]], [], e, ())))))) (fork (k == (4 : Int)) (fork ((↑(List.length eds) : Int) == (0 : Int)) (AV.int Go.IntKind.i64 d = AV.int
 Go.IntKind.i64 d ∧ AV.str c = AV.str c ∧ req (decide ((0 : Nat) + List.length ts ≤ List.length ts)) (req (decide ((0 : Nat) + List.length es ≤ List.length es)) (Go.P3.preD w d0 (seg (0 : Nat) (List.length ts) ts) (seg (0
 : Nat) (List.length es) es) Bool.true (4 : Int) [] [] [[]] [] [] ∧ ∀ (w1 d1 : Int) (ts1 : List Go.P3.Tk) (es1 : List Go.P3.Ev) (c1 : Go.P3.Tx) (h1 : List Int) (ps1 : List Go.P3.Tx) (eds1 : List (List Int)) (dd1 : Int)
 (cs1 : List Go.P3.Tx) (pl1 : Go.P3.Tx) (e : Int), ((w1, d1, ts1, es1), cs1, pl1, e) = Go.P3.doC (4 : Int) (w, d0, seg (0 : Nat) (List.length ts) ts, seg (0 : Nat) (List.length es) es) c [] [] [[]] d → fork
 ((↑(List.length cs1) : Int) == (0 : Int)) (req (decide ((0 : Nat) + List.length ts1 ≤ List.length ts1)) (req (decide ((0 : Nat) + List.length es1 ≤ List.length es1)) (K ((w1, d1, seg (0 : Nat) (List.length ts1) ts1, seg
 (0 : Nat) (List.length es1) es1, Bool.true, ()), (), [[]], [], e, ())))) (req (decide ((0 : Int) ≤ (0 : Int) ∧ (0 : Int) < (↑(List.length cs1) : Int))) (req (decide ((0 : Nat) < List.length cs1)) (req (decide ((0 : Nat)
 + List.length ts1 ≤ List.length ts1)) (req (decide ((0 : Nat) + List.length es1 ≤ List.length es1)) (K ((w1, d1, seg (0 : Nat) (List.length ts1) ts1, seg (0 : Nat) (List.length es1) es1, Bool.true, ()), (), [List.getD
 cs1 (0 : Nat) []], [], e, ()))))))))) (req (decide ((0 : Int) ≤ (0 : Int) ∧ (0 : Int) < (↑(List.length eds) : Int))) (AV.int Go.IntKind.i64 d = AV.int Go.IntKind.i64 d ∧ AV.str c = AV.str c ∧ req (decide ((0 : Nat) +
 List.length ts ≤ List.length ts)) (req (decide ((0 : Nat) + List.length es ≤ List.length es)) (Go.P3.preD w d0 (seg (0 : Nat) (List.length ts) ts) (seg (0 : Nat) (List.length es) es) Bool.true (4 : Int) [] [] [List.getD
 eds (0 : Nat) []] [] [] ∧ ∀ (w1 d1 : Int) (ts1 : List Go.P3.Tk) (es1 : List Go.P3.Ev) (c1 : Go.P3.Tx) (h1 : List Int) (ps1 : List Go.P3.Tx) (eds1 : List (List Int)) (dd1 : Int) (cs1 : List Go.P3.Tx) (pl1 : Go.P3.Tx) (e :
 Int), ((w1, d1, ts1, es1), cs1, pl1, e) = Go.P3.doC (4 : Int) (w, d0, seg (0 : Nat) (List.length ts) ts, seg (0 : Nat) (List.length es) es) c [] [] [List.getD eds (0 : Nat) []] d → fork ((↑(List.length cs1) : Int) == (0
 : Int)) (req (decide ((0 : Nat) + List.length ts1 ≤ List.length ts1)) (req (decide ((0 : Nat) + List.length es1 ≤ List.length es1)) (K ((w1, d1, seg (0 : Nat) (List.length ts1) ts1, seg (0 : Nat) (List.length es1) es1,
 Bool.true, ()), (), [[]], [], e, ())))) (req (decide ((0 : Int) ≤ (0 : Int) ∧ (0 : Int) < (↑(List.length cs1) : Int))) (req (decide ((0 : Nat) < List.length cs1)) (req (decide ((0 : Nat) + List.length ts1 ≤ List.length
 ts1)) (req (decide ((0 : Nat) + List.length es1 ≤ List.length es1)) (K ((w1, d1, seg (0 : Nat) (List.length ts1) ts1, seg (0 : Nat) (List.length es1) es1, Bool.true, ()), (), [List.getD cs1 (0 : Nat) []], [], e,
 ()))))))))))) (fork (k == (5 : Int)) (req (decide ((0 : Nat) + List.length ts ≤ List.length ts)) (req (decide ((0 : Nat) + List.length es ≤ List.length es)) (Go.P3.preD w d0 (seg (0 : Nat) (List.length ts) ts) (seg (0 :
 Nat) (List.length es) es) Bool.true (5 : Int) h ps eds [] [] ∧ ∀ (w1 d1 : Int) (ts1 : List Go.P3.Tk) (es1 : List Go.P3.Ev) (c1 : Go.P3.Tx) (h1 : List Int) (ps1 : List Go.P3.Tx) (eds1 : List (List Int)) (dd1 : Int) (cs1 :
 List Go.P3.Tx) (pl1 : Go.P3.Tx) (e : Int), ((w1, d1, ts1, es1), cs1, pl1, e) = Go.P3.doC (5 : Int) (w, d0, seg (0 : Nat) (List.length ts) ts, seg (0 : Nat) (List.length es) es) c h ps eds d → req (decide ((0 : Nat) +
 List.length ts1 ≤ List.length ts1)) (req (decide ((0 : Nat) + List.length es1 ≤ List.length es1)) (req (decide ((0 : Nat) + List.length cs1 ≤ List.length cs1)) (K ((w1, d1, seg (0 : Nat) (List.length ts1) ts1, seg (0 :
 Nat) (List.length es1) es1, Bool.true, ()), (), seg (0 : Nat) (List.length cs1) cs1, [], e, ()))))))) (fork (k == (6 : Int)) (req (decide ((0 : Nat) + List.length ts ≤ List.length ts)) (req (decide ((0 : Nat) +
 List.length es ≤ List.length es)) (Go.P3.preD w d0 (seg (0 : Nat) (List.length ts) ts) (seg (0 : Nat) (List.length es) es) Bool.true (6 : Int) h [] [] [] [] ∧ ∀ (w1 d1 : Int) (ts1 : List Go.P3.Tk) (es1 : List Go.P3.Ev)
 (c1 : Go.P3.Tx) (h1 : List Int) (ps1 : List Go.P3.Tx) (eds1 : List (List Int)) (dd1 : Int) (cs1 : List Go.P3.Tx) (pl1 : Go.P3.Tx) (e : Int), ((w1, d1, ts1, es1), cs1, pl1, e) = Go.P3.doC (6 : Int) (w, d0, seg (0 : Nat)
 (List.length ts) ts, seg (0 : Nat) (List.length es) es) c h [] [] d → req (decide ((0 : Nat) + List.length ts1 ≤ List.length ts1)) (req (decide ((0 : Nat) + List.length es1 ≤ List.length es1)) (K ((w1, d1, seg (0 : Nat)
 (List.length ts1) ts1, seg (0 : Nat) (List.length es1) es1, Bool.true, ()), (), [pl1], [], e, ())))))) (fork (k == (7 : Int)) (req (decide ((0 : Nat) + List.length ts ≤ List.length ts)) (req (decide ((0 : Nat) +
 List.length es ≤ List.length es)) (Go.P3.preD w d0 (seg (0 : Nat) (List.length ts) ts) (seg (0 : Nat) (List.length es) es) Bool.true (7 : Int) [] [] [] [] [] ∧ ∀ (w1 d1 : Int) (ts1 : List Go.P3.Tk) (es1 : List Go.P3.Ev)
 (c1 : Go.P3.Tx) (h1 : List Int) (ps1 : List Go.P3.Tx) (eds1 : List (List Int)) (dd1 : Int) (cs1 : List Go.P3.Tx) (pl1 : Go.P3.Tx) (e : Int), ((w1, d1, ts1, es1), cs1, pl1, e) = Go.P3.doC (7 : Int) (w, d0, seg (0 : Nat)
 (List.length ts) ts, seg (0 : Nat) (List.length es) es) c [] [] [] d → req (decide ((0 : Nat) + List.length ts1 ≤ List.length ts1)) (req (decide ((0 : Nat) + List.length es1 ≤ List.length es1)) (K ((w1, d1, seg (0 : Nat)
 (List.length ts1) ts1, seg (0 : Nat) (List.length es1) es1, Bool.true, ()), (), [pl1], [], e, ())))))) (fork (k == (8 : Int)) (req (decide ((0 : Nat) + List.length ts ≤ List.length ts)) (req (decide ((0 : Nat) +
 List.length es ≤ List.length es)) ((Go.P3.okR (w, d0, seg (0 : Nat) (List.length ts) ts, seg (0 : Nat) (List.length es) es) ∧ Bool.true = Bool.true) ∧ ∀ (s : Go.P3.Tx) (e : Int), (s, e) = Go.P3.liveI (w, d0, seg (0 :
 Nat) (List.length ts) ts, seg (0 : Nat) (List.length es) es) p → req (decide ((0 : Nat) + List.length (seg (0 : Nat) (List.length ts) ts) ≤ List.length (seg (0 : Nat) (List.length ts) ts))) (req (decide ((0 : Nat) +
 List.length (seg (0 : Nat) (List.length es) es) ≤ List.length (seg (0 : Nat) (List.length es) es))) (K ((w, d0, seg (0 : Nat) (List.length (seg (0 : Nat) (List.length ts) ts)) (seg (0 : Nat) (List.length ts) ts), seg (0
 : Nat) (List.length (seg (0 : Nat) (List.length es) es)) (seg (0 : Nat) (List.length es) es), Bool.true, ()), (), [s], [], e, ())))))) (req (decide ((0 : Nat) + List.length ts ≤ List.length ts)) (req (decide ((0 : Nat) +
 List.length es ≤ List.length es)) ((Go.P3.okR (w, d0, seg (0 : Nat) (List.length ts) ts, seg (0 : Nat) (List.length es) es) ∧ Bool.true = Bool.true) ∧ ∀ (s : List Int) (e : Int), (s, e) = Go.P3.lineI (w, d0, seg (0 :
 Nat) (List.length ts) ts, seg (0 : Nat) (List.length es) es) c → req (decide ((0 : Nat) + List.length (seg (0 : Nat) (List.length ts) ts) ≤ List.length (seg (0 : Nat) (List.length ts) ts))) (req (decide ((0 : Nat) +
 List.length (seg (0 : Nat) (List.length es) es) ≤ List.length (seg (0 : Nat) (List.length es) es))) (K ((w, d0, seg (0 : Nat) (List.length (seg (0 : Nat) (List.length ts) ts)) (seg (0 : Nat) (List.length ts) ts), seg (0
 : Nat) (List.length (seg (0 : Nat) (List.length es) es)) (seg (0 : Nat) (List.length es) es), Bool.true, ()), (), [], s, e, ())))))))))))))) := by kernel_rfl
end Go.P3
