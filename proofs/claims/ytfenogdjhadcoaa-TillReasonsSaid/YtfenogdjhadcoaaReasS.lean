/- TillReasons: states and what is to be shown, reduced. No conditions. -/
import Derived.Test.YtfenogdjhadcoaaCutL
import Derived.Test.YtfenogdjhadcoaaAlarmS
set_option linter.unusedSimpArgs false
set_option linter.unusedVariables false
set_option linter.constructorNameAsVariable false
set_option maxRecDepth 100000
set_option maxHeartbeats 2000000
namespace Go.P8
open Go.Lom Go.Proofs Go

abbrev Rp : Type := List Dl × List Lk × Wt
/-- Are these some dealings of a window, each once, in order? Their sum. -/
def insF (w : Wt) (l : List Dl) (h : List Int) (k : Int) : List Int → Int → Int → Int × Bool
  | [], _, n => (n, true)
  | x :: xs, prev, n => if (0 ≤ x ∧ x ≤ k ∧ prev < x) ∧ winB w l h k x = true then insF w l h k xs x (n + amt l x) else (0, false)
def prevI (l : List Int) (i : Int) : Int := if i = 0 then -1 else l.getD (i - 1).toNat 0
abbrev sh36 : SV := S [(1, .v L), (2, .v I), (3, .v L), (4, .box 0 (.v TRep)), (10, .v I), (11, .v I)]
abbrev sh36e : SV := S [(10, .v I)]
abbrev sh36r : SV := S [(8, .v I), (9, .v .b)]
def ex36 : Ex2
  | .ret => some (sh36r, 0)
  | _ => some (sh36e, 0)
def insP (x : Rp) (h : List Int) (k : Int) : Prop := wtOk x.2.2 = true ∧ x.1.length ≤ 64 ∧ (∀ d ∈ x.1, dayOk d) ∧ h.length = 24 ∧ 0 ≤ k ∧ k < x.1.length
abbrev lc36 : LC2 := ⟨0, sh36, 1, fun (h, k, l, x, n, i, _) Q => (insP x h k ∧ l.length ≤ big ∧ 0 ≤ i ∧ i ≤ l.length ∧ i ≤ prevI l i + 1 ∧ prevI l i ≤ k ∧ 0 ≤ n ∧ n ≤ i * 1073741824) ∧ ∀ (m : Int) (b : Bool), (m, b) = insF x.2.2 x.1 h k (l.drop i.toNat) (prevI l i) n → (b = true → Q (.exit 0) (stS 0 sh36e (m, ()))) ∧ (b = false → Q .ret (stS 0 sh36r (0, false, ())))⟩
theorem v36L (h : List Int) (k : Int) (l : List Int) (ld : List Dl) (ls : List Lk) (w : Wt) (n i : Int) (Q : AX → St → Prop) : (xloop2 Try.prog { f := [(26, fcFrom')] } 5 36 0 lc36 ex36 (fun (_, _, l, _, _, i, _) => mL l i) (h, k, l, (ld, ls, w), n, i, ()) Q) =
  (fork (decide (i < (↑(l.length) : Int))) (req (decide ((0 : Int) ≤ i ∧ i < (↑(l.length) : Int))) (∀ (b : Bool), b = decide ((0 : Int) ≤ List.getD l (Int.toNat i) (0 : Int) ∧ List.getD l (Int.toNat i) (0 : Int) ≤ k) → fork
 (!b) (Q AX.ret (stS 0 Go.P8.sh36r ((0 : Int), false, ()))) (fork (decide (i > (0 : Int))) (req (inR IntKind.i64 (i - 1)) (req (decide ((0 : Int) ≤ i - 1 ∧ i - 1 < (↑(l.length) : Int))) (req (decide ((0 : Int) ≤ i ∧ i <
 (↑(l.length) : Int))) (fork (decide (List.getD l (Int.toNat (i - 1)) (0 : Int) ≥ List.getD l (Int.toNat i) (0 : Int))) (Q AX.ret (stS 0 Go.P8.sh36r ((0 : Int), false, ()))) (req (decide ((0 : Int) ≤ i ∧ i < (↑(l.length) :
 Int))) (req (decide ((0 : Int) ≤ List.getD l (Int.toNat i) (0 : Int) ∧ List.getD l (Int.toNat i) (0 : Int) < (↑(ld.length) : Int))) (∀ (b : Bool), b = decide ((0 : Int) ≤ ((List.getD ld (Int.toNat (List.getD l (Int.toNat
 i) (0 : Int))) ((0 : Int), (0 : Int), (0 : Int))).2).1 ∧ ((List.getD ld (Int.toNat (List.getD l (Int.toNat i) (0 : Int))) ((0 : Int), (0 : Int), (0 : Int))).2).1 ≤ (23 : Int)) → fork (!b) (Q AX.ret (stS 0 Go.P8.sh36r ((0
 : Int), false, ()))) (req (decide ((0 : Int) ≤ k ∧ k < (↑(ld.length) : Int))) (∀ (b : Bool), b = decide ((0 : Int) ≤ (List.getD ld (Int.toNat k) ((0 : Int), (0 : Int), (0 : Int))).2.1 ∧ (List.getD ld (Int.toNat k) ((0 :
 Int), (0 : Int), (0 : Int))).2.1 ≤ (23 : Int)) → fork (!b) (Q AX.ret (stS 0 Go.P8.sh36r ((0 : Int), false, ()))) (req (decide ((0 : Int) ≤ i ∧ i < (↑(l.length) : Int))) (req (decide ((0 : Int) ≤ List.getD l (Int.toNat i)
 (0 : Int) ∧ List.getD l (Int.toNat i) (0 : Int) < (↑(ld.length) : Int))) (req (decide ((0 : Int) ≤ ((List.getD ld (Int.toNat (List.getD l (Int.toNat i) (0 : Int))) ((0 : Int), (0 : Int), (0 : Int))).2).1 ∧ ((List.getD ld
 (Int.toNat (List.getD l (Int.toNat i) (0 : Int))) ((0 : Int), (0 : Int), (0 : Int))).2).1 < (↑(h.length) : Int))) (req (decide ((0 : Int) ≤ k ∧ k < (↑(ld.length) : Int))) (req (decide ((0 : Int) ≤ (List.getD ld (Int.toNat
 k) ((0 : Int), (0 : Int), (0 : Int))).2.1 ∧ (List.getD ld (Int.toNat k) ((0 : Int), (0 : Int), (0 : Int))).2.1 < (↑(h.length) : Int))) (fork (List.getD h (Int.toNat (((List.getD ld (Int.toNat (List.getD l (Int.toNat i) (0
 : Int))) ((0 : Int), (0 : Int), (0 : Int))).2).1)) (0 : Int) != List.getD h (Int.toNat ((List.getD ld (Int.toNat k) ((0 : Int), (0 : Int), (0 : Int))).2.1)) (0 : Int)) (Q AX.ret (stS 0 Go.P8.sh36r ((0 : Int), false, ())))
 (req (decide ((0 : Int) ≤ i ∧ i < (↑(l.length) : Int))) (req (decide ((0 : Int) ≤ List.getD l (Int.toNat i) (0 : Int) ∧ List.getD l (Int.toNat i) (0 : Int) < (↑(ld.length) : Int))) (req (decide ((0 : Int) ≤ k ∧ k <
 (↑(ld.length) : Int))) (req (inR IntKind.i64 ((List.getD ld (Int.toNat k) ((0 : Int), (0 : Int), (0 : Int))).1 - w.1)) (fork (decide ((List.getD ld (Int.toNat (List.getD l (Int.toNat i) (0 : Int))) ((0 : Int), (0 : Int),
 (0 : Int))).1 ≤ (List.getD ld (Int.toNat k) ((0 : Int), (0 : Int), (0 : Int))).1 - w.1)) (Q AX.ret (stS 0 Go.P8.sh36r ((0 : Int), false, ()))) (req (decide ((0 : Int) ≤ i ∧ i < (↑(l.length) : Int))) (req (decide ((0 :
 Int) ≤ List.getD l (Int.toNat i) (0 : Int) ∧ List.getD l (Int.toNat i) (0 : Int) < (↑(ld.length) : Int))) (req (inR IntKind.i64 (n + ((List.getD ld (Int.toNat (List.getD l (Int.toNat i) (0 : Int))) ((0 : Int), (0 : Int),
 (0 : Int))).2).2)) (req (inR IntKind.i64 (i + 1)) (Go.P8.mL l (i + 1) < Go.P8.mL l i ∧ LC2.spec Go.P8.lc36 (h, k, l, (ld, ls, w), n + ((List.getD ld (Int.toNat (List.getD l (Int.toNat i) (0 : Int))) ((0 : Int), (0 : Int),
 (0 : Int))).2).2, i + 1, ()) Q))))))))))))))))))))))))) (req (decide ((0 : Int) ≤ i ∧ i < (↑(l.length) : Int))) (req (decide ((0 : Int) ≤ List.getD l (Int.toNat i) (0 : Int) ∧ List.getD l (Int.toNat i) (0 : Int) <
 (↑(ld.length) : Int))) (∀ (b : Bool), b = decide ((0 : Int) ≤ ((List.getD ld (Int.toNat (List.getD l (Int.toNat i) (0 : Int))) ((0 : Int), (0 : Int), (0 : Int))).2).1 ∧ ((List.getD ld (Int.toNat (List.getD l (Int.toNat i)
 (0 : Int))) ((0 : Int), (0 : Int), (0 : Int))).2).1 ≤ (23 : Int)) → fork (!b) (Q AX.ret (stS 0 Go.P8.sh36r ((0 : Int), false, ()))) (req (decide ((0 : Int) ≤ k ∧ k < (↑(ld.length) : Int))) (∀ (b : Bool), b = decide ((0 :
 Int) ≤ (List.getD ld (Int.toNat k) ((0 : Int), (0 : Int), (0 : Int))).2.1 ∧ (List.getD ld (Int.toNat k) ((0 : Int), (0 : Int), (0 : Int))).2.1 ≤ (23 : Int)) → fork (!b) (Q AX.ret (stS 0 Go.P8.sh36r ((0 : Int), false,
 ()))) (req (decide ((0 : Int) ≤ i ∧ i < (↑(l.length) : Int))) (req (decide ((0 : Int) ≤ List.getD l (Int.toNat i) (0 : Int) ∧ List.getD l (Int.toNat i) (0 : Int) < (↑(ld.length) : Int))) (req (decide ((0 : Int) ≤
 ((List.getD ld (Int.toNat (List.getD l (Int.toNat i) (0 : Int))) ((0 : Int), (0 : Int), (0 : Int))).2).1 ∧ ((List.getD ld (Int.toNat (List.getD l (Int.toNat i) (0 : Int))) ((0 : Int), (0 : Int), (0 : Int))).2).1 <
 (↑(h.length) : Int))) (req (decide ((0 : Int) ≤ k ∧ k < (↑(ld.length) : Int))) (req (decide ((0 : Int) ≤ (List.getD ld (Int.toNat k) ((0 : Int), (0 : Int), (0 : Int))).2.1 ∧ (List.getD ld (Int.toNat k) ((0 : Int), (0 :
 Int), (0 : Int))).2.1 < (↑(h.length) : Int))) (fork (List.getD h (Int.toNat (((List.getD ld (Int.toNat (List.getD l (Int.toNat i) (0 : Int))) ((0 : Int), (0 : Int), (0 : Int))).2).1)) (0 : Int) != List.getD h (Int.toNat
 ((List.getD ld (Int.toNat k) ((0 : Int), (0 : Int), (0 : Int))).2.1)) (0 : Int)) (Q AX.ret (stS 0 Go.P8.sh36r ((0 : Int), false, ()))) (req (decide ((0 : Int) ≤ i ∧ i < (↑(l.length) : Int))) (req (decide ((0 : Int) ≤
 List.getD l (Int.toNat i) (0 : Int) ∧ List.getD l (Int.toNat i) (0 : Int) < (↑(ld.length) : Int))) (req (decide ((0 : Int) ≤ k ∧ k < (↑(ld.length) : Int))) (req (inR IntKind.i64 ((List.getD ld (Int.toNat k) ((0 : Int), (0
 : Int), (0 : Int))).1 - w.1)) (fork (decide ((List.getD ld (Int.toNat (List.getD l (Int.toNat i) (0 : Int))) ((0 : Int), (0 : Int), (0 : Int))).1 ≤ (List.getD ld (Int.toNat k) ((0 : Int), (0 : Int), (0 : Int))).1 - w.1))
 (Q AX.ret (stS 0 Go.P8.sh36r ((0 : Int), false, ()))) (req (decide ((0 : Int) ≤ i ∧ i < (↑(l.length) : Int))) (req (decide ((0 : Int) ≤ List.getD l (Int.toNat i) (0 : Int) ∧ List.getD l (Int.toNat i) (0 : Int) <
 (↑(ld.length) : Int))) (req (inR IntKind.i64 (n + ((List.getD ld (Int.toNat (List.getD l (Int.toNat i) (0 : Int))) ((0 : Int), (0 : Int), (0 : Int))).2).2)) (req (inR IntKind.i64 (i + 1)) (Go.P8.mL l (i + 1) < Go.P8.mL l
 i ∧ LC2.spec Go.P8.lc36 (h, k, l, (ld, ls, w), n + ((List.getD ld (Int.toNat (List.getD l (Int.toNat i) (0 : Int))) ((0 : Int), (0 : Int), (0 : Int))).2).2, i + 1, ()) Q)))))))))))))))))))))))) (Q (AX.exit 0) (stS 0
 Go.P8.sh36e (n, ())))) := by kernel_rfl
abbrev fcIns : FC := ⟨[.v TRep, .v L, .v I, .v L], [I, .b], fun x K => (insP x.1 x.2.1 x.2.2.1 ∧ x.2.2.2.1.length ≤ big) ∧ ∀ (m : Int) (b : Bool), (m, b) = insF x.1.2.2 x.1.1 x.2.1 x.2.2.1 x.2.2.2.1 (-1) 0 → K (m, b, ())⟩
theorem v36F (ld : List Dl) (ls : List Lk) (w : Wt) (h : List Int) (k : Int) (l : List Int) (K : dens [I, .b] → Prop) : (xfn1 Try.prog { l2 := [(36, 0, lc36)] } 5 36 fcIns ((ld, ls, w), h, k, l, ()) K) =
  ((Go.P8.insP (ld, ls, w) h k ∧ l.length ≤ 9223372036854775807 ∧ (0 : SV.den (SV.slot 11 (SV.v Go.P8.I))) ≤ (0 : Int) ∧ (0 : Int) ≤ (↑(l.length) : SV.den (SV.slot 11 (SV.v Go.P8.I))) ∧ (0 : Int) ≤ Go.P8.prevI l (0 : Int) +
 (1 : SV.den (SV.slot 11 (SV.v Go.P8.I))) ∧ Go.P8.prevI l (0 : Int) ≤ k ∧ (0 : SV.den (SV.slot 10 (SV.v Go.P8.I))) ≤ (0 : Int) ∧ (0 : Int) ≤ (0 : Int) * (1073741824 : SV.den (SV.slot 10 (SV.v Go.P8.I)))) ∧ ∀ (m : Int) (b :
 Bool), (m, b) = Go.P8.insF w ld h k (List.drop 0 l) (Go.P8.prevI l (0 : Int)) (0 : Int) → (b = true → K (m, true, ())) ∧ (b = false → K ((0 : SV.den (SV.slot 8 (SV.v Go.P8.I))), false, ()))) := by kernel_rfl
abbrev sh9a : SV := S [(1, .v I), (3, .box 0 (.v TRep)), (7, .v L), (9, .v L), (15, .v I)]
abbrev sh9ae : SV := S [(1, .v I), (3, .box 0 (.v TRep)), (7, .v L), (9, .v L)]
abbrev lc9a : LC2 := ⟨0, sh9a, 1, fun (k, x, r, h, i, _) Q => (wtOk x.2.2 = true ∧ r.length ≤ 64 ∧ (∀ j ∈ r, (0 ≤ j ∧ j < x.1.length) ∧ smallB x.2.2 x.1 j = true) ∧ 0 ≤ i ∧ i ≤ r.length) ∧ Q (.exit 0) (stS 1 sh9ae (k, x, r, h, ()))⟩
theorem v9A (k : Int) (ld : List Dl) (ls : List Lk) (w : Wt) (r h : List Int) (i : Int) (Q : AX → St → Prop) : (xloop2 Try.prog { f := [(26, fcFrom')] } 5 9 0 lc9a (fun _ => some (sh9ae, 1)) (fun (_, _, r, _, i, _) => mL r i) (k, (ld, ls, w), r, h, i, ()) Q) =
  (fork (decide (i < (↑(r.length) : Int))) (req (decide ((0 : Int) ≤ i ∧ i < (↑(r.length) : Int))) (req (decide ((0 : Int) ≤ List.getD r (Int.toNat i) (0 : Int) ∧ List.getD r (Int.toNat i) (0 : Int) < (↑(ld.length) : Int)))
 (req (inR IntKind.i64 (w.2.1 - 1)) (∀ (b : Bool), b = decide (w.2.2.1 ≤ ((List.getD ld (Int.toNat (List.getD r (Int.toNat i) (0 : Int))) ((0 : Int), (0 : Int), (0 : Int))).2).2 ∧ ((List.getD ld (Int.toNat (List.getD r
 (Int.toNat i) (0 : Int))) ((0 : Int), (0 : Int), (0 : Int))).2).2 ≤ w.2.1 - 1) → fork (!b) (Q AX.ret (stS 1 Go.P8.sh9ae (k, (ld, ls, w), r, h, ()))) (req (inR IntKind.i64 (i + 1)) (Go.P8.mL r (i + 1) < Go.P8.mL r i ∧
 LC2.spec Go.P8.lc9a (k, (ld, ls, w), r, h, i + 1, ()) Q)))))) (Q (AX.exit 0) (stS 1 Go.P8.sh9ae (k, (ld, ls, w), r, h, ())))) := by kernel_rfl
def firstOk (p k : Int) : List Dl → Bool
  | [] => false
  | d :: a => if d.1 = p then decide (d.2.1 ≤ k) else firstOk p k a
abbrev sh9b : SV := S [(1, .v I), (3, .box 0 (.v TRep)), (9, .v L), (16, .v LD), (17, .v I)]
abbrev sh9r : SV := S [(6, .v .b)]
def ex9 : Ex2
  | .ret => some (sh9r, 0)
  | _ => some (.nil, 0)
abbrev lc9b : LC2 := ⟨0, sh9b, 1, fun (k, x, h, a, i, _) Q => (insP x h k ∧ a.length ≤ 64 ∧ 0 ≤ i ∧ i ≤ a.length ∧ firstOk (at' h (dlAt x.1 k).2.1) k (a.drop i.toNat) = true) ∧ Q .ret (stS 0 sh9r (true, ()))⟩
theorem v9B (k : Int) (ld : List Dl) (ls : List Lk) (w : Wt) (h : List Int) (a : List Dl) (i : Int) (Q : AX → St → Prop) : (xloop2 Try.prog { f := [(19, fcWorks)] } 5 9 1 lc9b ex9 (fun (_, _, _, a, i, _) => mL a i) (k, (ld, ls, w), h, a, i, ()) Q) =
  (fork (decide (i < (↑(a.length) : Int))) (req (decide ((0 : Int) ≤ i ∧ i < (↑(a.length) : Int))) (req (decide ((0 : Int) ≤ k ∧ k < (↑(ld.length) : Int))) (req (decide ((0 : Int) ≤ (List.getD ld (Int.toNat k) ((0 : Int),
 (0 : Int), (0 : Int))).2.1 ∧ (List.getD ld (Int.toNat k) ((0 : Int), (0 : Int), (0 : Int))).2.1 < (↑(h.length) : Int))) (fork ((List.getD a (Int.toNat i) ((0 : Int), (0 : Int), (0 : Int))).1 == List.getD h (Int.toNat
 ((List.getD ld (Int.toNat k) ((0 : Int), (0 : Int), (0 : Int))).2.1)) (0 : Int)) (req (decide ((0 : Int) ≤ i ∧ i < (↑(a.length) : Int))) (fork (decide ((List.getD a (Int.toNat i) ((0 : Int), (0 : Int), (0 : Int))).2.1 ≤
 k)) (Q AX.ret (stS 0 Go.P8.sh9r (true, ()))) (Q AX.ret (stS 0 Go.P8.sh9r (false, ()))))) (req (inR IntKind.i64 (i + 1)) (Go.P8.mL a (i + 1) < Go.P8.mL a i ∧ LC2.spec Go.P8.lc9b (k, (ld, ls, w), h, a, i + 1, ()) Q)))))) (Q
 (AX.exit 2) (stS 0 SV.nil ()))) := by kernel_rfl
abbrev fc9 : FC := ⟨[.v TRep, .v I, .v L], [.b], fun x K => (x.1.1.length ≤ big ∧ x.1.2.1.length ≤ big ∧ x.2.2.1.length ≤ big) ∧ K (true, ())⟩
theorem v9F (ld : List Dl) (ls : List Lk) (w : Wt) (k : Int) (ot : List Int) (K : dens [.b] → Prop) : (xfn1 Try.prog { nm := true, f := [(36, fcIns), (34, fcReas), (32, fcAlarms), (31, fcLinked), (28, fcAhead), (26, fcFrom'), (19, fcWorks)], l2 := [(9, 0, lc9a), (9, 1, lc9b)] } 5 9 fc9 ((ld, ls, w), k, ot, ()) K) =
  ((ld.length ≤ 9223372036854775807 ∧ ls.length ≤ 9223372036854775807) ∧ ∀ (r : List Int) (e : Int), (r, e) = Go.P8.reasonsF ld ls w k → fork (e != (0 : Int)) (fork ((↑(r.length) : Int) == (0 : Int)) (K (true, ())) (K
 (false, ()))) (ls.length ≤ 9223372036854775807 ∧ ∀ (r_1 : List Int) (e : Int), (r_1, e) = Go.P8.linkedR ls → (Go.P8.linkedOk ls = true → Go.P8.HeadsOk ls (Go.P8.headOf ls)) → fork (e != (0 : Int)) (K (false, ())) (fork
 ((↑(r_1.length) : Int) != (24 : Int)) (K (false, ())) (req (inR IntKind.i64 ((↑(ld.length) : Int) - 1)) (∀ (b : Bool), b = decide ((0 : Int) ≤ k ∧ k ≤ (↑(ld.length) : Int) - 1) → fork (!b) (K (false, ())) ((Go.P8.insP
 (ld, ls, w) r_1 k ∧ r.length ≤ 9223372036854775807) ∧ ∀ (m : Int) (b : Bool), (m, b) = Go.P8.insF w ld r_1 k r (-1 : Int) (0 : Int) → fork (!b) (K (false, ())) (fork ((↑(r.length) : Int) == (0 : Int)) (K (false, ()))
 (fork (decide (m ≥ w.2.1)) ((Go.P8.insP (ld, ls, w) r_1 k ∧ ot.length ≤ 9223372036854775807) ∧ ∀ (m : Int) (b : Bool), (m, b) = Go.P8.insF w ld r_1 k ot (-1 : Int) (0 : Int) → fork b (fork (decide (m ≥ w.2.1)) (fork
 (decide ((↑(ot.length) : Int) < (↑(r.length) : Int))) (K (false, ())) (fork ((↑(ot.length) : Int) == (↑(r.length) : Int)) (ot.length ≤ 9223372036854775807 ∧ ∀ (r_2 : Bool), r_2 = Go.P8.aheadB ot r → fork r_2 (K (false,
 ())) ((ld.length ≤ 9223372036854775807 ∧ ls.length ≤ 9223372036854775807) ∧ ∀ (r : List Go.P8.Dl) (e : Int), (r, e) = Go.P8.alarmsR ld ls w → fork (e != (0 : Int)) (K (false, ())) ((Go.P8.insP (ld, ls, w) r_1 k ∧ r.length
 ≤ 64 ∧ (0 : SV.den (SV.slot 17 (SV.v Go.P8.I))) ≤ (0 : Int) ∧ (0 : Int) ≤ (↑(r.length) : SV.den (SV.slot 17 (SV.v Go.P8.I))) ∧ Go.P8.firstOk (Go.P8.at' r_1 ((Go.P8.dlAt ld k).2.1)) k (List.drop 0 r) = true) ∧ K (true,
 ())))) ((ld.length ≤ 9223372036854775807 ∧ ls.length ≤ 9223372036854775807) ∧ ∀ (r : List Go.P8.Dl) (e : Int), (r, e) = Go.P8.alarmsR ld ls w → fork (e != (0 : Int)) (K (false, ())) ((Go.P8.insP (ld, ls, w) r_1 k ∧
 r.length ≤ 64 ∧ (0 : SV.den (SV.slot 17 (SV.v Go.P8.I))) ≤ (0 : Int) ∧ (0 : Int) ≤ (↑(r.length) : SV.den (SV.slot 17 (SV.v Go.P8.I))) ∧ Go.P8.firstOk (Go.P8.at' r_1 ((Go.P8.dlAt ld k).2.1)) k (List.drop 0 r) = true) ∧ K
 (true, ()))))) ((ld.length ≤ 9223372036854775807 ∧ ls.length ≤ 9223372036854775807) ∧ ∀ (r : List Go.P8.Dl) (e : Int), (r, e) = Go.P8.alarmsR ld ls w → fork (e != (0 : Int)) (K (false, ())) ((Go.P8.insP (ld, ls, w) r_1 k
 ∧ r.length ≤ 64 ∧ (0 : SV.den (SV.slot 17 (SV.v Go.P8.I))) ≤ (0 : Int) ∧ (0 : Int) ≤ (↑(r.length) : SV.den (SV.slot 17 (SV.v Go.P8.I))) ∧ Go.P8.firstOk (Go.P8.at' r_1 ((Go.P8.dlAt ld k).2.1)) k (List.drop 0 r) = true) ∧ K
 (true, ())))) ((ld.length ≤ 9223372036854775807 ∧ ls.length ≤ 9223372036854775807) ∧ ∀ (r : List Go.P8.Dl) (e : Int), (r, e) = Go.P8.alarmsR ld ls w → fork (e != (0 : Int)) (K (false, ())) ((Go.P8.insP (ld, ls, w) r_1 k ∧
 r.length ≤ 64 ∧ (0 : SV.den (SV.slot 17 (SV.v Go.P8.I))) ≤ (0 : Int) ∧ (0 : Int) ≤ (↑(r.length) : SV.den (SV.slot 17 (SV.v Go.P8.I))) ∧ Go.P8.firstOk (Go.P8.at' r_1 ((Go.P8.dlAt ld k).2.1)) k (List.drop 0 r) = true) ∧ K
 (true, ())))) ((Go.P8.wtOk w = true ∧ r.length ≤ 64 ∧ (∀ (j : Ty.den Go.P8.I), j ∈ r → ((0 : Ty.den Go.P8.I) ≤ j ∧ j < (↑(ld.length) : Ty.den Go.P8.I)) ∧ Go.P8.smallB w ld j = true) ∧ (0 : SV.den (SV.slot 15 (SV.v
 Go.P8.I))) ≤ (0 : Int) ∧ (0 : Int) ≤ (↑(r.length) : SV.den (SV.slot 15 (SV.v Go.P8.I)))) ∧ fork ((↑(r.length) : Int) != w.2.2.2) (K (false, ())) ((ld.length ≤ 9223372036854775807 ∧ ls.length ≤ 9223372036854775807) ∧ ∀ (r
 : List Go.P8.Dl) (e : Int), (r, e) = Go.P8.alarmsR ld ls w → fork (e != (0 : Int)) (K (false, ())) ((Go.P8.insP (ld, ls, w) r_1 k ∧ r.length ≤ 64 ∧ (0 : SV.den (SV.slot 17 (SV.v Go.P8.I))) ≤ (0 : Int) ∧ (0 : Int) ≤
 (↑(r.length) : SV.den (SV.slot 17 (SV.v Go.P8.I))) ∧ Go.P8.firstOk (Go.P8.at' r_1 ((Go.P8.dlAt ld k).2.1)) k (List.drop 0 r) = true) ∧ K (true, ())))))))))))) := by kernel_rfl
end Go.P8
