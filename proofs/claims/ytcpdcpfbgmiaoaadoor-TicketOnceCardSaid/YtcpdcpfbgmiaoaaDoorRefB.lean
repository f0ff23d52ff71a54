/- Rolls by the reference: to divide, what can be asked, calls of the statements, TicketRolls: states and what is to be shown, reduced. No conditions. -/
import Derived.Test.YtcpdcpfbgmiaoaaDoorRollN
set_option linter.unusedSimpArgs false
set_option linter.unusedVariables false
set_option linter.constructorNameAsVariable false
set_option maxRecDepth 100000
set_option maxHeartbeats 2000000
namespace Go.P3
open Go.Lom Go.Proofs Go

abbrev sh39 : SV := S [(0, .v LT), (1, .v .s), (5, .v I)]
abbrev lc39 : LC2 := ⟨0, sh39, 0, fun (l, s, i, _) Q => sIx (fun t => decide (t = s)) l l.length i Q⟩
theorem v39L (l : List Tx) (s : Tx) (i : Int) (Q : AX → St → Prop) : (xloop2 Tryd.prog {} 5 39 0 lc39 ex141 (fun (l, _, i, _) => mL l i) (l, s, i, ()) Q) =
  (fork (decide (i < (↑(l.length) : Int))) (req (decide ((0 : Int) ≤ i ∧ i < (↑(l.length) : Int))) (fork (List.getD l (Int.toNat i) [] == s) (Q AX.ret (stS 0 shR4i (i, ()))) (req (inR IntKind.i64 (i + 1)) (mL l (i + 1) < mL
 l i ∧ LC2.spec lc39 (l, s, i + 1, ()) Q)))) (Q (AX.exit 0) (stS 0 SV.nil ()))) := by kernel_rfl
abbrev fcSeekT : FC := ⟨[.v LT, .v .s], [I], fun x K => x.1.length ≤ big ∧ ∀ r : Int, r = firstIx (fun t => decide (t = x.2.1)) x.1 0 → K (r, ())⟩
theorem v39F (l : List Tx) (s : Tx) (K : dens [I] → Prop) : (xfn1 Tryd.prog { l2 := [(39, 0, lc39)] } 5 39 fcSeekT (l, s, ()) K) =
  (((0 : Int) ≤ (0 : Int) ∧ (0 : Int) ≤ (↑(l.length) : Int) ∧ (↑(l.length) : Int) = (↑(l.length) : Int) ∧ l.length ≤ 9223372036854775807) ∧ ((List.any (List.drop 0 l) fun t => decide (t = s)) = false → K ((-1 : Int), ())) ∧
 ((List.any (List.drop 0 l) fun t => decide (t = s)) = true → K (firstIx (fun t => decide (t = s)) (List.drop 0 l) (0 : Int), ()))) := by kernel_rfl
/-! to divide -/
/-! Live, Line -/
/-! calls -/
/-! TicketRolls -/
end Go.P3
