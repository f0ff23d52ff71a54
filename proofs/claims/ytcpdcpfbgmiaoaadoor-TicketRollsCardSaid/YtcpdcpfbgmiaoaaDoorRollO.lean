/- Rolls: comparisons, a roll after calls, TicketRefuses: the code keeps its contracts. No conditions. -/
import Derived.Test.YtcpdcpfbgmiaoaaDoorRollN
import Derived.Test.YtcpdcpfbgmiaoaaDoorRollK
import Derived.Test.YtcpdcpfbgmiaoaaDoorCodesP
set_option linter.constructorNameAsVariable false
set_option linter.unusedVariables false
set_option linter.unusedSimpArgs false
set_option maxRecDepth 100000
set_option maxHeartbeats 4000000
namespace Go.P3
open Go.Lom Go.Proofs Go

theorem h37L (a : List Ev) (i : Int) (Q : AX → St → Prop) (hl : a.length ≤ 1000) (h0 : 0 ≤ i) (h1 : i ≤ a.length) (hQ : Q (.exit 0) (stS 0 .nil ())) : xloop2 Tryd.prog {} 5 37 0 lc37 exB4 (fun (a, _, i, _) => mL a i) (a, a, i, ()) Q := by
  rw [v37L]
  simp only [fork_iff, req_iff, decide_eq_true_eq, decide_eq_false_iff_not, beq_self_eq_true, Bool.and_self, Bool.not_true, Bool.false_eq_true, false_imp_iff, true_and, true_imp_iff, Bool.and_true]
  refine ⟨fun hi => ⟨⟨h0, hi⟩, ⟨h0, hi⟩, inR_i64.2 (by omega), mL_lt hi, ?_⟩, fun _ => hQ⟩
  first
    | exact ⟨⟨rfl, hl, show (0 : Int) ≤ i + 1 by omega, show i + 1 ≤ (a.length : Int) by omega⟩, hQ⟩
    | exact ⟨⟨hl, show (0 : Int) ≤ i + 1 by omega, show i + 1 ≤ (a.length : Int) by omega⟩, hQ⟩
theorem ok37L : Lp2Ok Tryd.prog 37 0 lc37 := lp2_of (n := 5) (ex := exB4) (m := fun (a, _, i, _) => mL a i) (good2_nil _) fun (a, b, i, ()) Q hx => by
  obtain ⟨⟨g1, g2, g3, g4⟩, hQ⟩ := hx
  have g1 : a = b := g1
  subst g1
  exact h37L a i Q g2 g3 g4 hQ
theorem ok37 : FnOk Tryd.prog 37 fcSameE := fn1_of (n := 5) ((good2_nil _).addL2 ok37L) fun (a, b, ()) K hx => by
  obtain ⟨⟨g1, g2⟩, hK⟩ := hx
  have g1 : a = b := g1
  subst g1
  show xfn1 Tryd.prog { l2 := [(37, 0, lc37)] } 5 37 fcSameE (a, a, ()) K
  rw [v37F]
  simp only [fork_iff, bne_self_eq_false, Bool.false_eq_true, false_imp_iff, true_and, true_imp_iff]
  exact ⟨⟨g2, Int.le_refl (0 : Int), Int.natCast_nonneg _⟩, hK⟩
theorem h36L (a : List Tk) (i : Int) (Q : AX → St → Prop) (hl : a.length ≤ 1000) (h0 : 0 ≤ i) (h1 : i ≤ a.length) (h2 : ∀ t ∈ a, t.2.2.2.1.length ≤ 100) (hQ : Q (.exit 0) (stS 0 .nil ())) : xloop2 Tryd.prog { f := [(20, fcSame)] } 5 36 0 lc36 exB4 (fun (a, _, i, _) => mL a i) (a, a, i, ()) Q := by
  rw [v36L]
  simp only [fork_iff, req_iff, decide_eq_true_eq, decide_eq_false_iff_not, bne_self_eq_false, beq_self_eq_true, Bool.not_true, Bool.false_eq_true, false_imp_iff, true_and, true_imp_iff, and_true]
  refine ⟨fun hi => ⟨⟨h0, hi⟩, ⟨h0, hi⟩, ?_⟩, fun _ => hQ⟩
  have hm : a.getD i.toNat T0 ∈ a := getC_mem (by omega)
  have hb := h2 _ hm
  refine ⟨Nat.le_trans hb (by decide), inR_i64.2 (by omega), mL_lt hi, ?_⟩
  first
    | exact ⟨⟨rfl, hl, show (0 : Int) ≤ i + 1 by omega, show i + 1 ≤ (a.length : Int) by omega, h2⟩, hQ⟩
    | exact ⟨⟨hl, show (0 : Int) ≤ i + 1 by omega, show i + 1 ≤ (a.length : Int) by omega, h2⟩, hQ⟩
theorem ok36L : Lp2Ok Tryd.prog 36 0 lc36 := lp2_of (n := 5) (ex := exB4) (m := fun (a, _, i, _) => mL a i) ((good2_nil _).addF ok20) fun (a, b, i, ()) Q hx => by
  obtain ⟨⟨g1, g2, g3, g4, g5⟩, hQ⟩ := hx
  have g1 : a = b := g1
  subst g1
  exact h36L a i Q g2 g3 g4 g5 hQ
theorem ok36 : FnOk Tryd.prog 36 fcSameT := fn1_of (n := 5) ((good2_nil _).addL2 ok36L) fun (a, b, ()) K hx => by
  obtain ⟨⟨g1, g2, g3⟩, hK⟩ := hx
  have g1 : a = b := g1
  subst g1
  show xfn1 Tryd.prog { l2 := [(36, 0, lc36)] } 5 36 fcSameT (a, a, ()) K
  rw [v36F]
  simp only [fork_iff, bne_self_eq_false, Bool.false_eq_true, false_imp_iff, true_and, true_imp_iff]
  exact ⟨⟨g2, Int.le_refl (0 : Int), Int.natCast_nonneg _, g3⟩, hK⟩

/-! a roll after calls -/

/-! TicketRefuses -/
theorem fn1_ex {P : Program} {k : Nat} {c : FC} (h : ∀ x K, c.spec x K → ∃ T n, Good2 P T ∧ xfn1 P T n k c x K) : FnOk P k c := fun x K hx => by
  obtain ⟨T, n, hT, h⟩ := h x K hx
  exact pc_of (P := P) (k := k) (spec := fun x' K' => xfn1 P T n k c x' K') (xcall_ok hT.tab n) (fun fn fb hf hb => hT.tab.lp k fn fb hf hb) (fun x' K' hx' => by unfold xfn1 at hx'; exact hx') x K h
end Go.P3
