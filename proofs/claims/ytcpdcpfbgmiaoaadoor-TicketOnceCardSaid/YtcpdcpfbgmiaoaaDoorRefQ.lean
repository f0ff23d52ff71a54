/- Rolls by the reference: to divide, what can be asked, calls of the statements, TicketRolls: the code keeps its contracts. No conditions. -/
import Derived.Test.YtcpdcpfbgmiaoaaDoorRefB
import Derived.Test.YtcpdcpfbgmiaoaaDoorRollN
import Derived.Test.YtcpdcpfbgmiaoaaDoorRollK
import Derived.Test.YtcpdcpfbgmiaoaaDoorCodeS
import Derived.Test.YtcpdcpfbgmiaoaaDoorTickS
import Derived.Test.YtcpdcpfbgmiaoaaDoorTickP
import Derived.Test.YtcpdcpfbgmiaoaaDoorFit2P
set_option linter.constructorNameAsVariable false
set_option linter.unusedVariables false
set_option linter.unusedSimpArgs false
set_option maxRecDepth 100000
set_option maxHeartbeats 4000000
namespace Go.P3
open Go.Lom Go.Proofs Go

theorem h39L (l : List Tx) (s : Tx) (i : Int) (Q : LQ) : sIx (fun t => decide (t = s)) l l.length i Q → xloop2 Tryd.prog {} 5 39 0 lc39 ex141 (fun (l, _, i, _) => mL l i) (l, s, i, ()) Q := by
  intro hx
  obtain ⟨⟨h0, h1, hm, h2⟩, hQ1, hQ2⟩ := id hx
  rw [v39L]
  simp only [fork_iff, req_iff, decide_eq_true_eq, decide_eq_false_iff_not, beq_iff_eq, beq_eq_false_iff_ne, ne_eq]
  refine ⟨fun hi => ?_, fun hi => ?_⟩
  · obtain ⟨a, b⟩ := ix_step ([] : Tx) (fun t => decide (t = s)) (lc := fun j => LC2.spec lc39 (l, s, j, ()) Q) hx hi fun h => h
    refine ⟨⟨h0, hi⟩, fun h => a (decide_eq_true h), fun h => b (decide_eq_false h)⟩
  · rw [drop_end hi] at hQ1
    exact hQ1 rfl
theorem ok39L : Lp2Ok Tryd.prog 39 0 lc39 := lp2_of (n := 5) (ex := ex141) (m := fun (l, _, i, _) => mL l i) (good2_nil _) fun (l, s, i, ()) Q hx => h39L l s i Q hx
theorem firstIx_none {α : Type} (p : α → Bool) : ∀ (l : List α) (i : Int), l.any p = false → firstIx p l i = -1
  | [], _, _ => rfl
  | x :: l, i, h => by
    rw [List.any_cons, Bool.or_eq_false_iff] at h
    unfold firstIx; rw [if_neg (by rw [h.1]; decide), firstIx_none p l (i + 1) h.2]
theorem ok39 : FnOk Tryd.prog 39 fcSeekT := fn1_of (n := 5) ((good2_nil _).addL2 ok39L) fun (l, s, ()) K hx => by
  obtain ⟨h1, hK⟩ := hx
  show xfn1 Tryd.prog { l2 := [(39, 0, lc39)] } 5 39 fcSeekT (l, s, ()) K
  rw [v39F]
  exact ⟨⟨Int.le_refl 0, Int.natCast_nonneg _, rfl, h1⟩, fun h => hK _ (firstIx_none _ _ _ h).symm, fun h => hK _ rfl⟩
end Go.P3
