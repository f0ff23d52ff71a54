/- TicketProper: comparisons of lists: the code keeps its contracts. No conditions. -/
import Derived.Test.YtcpdcpfbgmiaoaaDoorPropA
import Derived.Test.YtcpdcpfbgmiaoaaDoorRollO
set_option linter.all false
set_option maxRecDepth 100000
set_option maxHeartbeats 4000000
namespace Go.P3
open Go.Lom Go.Proofs Go
theorem drop_iff {α : Type} (d : α) {a b : List α} {i : Int} (h0 : 0 <= i) (h1 : i < a.length) (hl : b.length = a.length) : a.drop i.toNat = b.drop i.toNat ↔ a.getD i.toNat d = b.getD i.toNat d /\ a.drop (i + 1).toNat = b.drop (i + 1).toNat := by
 rw [drop_step d h0 h1, drop_step d h0 (show i < b.length by omega), List.cons.injEq]
theorem drop_ends {α : Type} {a b : List α} {i : Int} (h1 : ¬ i < a.length) (hl : b.length = a.length) : a.drop i.toNat = b.drop i.toNat := by
 rw [drop_end h1, drop_end (show ¬ i < b.length by omega)]
theorem len_ne {α : Type} {a b : List α} (h : (a.length : Int) ≠ b.length) : a ≠ b := fun e => h (by rw [e])
theorem h98L (a b : List Int) (m i : Int) (Q : LQ) (h : sEq a b m i shB4 (false, ()) Q) : xloop2 Tryd.prog {} 5 98 0 lc98 exB4 (fun (a, _, _, i, _) => mL a i) (a, b, m, i, ()) Q := by
 obtain ⟨⟨g1, g2, g3, g4, g5⟩, hT, hF⟩ := h
 have g6 : a.length <= 9223372036854775807 := g5
 subst g2
 rw [v98L]
 simp only [fork_iff, req_iff, decide_eq_true_eq, decide_eq_false_iff_not, bne_iff_ne, bne_eq_false_iff_eq, ne_eq]
 refine ⟨fun hi => ⟨⟨g3, hi⟩, ⟨g3, by omega⟩, fun hn => hF fun e => hn ((drop_iff 0 g3 hi g1).1 e).1, fun he => ⟨inR_i64.2 (by omega), mL_lt hi, ⟨g1, rfl, by omega, by omega, g5⟩, fun e => hT ((drop_iff 0 g3 hi g1).2 ⟨he, e⟩), fun e => hF fun e' => e ((drop_iff 0 g3 hi g1).1 e').2⟩⟩, fun hi => hT (drop_ends hi g1)⟩
theorem ok98L : Lp2Ok Tryd.prog 98 0 lc98 := lp2_of (n := 5) (ex := exB4) (m := fun (a, _, _, i, _) => mL a i) (good2_nil _) fun (a, b, m, i, ()) Q hx => h98L a b m i Q hx
theorem ok98 : FnOk Tryd.prog 98 fcEqL := fn1_of (n := 5) ((good2_nil _).addL2 ok98L) fun (a, b, ()) K hx => by
 obtain ⟨g1, hK⟩ := hx
 show xfn1 Tryd.prog { l2 := [(98, 0, lc98)] } 5 98 fcEqL (a, b, ()) K
 rw [v98F]
 simp only [fork_iff, bne_iff_ne, bne_eq_false_iff_eq, ne_eq, List.drop_zero]
 exact ⟨fun hn => hK _ (decide_eq_false (len_ne hn)).symm, fun he => ⟨⟨by omega, by trivial, Int.le_refl 0, Int.natCast_nonneg _, g1⟩, fun e => hK _ (decide_eq_true e).symm, fun e => hK _ (decide_eq_false e).symm⟩⟩
theorem ev_eq {x y : Ev} : (x.1 == y.1 && (x.2.1 == y.2.1 && (x.2.2.1 == y.2.2.1 && (x.2.2.2.1 == y.2.2.2.1 && (x.2.2.2.2 == y.2.2.2.2 && true))))) = decide (x = y) := by
 rw [Bool.eq_iff_iff, decide_eq_true_eq]
 simp only [Bool.and_eq_true, beq_iff_eq, Bool.and_true]
 constructor
 ·rintro ⟨a, b, c, d, e⟩; exact Prod.ext a (Prod.ext b (Prod.ext c (Prod.ext d e)))
 ·rintro rfl; exact ⟨rfl, rfl, rfl, rfl, rfl⟩
theorem h80L (a b : List Ev) (m i : Int) (Q : LQ) (h : sEq a b m i shB4 (false, ()) Q) : xloop2 Tryd.prog {} 5 80 0 lc80 exB4 (fun (a, _, _, i, _) => mL a i) (a, b, m, i, ()) Q := by
 obtain ⟨⟨g1, g2, g3, g4, g5⟩, hT, hF⟩ := h
 have g6 : a.length <= 9223372036854775807 := g5
 subst g2
 rw [v80L, ev_eq]
 simp only [fork_iff, req_iff, decide_eq_true_eq, decide_eq_false_iff_not, Bool.not_eq_true', Bool.not_eq_false']
 refine ⟨fun hi => ⟨⟨g3, hi⟩, ⟨g3, by omega⟩, fun hn => hF fun e => hn ((drop_iff E0 g3 hi g1).1 e).1, fun he => ⟨inR_i64.2 (by omega), mL_lt hi, ⟨g1, rfl, by omega, by omega, g5⟩, fun e => hT ((drop_iff E0 g3 hi g1).2 ⟨he, e⟩), fun e => hF fun e' => e ((drop_iff E0 g3 hi g1).1 e').2⟩⟩, fun hi => hT (drop_ends hi g1)⟩
theorem ok80L : Lp2Ok Tryd.prog 80 0 lc80 := lp2_of (n := 5) (ex := exB4) (m := fun (a, _, _, i, _) => mL a i) (good2_nil _) fun (a, b, m, i, ()) Q hx => h80L a b m i Q hx
theorem ok80 : FnOk Tryd.prog 80 fcEqE := fn1_of (n := 5) ((good2_nil _).addL2 ok80L) fun (a, b, ()) K hx => by
 obtain ⟨g1, hK⟩ := hx
 show xfn1 Tryd.prog { l2 := [(80, 0, lc80)] } 5 80 fcEqE (a, b, ()) K
 rw [v80F]
 simp only [fork_iff, bne_iff_ne, bne_eq_false_iff_eq, ne_eq, List.drop_zero]
 exact ⟨fun hn => hK _ (decide_eq_false (len_ne hn)).symm, fun he => ⟨⟨by omega, by trivial, Int.le_refl 0, Int.natCast_nonneg _, g1⟩, fun e => hK _ (decide_eq_true e).symm, fun e => hK _ (decide_eq_false e).symm⟩⟩
theorem tk_eq {x y : Tk} : x = y ↔ x.1 = y.1 /\ x.2.1 = y.2.1 /\ x.2.2.1 = y.2.2.1 /\ x.2.2.2.1 = y.2.2.2.1 /\ x.2.2.2.2.1 = y.2.2.2.2.1 /\ x.2.2.2.2.2 = y.2.2.2.2.2 :=
 ⟨fun h => by subst h; exact ⟨rfl, rfl, rfl, rfl, rfl, rfl⟩, fun ⟨a, b, c, d, e, f⟩ => Prod.ext a (Prod.ext b (Prod.ext c (Prod.ext d (Prod.ext e f))))⟩
theorem h81L (a b : List Tk) (m i : Int) (Q : LQ) (hd : edgesOk a) (h : sEq a b m i shB6 (false, ()) Q) : xloop2 Tryd.prog { f := [(98, fcEqL)] } 5 81 0 lc81 exB6 (fun (_, _, a, _, i, _) => mL a i) (b, ((), ()), a, m, i, ()) Q := by
 obtain ⟨⟨g1, g2, g3, g4, g5⟩, hT, hF⟩ := h
 have g6 : a.length <= 9223372036854775807 := g5
 subst g2
 rw [v81L]
 simp only [fork_iff, req_iff, decide_eq_true_eq, decide_eq_false_iff_not, Bool.not_eq_true', Bool.not_eq_false', beq_iff_eq, beq_eq_false_iff_ne, bne_iff_ne, bne_eq_false_iff_eq, ne_eq]
 refine ⟨fun hi => ⟨⟨g3, hi⟩, ⟨g3, by omega⟩, ?_⟩, fun hi => hT (drop_ends hi g1)⟩
 have hm : a.getD i.toNat T0 ∈ a := getC_mem (by omega)
 have hb := hd _ hm
 have no : ¬ a.getD i.toNat T0 = b.getD i.toNat T0 -> Q .ret (stS 0 shB6 (false, ())) := fun hn => hF fun e => hn ((drop_iff T0 g3 hi g1).1 e).1
 have go : a.getD i.toNat T0 = b.getD i.toNat T0 -> inR .i64 (i + 1) = true /\ mL a (i + 1) < mL a i /\ LC2.spec lc81 (b, ((), ()), a, (a.length : Int), i + 1, ()) Q := fun he =>
  ⟨inR_i64.2 (by omega), mL_lt hi, hd, ⟨g1, rfl, by omega, by omega, g5⟩, fun e => hT ((drop_iff T0 g3 hi g1).2 ⟨he, e⟩), fun e => hF fun e' => e ((drop_iff T0 g3 hi g1).1 e').2⟩
 rw [show (0, [], 0, [], 0, 0) = T0 from rfl]
 generalize a.getD i.toNat T0 = x at *
 generalize b.getD i.toNat T0 = y at *
 rw [tk_eq] at no go
 refine ⟨hb, fun c hc => ⟨fun c1 => ?_, fun c1 => no fun h => ?_⟩⟩
 ·rw [c1] at hc
  have hc := of_decide_eq_true hc.symm
  exact ⟨fun e1 => ⟨fun e2 => ⟨fun e3 => ⟨fun e5 => ⟨fun e6 => no fun h => e6 h.2.2.2.2.2, fun e6 => go ⟨e1, e2, e3, hc, e5, e6⟩⟩, fun e5 => no fun h => e5 h.2.2.2.2.1⟩, fun e3 => no fun h => e3 h.2.2.1⟩, fun e2 => no fun h => e2 h.2.1⟩, fun e1 => no fun h => e1 h.1⟩
 ·rw [c1] at hc
  exact (of_decide_eq_false hc.symm) h.2.2.2.1
theorem ok81L : Lp2Ok Tryd.prog 81 0 lc81 := lp2_of (n := 5) (ex := exB6) (m := fun (_, _, a, _, i, _) => mL a i) ((good2_nil _).addF ok98) fun (b, ((), ()), a, m, i, ()) Q hx => h81L a b m i Q hx.1 hx.2
theorem ok81 : FnOk Tryd.prog 81 fcEqK := fn1_of (n := 5) ((good2_nil _).addL2 ok81L) fun (a, b, ((), ()), ()) K hx => by
 obtain ⟨⟨g0, g1⟩, hK⟩ := hx
 show xfn1 Tryd.prog { l2 := [(81, 0, lc81)] } 5 81 fcEqK (a, b, ((), ()), ()) K
 rw [v81F]
 simp only [fork_iff, bne_iff_ne, bne_eq_false_iff_eq, ne_eq, List.drop_zero]
 exact ⟨fun hn => hK _ (decide_eq_false (len_ne hn)).symm, fun he => ⟨g0, ⟨by omega, by trivial, Int.le_refl 0, Int.natCast_nonneg _, g1⟩, fun e => hK _ (decide_eq_true e).symm, fun e => hK _ (decide_eq_false e).symm⟩⟩
end Go.P3
