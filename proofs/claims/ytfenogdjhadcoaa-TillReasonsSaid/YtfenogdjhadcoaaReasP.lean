/- TillReasons: the code keeps its contracts, and the law holds. No conditions. -/
import Derived.Test.YtfenogdjhadcoaaReasL
import Derived.Test.YtfenogdjhadcoaaCutP
set_option linter.constructorNameAsVariable false
set_option linter.unusedVariables false
set_option linter.unusedSimpArgs false
set_option maxRecDepth 100000
set_option maxHeartbeats 4000000
namespace Go.P8
open Go.Lom Go.Proofs Go

theorem h36L (h : List Int) (k : Int) (l : List Int) (ld : List Dl) (ls : List Lk) (w : Wt) (n i : Int) (Q : AX → St → Prop) (gp : insP (ld, ls, w) h k) (hl : l.length ≤ big) (h0 : 0 ≤ i) (h1 : i ≤ l.length) (hp : i ≤ prevI l i + 1) (hpk : prevI l i ≤ k) (n0 : 0 ≤ n) (n1 : n ≤ i * 1073741824)
    (hQ : ∀ (m : Int) (b : Bool), (m, b) = insF w ld h k (l.drop i.toNat) (prevI l i) n → (b = true → Q (.exit 0) (stS 0 sh36e (m, ()))) ∧ (b = false → Q .ret (stS 0 sh36r (0, false, ())))) :
    xloop2 Try.prog { f := [(26, fcFrom')] } 5 36 0 lc36 ex36 (fun (_, _, l, _, _, i, _) => mL l i) (h, k, l, (ld, ls, w), n, i, ()) Q := by
  rw [v36L]
  obtain ⟨gw, h64, gd, h24, k0, k1⟩ := gp
  have h64 : ld.length ≤ 64 := h64
  have gd : ∀ d ∈ ld, dayOk d := gd
  have k1 : k < (ld.length : Int) := k1
  have gW : (1 ≤ w.1 ∧ w.1 ≤ 366) ∧ (1 ≤ w.2.1 ∧ w.2.1 ≤ 1073741824) ∧ (1 ≤ w.2.2.1 ∧ w.2.2.1 ≤ w.2.1) ∧ (1 ≤ w.2.2.2 ∧ w.2.2.2 ≤ 64) := wtOk_iff.1 gw
  have hl : l.length ≤ 9223372036854775807 := hl
  simp only [fork_iff, req_iff, decide_eq_true_eq, decide_eq_false_iff_not, Bool.not_eq_true', Bool.not_eq_false', bne_iff_ne, ne_eq, bne_eq_false_iff_eq, ge_iff_le, gt_iff_lt]
  refine ⟨fun hi => ⟨⟨h0, hi⟩, ?_⟩, fun hi => (hQ n true (by rw [drop_end hi]; rfl)).1 rfl⟩
  rw [drop_step 0 h0 hi] at hQ
  have hprevn : prevI l (i + 1) = l.getD i.toNat 0 := by
    unfold prevI; rw [if_neg (by omega), show i + 1 - 1 = i by omega]
  generalize hx : l.getD i.toNat 0 = x at *
  simp only [insF] at hQ
  have bad : ¬ ((0 ≤ x ∧ x ≤ k ∧ prevI l i < x) ∧ winB w ld h k x = true) → Q .ret (stS 0 sh36r (0, false, ())) := fun z => (hQ 0 false (by rw [if_neg z])).2 rfl
  refine fun b hb => ⟨fun z => bad (fun y => ?_), fun z => ?_⟩
  · rw [hb, decide_eq_false_iff_not] at z; exact z ⟨y.1.1, y.1.2.1⟩
  rw [hb, decide_eq_true_eq] at z
  obtain ⟨x0, xk⟩ := z
  have dx : dayOk (ld.getD x.toNat dl0) := gd _ (dl_in x0 (by omega))
  have dk : dayOk (ld.getD k.toNat dl0) := gd _ (dl_in k0 k1)
  have hw : winB w ld h k x = (decide (at' h (ld.getD x.toNat dl0).2.1 = at' h (ld.getD k.toNat dl0).2.1) && decide ((ld.getD k.toNat dl0).1 - w.1 < (ld.getD x.toNat dl0).1)) := rfl
  have ham : amt ld x = (ld.getD x.toNat dl0).2.2 := rfl
  rw [show ((0 : Int), (0 : Int), (0 : Int)) = dl0 from rfl]
  rw [hw] at bad
  rw [hw, ham] at hQ
  generalize ld.getD x.toNat dl0 = dX at *
  generalize ld.getD k.toNat dl0 = dK at *
  obtain ⟨x1, x2, x3, x4, x5, x6⟩ := dx
  obtain ⟨y1, y2, y3, y4, y5, y6⟩ := dk
  have xl : x < (ld.length : Int) := by omega
  have hm : (i + 1) * 1073741824 = i * 1073741824 + 1073741824 := by omega
  have go : prevI l i < x → at' h dX.2.1 = at' h dK.2.1 → dK.1 - w.1 < dX.1 → mL l (i + 1) < mL l i ∧ (insP (ld, ls, w) h k ∧ l.length ≤ big ∧ 0 ≤ i + 1 ∧ i + 1 ≤ (l.length : Int) ∧ i + 1 ≤ prevI l (i + 1) + 1 ∧ prevI l (i + 1) ≤ k ∧ 0 ≤ n + dX.2.2 ∧ n + dX.2.2 ≤ (i + 1) * 1073741824) ∧
      ∀ (m : Int) (b : Bool), (m, b) = insF w ld h k (l.drop (i + 1).toNat) (prevI l (i + 1)) (n + dX.2.2) → (b = true → Q (.exit 0) (stS 0 sh36e (m, ()))) ∧ (b = false → Q .ret (stS 0 sh36r (0, false, ()))) := fun a1 a2 a3 => by
    rw [hprevn]
    refine ⟨mL_lt hi, ⟨⟨gw, h64, gd, h24, k0, k1⟩, hl, by omega, by omega, by omega, xk, by omega, by omega⟩, fun m b hmb => hQ m b ?_⟩
    rw [if_pos ⟨⟨x0, xk, a1⟩, by rw [decide_eq_true a2, decide_eq_true a3]; rfl⟩]
    exact hmb
  have i64 : i ≤ 64 := by omega
  refine ⟨fun hi0 => ⟨inR_i64.2 (by omega), ⟨by omega, by omega⟩, ⟨h0, hi⟩, fun z => bad (fun y => ?_), fun z => ?_⟩, fun hi0 => ?_⟩
  · have := y.1.2.2
    unfold prevI at this
    rw [if_neg (by omega)] at this; omega
  all_goals
    have hpx : prevI l i < x := by unfold prevI; split <;> omega
    refine ⟨⟨h0, hi⟩, ⟨x0, xl⟩, fun b1 hb1 => ⟨fun z => ?_, fun _ => ⟨⟨k0, k1⟩, fun b2 hb2 => ⟨fun z => ?_, fun _ => ⟨⟨h0, hi⟩, ⟨x0, xl⟩, ⟨x3, by omega⟩, ⟨k0, k1⟩, ⟨y3, by omega⟩, fun q1 => bad (fun y => ?_), fun q1 => ⟨⟨h0, hi⟩, ⟨x0, xl⟩, ⟨k0, k1⟩, inR_i64.2 (by omega), fun q2 => bad (fun y => ?_), fun q2 => ⟨⟨h0, hi⟩, ⟨x0, xl⟩, inR_i64.2 (by omega), inR_i64.2 (by omega), go hpx q1 (by omega)⟩⟩⟩⟩⟩⟩⟩
    · rw [hb1, decide_eq_true ⟨x3, x4⟩] at z; cases z
    · rw [hb2, decide_eq_true ⟨y3, y4⟩] at z; cases z
    · have := y.2
      rw [Bool.and_eq_true, decide_eq_true_eq] at this
      exact q1 this.1
    · have := y.2
      rw [Bool.and_eq_true, decide_eq_true_eq, decide_eq_true_eq] at this
      omega
theorem ok36L : Lp2Ok Try.prog 36 0 lc36 := lp2_of (n := 5) (ex := ex36) (m := fun (_, _, l, _, _, i, _) => mL l i) ((good2_nil _).addF ok26') fun (h, k, l, (ld, ls, w), n, i, ()) Q hx => by
  obtain ⟨⟨g1, g2, g3, g4, g5, g6, g7, g8⟩, hQ⟩ := hx
  exact h36L h k l ld ls w n i Q g1 g2 g3 g4 g5 g6 g7 g8 hQ
theorem ins_false {w : Wt} {l : List Dl} {h : List Int} {k : Int} : ∀ (xs : List Int) (prev s m : Int), (m, false) = insF w l h k xs prev s → m = 0
  | [], prev, s, m, e => by simp [insF] at e
  | x :: xs, prev, s, m, e => by
    simp only [insF] at e
    split at e
    · exact ins_false xs x _ m e
    · simpa using e
theorem ok36 : FnOk Try.prog 36 fcIns := fn1_of (n := 5) ((good2_nil _).addL2 ok36L) fun ((ld, ls, w), h, k, l, ()) K hx => by
  obtain ⟨⟨g1, g2⟩, hK⟩ := hx
  have hK : ∀ (m : Int) (b : Bool), (m, b) = insF w ld h k l (-1) 0 → K (m, b, ()) := hK
  have k0 : (0 : Int) ≤ k := g1.2.2.2.2.1
  rw [v36F]
  refine ⟨⟨g1, g2, Int.le_refl (0 : Int), show (0 : Int) ≤ (l.length : Int) by omega, show (0 : Int) ≤ (-1 : Int) + 1 by decide, show (-1 : Int) ≤ k by omega, Int.le_refl (0 : Int), show (0 : Int) ≤ 0 * 1073741824 by decide⟩, fun m b hmb => ⟨fun e => ?_, fun e => ?_⟩⟩
  · subst e; exact hK m true hmb
  · subst e
    have hmb : (m, false) = insF w ld h k l (-1) 0 := hmb
    have := ins_false l (-1) 0 m hmb
    subst this; exact hK 0 false hmb
theorem h9A (k : Int) (ld : List Dl) (ls : List Lk) (w : Wt) (r h : List Int) (i : Int) (Q : AX → St → Prop) (gw : wtOk w = true) (hl : r.length ≤ 64) (gj : ∀ j ∈ r, (0 ≤ j ∧ j < ld.length) ∧ smallB w ld j = true) (h0 : 0 ≤ i) (h1 : i ≤ r.length) (hQ : Q (.exit 0) (stS 1 sh9ae (k, (ld, ls, w), r, h, ()))) :
    xloop2 Try.prog { f := [(26, fcFrom')] } 5 9 0 lc9a (fun _ => some (sh9ae, 1)) (fun (_, _, r, _, i, _) => mL r i) (k, (ld, ls, w), r, h, i, ()) Q := by
  rw [v9A]
  have gW : (1 ≤ w.1 ∧ w.1 ≤ 366) ∧ (1 ≤ w.2.1 ∧ w.2.1 ≤ 1073741824) ∧ (1 ≤ w.2.2.1 ∧ w.2.2.1 ≤ w.2.1) ∧ (1 ≤ w.2.2.2 ∧ w.2.2.2 ≤ 64) := wtOk_iff.1 gw
  simp only [fork_iff, req_iff, decide_eq_true_eq, decide_eq_false_iff_not, Bool.not_eq_true', Bool.not_eq_false']
  refine ⟨fun hi => ?_, fun _ => hQ⟩
  obtain ⟨j1, j2⟩ := gj _ (int_in h0 hi)
  have j2 : decide (w.2.2.1 ≤ (ld.getD (r.getD i.toNat 0).toNat ((0 : Int), (0 : Int), (0 : Int))).2.2 ∧ (ld.getD (r.getD i.toNat 0).toNat ((0 : Int), (0 : Int), (0 : Int))).2.2 ≤ w.2.1 - 1) = true := j2
  refine ⟨⟨h0, hi⟩, j1, inR_i64.2 (by omega), fun b hb => ⟨fun z => ?_, fun _ => ⟨inR_i64.2 (by omega), mL_lt hi, ⟨gw, hl, gj, show (0 : Int) ≤ i + 1 by omega, show i + 1 ≤ (r.length : Int) by omega⟩, hQ⟩⟩⟩
  rw [hb, j2] at z; cases z
theorem ok9A : Lp2Ok Try.prog 9 0 lc9a := lp2_of (n := 5) (ex := fun _ => some (sh9ae, 1)) (m := fun (_, _, r, _, i, _) => mL r i) ((good2_nil _).addF ok26') fun (k, (ld, ls, w), r, h, i, ()) Q hx => by
  obtain ⟨⟨g1, g2, g3, g4, g5⟩, hQ⟩ := hx
  exact h9A k ld ls w r h i Q g1 g2 g3 g4 g5 hQ
theorem h9B (k : Int) (ld : List Dl) (ls : List Lk) (w : Wt) (h : List Int) (a : List Dl) (i : Int) (Q : AX → St → Prop) (gp : insP (ld, ls, w) h k) (hl : a.length ≤ 64) (h0 : 0 ≤ i) (h1 : i ≤ a.length) (hf : firstOk (at' h (dlAt ld k).2.1) k (a.drop i.toNat) = true) (hQ : Q .ret (stS 0 sh9r (true, ()))) :
    xloop2 Try.prog { f := [(19, fcWorks)] } 5 9 1 lc9b ex9 (fun (_, _, _, a, i, _) => mL a i) (k, (ld, ls, w), h, a, i, ()) Q := by
  rw [v9B]
  obtain ⟨gw, h64, gd, h24, k0, k1⟩ := gp
  have gd : ∀ d ∈ ld, dayOk d := gd
  have k1 : k < (ld.length : Int) := k1
  have dk : dayOk (dlAt ld k) := gd _ (dl_in k0 k1)
  simp only [fork_iff, req_iff, decide_eq_true_eq, decide_eq_false_iff_not, beq_iff_eq, beq_eq_false_iff_ne, ne_eq]
  refine ⟨fun hi => ?_, fun hi => ?_⟩
  · rw [drop_step dl0 h0 hi] at hf
    rw [show ld.getD k.toNat ((0 : Int), (0 : Int), (0 : Int)) = dlAt ld k from rfl, show ((0 : Int), (0 : Int), (0 : Int)) = dl0 from rfl]
    rw [show h.getD (dlAt ld k).2.1.toNat 0 = at' h (dlAt ld k).2.1 from rfl]
    generalize a.getD i.toNat dl0 = x at *
    simp only [firstOk] at hf
    refine ⟨⟨h0, hi⟩, ⟨k0, k1⟩, ⟨dk.2.2.1, by have := dk.2.2.2.1; omega⟩, fun e => ⟨⟨h0, hi⟩, fun _ => hQ, fun z => ?_⟩, fun e => ⟨inR_i64.2 (by omega), mL_lt hi, ⟨⟨gw, h64, gd, h24, k0, k1⟩, hl, show (0 : Int) ≤ i + 1 by omega, show i + 1 ≤ (a.length : Int) by omega, ?_⟩, hQ⟩⟩
    · rw [if_pos e, decide_eq_true_eq] at hf; exact absurd hf z
    · rw [if_neg e] at hf; exact hf
  · rw [drop_end hi] at hf; cases hf
theorem ok9B : Lp2Ok Try.prog 9 1 lc9b := lp2_of (n := 5) (ex := ex9) (m := fun (_, _, _, a, i, _) => mL a i) ((good2_nil _).addF okWorks') fun (k, (ld, ls, w), h, a, i, ()) Q hx => by
  obtain ⟨⟨g1, g2, g3, g4, g5⟩, hQ⟩ := hx
  exact h9B k ld ls w h a i Q g1 g2 g3 g4 g5 hQ
end Go.P8
