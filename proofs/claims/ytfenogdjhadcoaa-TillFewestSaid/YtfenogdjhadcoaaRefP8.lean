/- Payments of the reference: the code keeps its contracts. No conditions. -/
import Derived.Test.YtfenogdjhadcoaaRefL8
set_option linter.constructorNameAsVariable false
set_option linter.unusedVariables false
set_option linter.unusedSimpArgs false
set_option maxRecDepth 100000
set_option maxHeartbeats 4000000
namespace Go.P8
open Go.Lom Go.Proofs Go

theorem h78A (s : Int) (o : List Int) (i : Int) (Q : AX → St → Prop) (s0 : 0 ≤ s) (s1 : s ≤ 2000) (h0 : 0 ≤ i) (h1 : i ≤ s + 1) (ho : (o.length : Int) ≤ i) (hQ : ∀ r, r = o ++ List.replicate (s + 1 - i).toNat (-1) → Q (.exit 0) (stS 1 sh78ae (r, ()))) :
    xloop2 Try.prog { nm := true } 5 78 0 lc78a (fun _ => some (sh78ae, 1)) (fun (s, _, i, _) => (s + 1 - i).toNat) (s, o, i, ()) Q := by
  rw [v78A]
  simp only [fork_iff, req_iff, decide_eq_true_eq, decide_eq_false_iff_not, Nat.zero_add, seg_self, Nat.le_refl, true_and]
  refine ⟨fun hi => ⟨fits100 (by omega), fun ys hys => ⟨inR_i64.2 (by omega), ?_⟩⟩, fun hi => hQ _ (by rw [show (s + 1 - i).toNat = 0 by omega]; simp)⟩
  have hyl : o.length + 1 = ys.length := by rw [hys]; simp
  rw [seg_exact hyl]
  refine ⟨by omega, show (s + 1 - (i + 1)).toNat < (s + 1 - i).toNat by omega, ⟨⟨s0, s1, show (0 : Int) ≤ i + 1 by omega, show i + 1 ≤ s + 1 by omega, show (ys.length : Int) ≤ i + 1 by omega⟩, fun r hr => hQ r ?_⟩⟩
  have hr : r = ys ++ List.replicate (s + 1 - (i + 1)).toNat (-1) := hr
  rw [hr, hys, List.append_assoc, show (s + 1 - i).toNat = (s + 1 - (i + 1)).toNat + 1 by omega, List.replicate_succ]; rfl
theorem ok78A : Lp2Ok Try.prog 78 0 lc78a := lp2_of (n := 5) (ex := fun _ => some (sh78ae, 1)) (m := fun (s, _, i, _) => (s + 1 - i).toNat) (good2_nilN _) fun (s, o, i, ()) Q hx => by
  obtain ⟨⟨g1, g2, g3, g4, g5⟩, hQ⟩ := hx
  exact h78A s o i Q g1 g2 g3 g4 g5 hQ
theorem h78C (cs hv : List Int) (k sm : Int) (o : List Int) (s b n : Int) (Q : AX → St → Prop) (g1 : okC cs hv) (k0 : 0 ≤ k) (k1 : k < cs.length) (s0 : 0 ≤ s) (s1 : s ≤ sm) (s2 : sm ≤ 2000) (n0 : 0 ≤ n) (n1 : n ≤ manyI cs hv (k, s)) (b0 : -1 ≤ b) (b1 : b ≤ 1073741824)
    (hQ : ∀ r : Int, r = refM (fun x => conv (few (lst cs hv (k + 1)) x)) (cs.getD k.toNat 0) s (manyI cs hv (k, s) - n).toNat n b → Q (.exit 4) (stS 1 sh78ce (cs, hv, k, sm, tabL (lst cs hv (k + 1)) sm, o, s, r, ()))) :
    xloop2 Try.prog { nm := true } 5 78 2 lc78c (fun _ => some (sh78ce, 1)) (fun (cs, hv, k, _, _, _, s, _, n, _) => (manyI cs hv (k, s) - n).toNat) (cs, hv, k, sm, tabL (lst cs hv (k + 1)) sm, o, s, b, n, ()) Q := by
  rw [v78C]
  obtain ⟨⟨c1, c2⟩, d1, d2⟩ := coin_at g1 k0 k1
  have hl := g1.len
  obtain ⟨m1, m2, m3, m4⟩ := many_bd g1 k0 k1 s0
  have hiff := many_iff g1 k0 k1 s0 n0
  have hyp := fewL_hyp g1 (show 0 ≤ k + 1 by omega)
  have hM : ∀ t : Int, manyI cs hv (k, s) - n = t → t = 0 ∨ 0 < t := fun t e => by omega
  have fin : ¬ n < manyI cs hv (k, s) → Q (.exit 4) (stS 1 sh78ce (cs, hv, k, sm, tabL (lst cs hv (k + 1)) sm, o, s, b, ())) := fun h => hQ b (by rw [show (manyI cs hv (k, s) - n).toNat = 0 by omega]; rfl)
  have nc : n ≤ 101 := by omega
  have hnc : n ≤ hv.getD k.toNat 0 → 0 ≤ n * cs.getD k.toNat 0 ∧ n * cs.getD k.toNat 0 ≤ 101 * 50000 := fun h => ⟨Int.mul_nonneg n0 (by omega), Int.mul_le_mul nc c2 (by omega) (by decide)⟩
  simp only [fork_iff, req_iff, decide_eq_true_eq, decide_eq_false_iff_not, Nat.zero_add, seg_self, Nat.le_refl, true_and, ge_iff_le]
  refine ⟨⟨k0, by omega⟩, fun hh => ⟨⟨k0, k1⟩, inR_i64.2 (by have := hnc hh; omega), fun hs => ?_, fun hs => fin (fun e => hs (hiff.2 e).2)⟩, fun hh => fin (fun e => hh (hiff.2 e).1)⟩
  have hlt := hiff.1 ⟨hh, hs⟩
  have hb := hnc hh
  have e1 : (manyI cs hv (k, s) - n).toNat = (manyI cs hv (k, s) - (n + 1)).toNat + 1 := by omega
  rw [e1] at hQ
  simp only [refM] at hQ
  rw [tab_get (l := lst cs hv (k + 1)) (by omega) (by omega : s - n * cs.getD k.toNat 0 ≤ sm)]
  have htl : ((tabL (lst cs hv (k + 1)) sm).length : Int) = sm + 1 := by unfold tabL; rw [tab_len]; omega
  obtain ⟨a1, a2, a3⟩ := hyp (s - n * cs.getD k.toNat 0)
  have cv : -1 ≤ conv (few (lst cs hv (k + 1)) (s - n * cs.getD k.toNat 0)) ∧ conv (few (lst cs hv (k + 1)) (s - n * cs.getD k.toNat 0)) ≤ 800 := by
    unfold conv; split
    · omega
    · have := a3 (by omega); omega
  generalize hx : conv (few (lst cs hv (k + 1)) (s - n * cs.getD k.toNat 0)) = x at *
  have i1 : inR .i64 (n * cs.getD k.toNat 0) = true := inR_i64.2 (by omega)
  have i2 : inR .i64 (s - n * cs.getD k.toNat 0) = true := inR_i64.2 (by omega)
  have i3 : inR .i64 (n + 1) = true := inR_i64.2 (by omega)
  have i4 : inR .i64 (x + n) = true := inR_i64.2 (by omega)
  have mm : (manyI cs hv (k, s) - (n + 1)).toNat < (manyI cs hv (k, s) - n).toNat := by omega
  have go : ∀ b', -1 ≤ b' → b' ≤ 1073741824 → b' = (if x ≥ 0 ∧ (b < 0 ∨ x + n < b) then x + n else b) → LC2.spec lc78c (cs, hv, k, sm, tabL (lst cs hv (k + 1)) sm, o, s, b', n + 1, ()) Q := fun b' p1 p2 p3 =>
    ⟨⟨g1, ⟨k0, k1⟩, ⟨s0, s1, s2⟩, rfl, ⟨show (0 : Int) ≤ n + 1 by omega, show n + 1 ≤ manyI cs hv (k, s) by omega⟩, p1, p2⟩, fun r hr => hQ r (by rw [← p3]; exact hr)⟩
  have go := fun b' p1 p2 p3 => (fun g => (⟨⟨g.1.1, g.1.2.1, g.1.2.2.1, g.1.2.2.2.2⟩, g.2⟩ : (_ ∧ _ ∧ _ ∧ _) ∧ _)) (go b' p1 p2 p3)
  refine ⟨⟨k0, k1⟩, i1, i2, ⟨by omega, by omega⟩, fun hx0 => ⟨fun hb0 => ⟨i4, i3, mm, go _ (by omega) (by omega) (by rw [if_pos ⟨hx0, .inl hb0⟩])⟩, fun hb0 => ⟨i4, fun hl2 => ⟨i4, i3, mm, go _ (by omega) (by omega) (by rw [if_pos ⟨hx0, .inr hl2⟩])⟩, fun hl2 => ⟨i3, mm, go _ b0 b1 (by rw [if_neg (fun e => e.2.elim hb0 hl2)])⟩⟩⟩, fun hx0 => ⟨i3, mm, go _ b0 b1 (by rw [if_neg (fun e => hx0 e.1)])⟩⟩
theorem ok78C : Lp2Ok Try.prog 78 2 lc78c := lp2_of (n := 5) (ex := fun _ => some (sh78ce, 1)) (m := fun (cs, hv, k, _, _, _, s, _, n, _) => (manyI cs hv (k, s) - n).toNat) (good2_nilN _) fun (cs, hv, k, sm, rs, o, s, b, n, ()) Q hx => by
  obtain ⟨⟨g1, ⟨g2, g3⟩, ⟨g4, g5, g6⟩, g7, ⟨g8, g9⟩, g10, g11⟩, hQ⟩ := hx
  have g7 : rs = tabL (lst cs hv (k + 1)) sm := g7
  subst g7
  exact h78C cs hv k sm o s b n Q g1 g2 g3 g4 g5 g6 g8 g9 g10 g11 hQ
theorem h78B (cs hv : List Int) (k sm : Int) (o : List Int) (s : Int) (Q : AX → St → Prop) (g1 : okC cs hv) (k0 : 0 ≤ k) (k1 : k < cs.length) (s0 : 0 ≤ s) (s1 : s ≤ sm + 1) (s3 : 0 ≤ sm) (s2 : sm ≤ 2000) (ho : (o.length : Int) ≤ s)
    (hQ : ∀ r, r = o ++ tabF (lst cs hv k) s.toNat (sm + 1 - s).toNat → Q (.exit 2) (stS 1 sh78be (r, ()))) :
    xloop2 Try.prog { nm := true, l2 := [(78, 2, lc78c)] } 5 78 1 lc78b (fun _ => some (sh78be, 1)) (fun (_, _, _, sm, _, _, s, _) => (sm + 1 - s).toNat) (cs, hv, k, sm, tabL (lst cs hv (k + 1)) sm, o, s, ()) Q := by
  rw [v78B]
  simp only [fork_iff, req_iff, decide_eq_true_eq, decide_eq_false_iff_not, Nat.zero_add, seg_self, Nat.le_refl, true_and, Int.sub_zero]
  refine ⟨fun hi => ?_, fun hi => hQ _ (by rw [show (sm + 1 - s).toNat = 0 by omega]; simp [tabF])⟩
  obtain ⟨m1, m2, m3, m4⟩ := many_bd g1 k0 k1 s0
  refine ⟨⟨g1, ⟨k0, k1⟩, ⟨s0, hi, s2⟩, ⟨Int.le_refl (0 : Int), by omega⟩, by decide, by decide⟩, fun r hr => ⟨fits100 (by omega), fun ys hys => ⟨inR_i64.2 (by omega), ?_⟩⟩⟩
  have hyl : o.length + 1 = ys.length := by rw [hys]; simp
  rw [seg_exact hyl]
  refine ⟨by omega, show (sm + 1 - (s + 1)).toNat < (sm + 1 - s).toNat by omega, ⟨⟨g1, ⟨k0, k1⟩, ⟨show (0 : Int) ≤ s + 1 by omega, show s + 1 ≤ sm + 1 by omega, s3, s2⟩, show (ys.length : Int) ≤ s + 1 by omega⟩, fun r2 hr2 => hQ r2 ?_⟩⟩
  have hr2 : r2 = ys ++ tabF (lst cs hv k) (s + 1).toNat (sm + 1 - (s + 1)).toNat := hr2
  have hrr : r = conv (few (lst cs hv k) s) := by
    have e := refM_eq (c := cs.getD k.toNat 0) (s := s) (fewL_hyp g1 (show 0 ≤ k + 1 by omega)) (manyI cs hv (k, s)).toNat 0 1073741824 (by omega) (by omega) (by decide) (by decide)
    rw [conv_none] at e
    have st := fewI_step g1 k0 k1 (s := s)
    have : few (lst cs hv k) s = fewI cs hv (k, s) := rfl
    rw [this, st, ← e]
    exact hr
  rw [hr2, hys, List.append_assoc, show (sm + 1 - s).toNat = (sm + 1 - (s + 1)).toNat + 1 by omega, tab_step, show (s + 1).toNat = s.toNat + 1 by omega, hrr, show ((s.toNat : Nat) : Int) = s by omega]; rfl
theorem ok78B : Lp2Ok Try.prog 78 1 lc78b := lp2_of (n := 5) (ex := fun _ => some (sh78be, 1)) (m := fun (_, _, _, sm, _, _, s, _) => (sm + 1 - s).toNat) ((good2_nilN _).addL2 ok78C) fun (cs, hv, k, sm, rs, o, s, ()) Q hx => by
  obtain ⟨⟨g1, ⟨g2, g3⟩, ⟨g4, g5, g6, g6'⟩, g7, g8⟩, hQ⟩ := hx
  have g7 : rs = tabL (lst cs hv (k + 1)) sm := g7
  subst g7
  exact h78B cs hv k sm o s Q g1 g2 g3 g4 g5 g6 g6' g8 hQ
theorem h78F (c : Nat) (cs hv : List Int) (k sm : Int) (K : dens [L] → Prop) (g1 : okC cs hv) (k0 : 0 ≤ k) (k1 : k ≤ cs.length) (k2 : (cs.length : Int) - k < ((c + 1 : Nat) : Int)) (s0 : 0 ≤ sm) (s1 : sm ≤ 2000) (hK : ∀ r, r = tabL (lst cs hv k) sm → K (r, ())) :
    xfn1 Try.prog { nm := true, f := [(78, fc78 c)], l2 := [(78, 0, lc78a), (78, 1, lc78b)] } 5 78 (fc78 (c + 1)) (cs, hv, k, sm, ()) K := by
  rw [v78F]
  have hl := g1.len
  simp only [fork_iff, req_iff, decide_eq_true_eq, decide_eq_false_iff_not, beq_iff_eq, beq_eq_false_iff_ne, ne_eq, Nat.zero_add, seg_self, Nat.le_refl, true_and, List.nil_append, Int.sub_zero]
  refine ⟨fun h => ⟨⟨s0, s1, by decide, show (1 : Int) ≤ sm + 1 by omega, by decide⟩, fun r hr => hK r ?_⟩, fun h => ⟨inR_i64.2 (by omega), ⟨g1, ⟨show (0 : Int) ≤ k + 1 by omega, show k + 1 ≤ (cs.length : Int) by omega, show (cs.length : Int) - (k + 1) < (c : Int) by push_cast at k2; omega⟩, s0, s1⟩, fun r hr => ⟨⟨g1, ⟨k0, show k < (cs.length : Int) by omega⟩, ⟨Int.le_refl (0 : Int), show (0 : Int) ≤ sm + 1 by omega, s0, s1⟩, hr, Int.le_refl (0 : Int)⟩, fun r2 hr2 => hK r2 hr2⟩⟩⟩
  have hr : r = [0] ++ List.replicate (sm + 1 - 1).toNat (-1) := hr
  rw [hr, lst_end g1 (by omega)]
  unfold tabL
  rw [show (sm + 1).toNat = (sm + 1 - 1).toNat + 1 by omega, tab_step, tab_nil 1 _ (by omega)]; rfl
theorem ok78 : ∀ c, FnOk Try.prog 78 (fc78 c)
  | 0 => fn1_of (n := 5) (T := {}) (good2_nil _) fun x K hx => by
      obtain ⟨cs, hv, k, sm, v⟩ := x
      have h := hx.1.2.1
      have h1 : k ≤ (cs.length : Int) := h.2.1
      have h2 : (cs.length : Int) - k < ((0 : Nat) : Int) := h.2.2
      exact absurd h2 (Int.not_lt.2 (Int.sub_nonneg.2 h1))
  | c + 1 => fn1_of (n := 5) ((((good2_nilN _).addL2 ok78B).addL2 ok78A).addF (ok78 c)) fun (cs, hv, k, sm, ()) K hx => by
      obtain ⟨⟨g1, ⟨g2, g3, g4⟩, g5, g6⟩, hK⟩ := hx
      exact h78F c cs hv k sm K g1 g2 g3 g4 g5 g6 hK
/-! pay -/
theorem h46B (cs hv : List Int) (s ms : Int) (o : List Int) (i : Int) (n : Int) (Q : AX → St → Prop) (g1 : okC cs hv) (i0 : 0 ≤ i) (i1 : i < cs.length) (s0 : 0 ≤ s) (s1 : s ≤ 2000) (hms : ms = fewI cs hv (i, s)) (hf : ms < 1073741824) (n0 : 0 ≤ n) (nh : n ≤ hv.getD i.toNat 0) (hh : hasN (few (lst cs hv (i + 1))) (cs.getD i.toNat 0) s ms (min n (manyI cs hv (i, s) - 1)))
    (hQ : ∀ r : Int, r = topN (few (lst cs hv (i + 1))) (cs.getD i.toNat 0) s ms (min n (manyI cs hv (i, s) - 1)).toNat → Q (.exit 2) (stS 1 sh46be (cs, hv, s, ms, o, i, r, ()))) :
    xloop2 Try.prog { nm := true } 5 46 1 lc46b (fun _ => some (sh46be, 1)) (fun (_, _, _, _, _, _, _, n, _) => n.toNat) (cs, hv, s, ms, o, i, tabL (lst cs hv (i + 1)) s, n, ()) Q := by
  rw [v46B]
  obtain ⟨⟨c1, c2⟩, d1, d2⟩ := coin_at g1 i0 i1
  have hl := g1.len
  obtain ⟨m1, m2, m3, m4⟩ := many_bd g1 i0 i1 s0
  have hlow := fewL_low g1 i0 i1 s0 (show few (lst cs hv i) s < 1073741824 by rw [hms] at hf; exact hf)
  have hfin := fewL_fin g1 i0 (show few (lst cs hv i) s < 1073741824 by rw [hms] at hf; exact hf)
  have hms2 : few (lst cs hv i) s = ms := hms.symm
  rw [hms2] at hlow hfin
  have ms0 : 0 ≤ ms := by rw [← hms2]; exact few_nonneg _ _
  have mq := mul_iff n0 s0 c1
  have hmq : manyI cs hv (i, s) - 1 ≤ s.tdiv (cs.getD i.toNat 0) := m3
  have hnc : 0 ≤ n * cs.getD i.toNat 0 ∧ n * cs.getD i.toNat 0 ≤ 100 * 50000 := ⟨Int.mul_nonneg n0 (by omega), Int.mul_le_mul (by omega) c2 (by omega) (by decide)⟩
  have hmin : manyI cs hv (i, s) - 1 = min (hv.getD i.toNat 0) (s.tdiv (cs.getD i.toNat 0)) := by unfold manyI; simp only; omega
  have htl : ((tabL (lst cs hv (i + 1)) s).length : Int) = s + 1 := by unfold tabL; rw [tab_len]; omega
  have hdec : ∀ t : Int, min (n - 1) (manyI cs hv (i, s) - 1) = t → 1 ≤ n → hasN (few (lst cs hv (i + 1))) (cs.getD i.toNat 0) s ms t → topN (few (lst cs hv (i + 1))) (cs.getD i.toNat 0) s ms (min n (manyI cs hv (i, s) - 1)).toNat = topN (few (lst cs hv (i + 1))) (cs.getD i.toNat 0) s ms t.toNat →
      inR .i64 (n - 1) = true ∧ (n - 1).toNat < n.toNat ∧ LC2.spec lc46b (cs, hv, s, ms, o, i, tabL (lst cs hv (i + 1)) s, n - 1, ()) Q := fun t e h1 h2 h3 => by
    rw [h3, ← e] at hQ
    rw [← e] at h2
    exact ⟨inR_i64.2 (by omega), by omega, ⟨⟨g1, ⟨i0, i1⟩, ⟨s0, s1⟩, rfl, ⟨hms, hf⟩, ⟨show (0 : Int) ≤ n - 1 by omega, show n - 1 ≤ hv.getD i.toNat 0 by omega⟩, h2⟩, hQ⟩⟩
  have hdec := fun t e h1 h2 h3 => (fun g => (⟨g.1, g.2.1, ⟨g.2.2.1.1, g.2.2.1.2.1, g.2.2.1.2.2.1, g.2.2.1.2.2.2.2⟩, g.2.2.2⟩ : _ ∧ _ ∧ (_ ∧ _ ∧ _ ∧ _) ∧ _)) (hdec t e h1 h2 h3)
  simp only [fork_iff, req_iff, decide_eq_true_eq, decide_eq_false_iff_not, bne_iff_ne, bne_eq_false_iff_eq, ne_eq, Nat.zero_add, seg_self, Nat.le_refl, true_and, gt_iff_lt]
  refine ⟨⟨i0, i1⟩, inR_i64.2 (by omega), fun hgt => ?_, fun hle => ?_⟩
  · have hn : ¬ n ≤ s.tdiv (cs.getD i.toNat 0) := fun e => by have := mq.2 e; omega
    have q0 := (quo_bd s0 c1).1
    have e : min n (manyI cs hv (i, s) - 1) = manyI cs hv (i, s) - 1 := by omega
    have e2 : min (n - 1) (manyI cs hv (i, s) - 1) = manyI cs hv (i, s) - 1 := by omega
    exact hdec _ e2 (by omega) (by rw [← e]; exact hh) (by rw [e])
  · have hle : n * cs.getD i.toNat 0 ≤ s := by omega
    have hn := mq.1 hle
    have e : min n (manyI cs hv (i, s) - 1) = n := by omega
    have hnm : n ≤ ms := by
      have h3 : n * cs.getD i.toNat 0 ≤ ms * cs.getD i.toNat 0 := Int.le_trans hle hlow
      exact Int.le_of_mul_le_mul_right h3 (by omega)
    rw [tab_get (l := lst cs hv (i + 1)) (by omega) (by omega : s - n * cs.getD i.toNat 0 ≤ s)]
    have f0 := few_nonneg (lst cs hv (i + 1)) (s - n * cs.getD i.toNat 0)
    have hcv : conv (few (lst cs hv (i + 1)) (s - n * cs.getD i.toNat 0)) = ms - n ↔ n + few (lst cs hv (i + 1)) (s - n * cs.getD i.toNat 0) = ms := by
      unfold conv; split <;> omega
    rw [e] at hh hQ hdec
    refine ⟨⟨i0, i1⟩, inR_i64.2 (by omega), inR_i64.2 (by omega), ⟨by omega, by omega⟩, inR_i64.2 (by omega), fun hne => ?_, fun heq => ?_⟩
    · rw [hcv] at hne
      obtain ⟨j, j0, j1, j2⟩ := hh
      have hj : j ≠ n := fun e => hne (by rw [← e]; exact j2)
      have e2 : min (n - 1) (manyI cs hv (i, s) - 1) = n - 1 := by omega
      obtain ⟨p, hp⟩ : ∃ p, n.toNat = p + 1 := ⟨n.toNat - 1, by omega⟩
      have hp2 : ((p : Int) + 1) = n := by omega
      refine hdec _ e2 (by omega) ⟨j, j0, by omega, j2⟩ ?_
      rw [hp]
      simp only [topN]
      rw [hp2, if_neg hne, show p = (n - 1).toNat by omega]
    · rw [hcv] at heq
      refine hQ n ?_
      by_cases hn0 : n = 0
      · subst hn0; rfl
      · obtain ⟨p, hp⟩ : ∃ p, n.toNat = p + 1 := ⟨n.toNat - 1, by omega⟩
        have hp2 : ((p : Int) + 1) = n := by omega
        rw [hp]
        simp only [topN]
        rw [hp2, if_pos heq]
end Go.P8
