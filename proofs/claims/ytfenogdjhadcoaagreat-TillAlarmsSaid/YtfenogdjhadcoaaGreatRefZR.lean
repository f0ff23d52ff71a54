/- The reference's windows: the code keeps its contracts. No conditions. -/
import Derived.Test.YtfenogdjhadcoaaGreatRefZQ
set_option linter.constructorNameAsVariable false
set_option linter.unusedVariables false
set_option linter.unusedSimpArgs false
set_option maxRecDepth 100000
set_option maxHeartbeats 4000000
namespace Go.P8
open Go.Lom Go.Proofs Go

theorem h22ZF (l : List Dl) (ls : List Lk) (w : Wt) (K : dens [.b] → Prop) (g1 : l.length ≤ big) (g2 : ls.length ≤ big) (hK : ∀ b : Bool, b = watOk l ls w → K (b, ())) : xfn1 Tryz.prog { f := [(28, fcFromZ), (15, fc64)], l2 := [(22, 0, lc22z)] } 5 22 fc22z (l, ls, w, ()) K := by
  rw [v22ZF]
  refine ⟨⟨g1, Int.le_refl (0 : Int), show (0 : Int) ≤ (l.length : Int) by omega⟩, fun hd => ?_, fun hd => hK _ ?_⟩
  · have hd : dlsOk l 0 = true := hd
    have bad : watOk l ls w = false → K (false, ()) := fun h => hK _ h.symm
    have wbad : wtOk w = false → K (false, ()) := fun h => bad (by unfold watOk; rw [h, Bool.and_false])
    have nw : ¬ ((1 ≤ w.1 ∧ w.1 ≤ 366) ∧ (1 ≤ w.2.1 ∧ w.2.1 ≤ 1073741824) ∧ (1 ≤ w.2.2.1 ∧ w.2.2.1 ≤ w.2.1) ∧ (1 ≤ w.2.2.2 ∧ w.2.2.2 ≤ 64)) → K (false, ()) := fun h => wbad (Bool.eq_false_iff.2 fun q => h (wtOk_iff.1 q))
    simp only [fork_iff, decide_eq_true_eq, decide_eq_false_iff_not]
    refine ⟨fun h64 => ⟨g2, fun b hb => ⟨fun z => fun b1 hb1 => ⟨fun z1 => fun b2 hb2 => ⟨fun z2 => fun b3 hb3 => ⟨fun z3 => fun b4 hb4 => hK b4 ?_, fun z3 => nw fun y => ?_⟩, fun z2 => nw fun y => ?_⟩, fun z1 => nw fun y => ?_⟩, fun z => bad ?_⟩⟩, fun h64 => bad ?_⟩
    · rw [hb1, decide_eq_true_eq] at z1
      rw [hb2, decide_eq_true_eq] at z2
      rw [hb3, decide_eq_true_eq] at z3
      rw [z] at hb
      rw [hb4]
      unfold watOk wtOk
      rw [← hb, hd, decide_eq_true (show l.length ≤ 64 by omega), decide_eq_true z1, decide_eq_true z2, decide_eq_true z3]; rfl
    · rw [hb3, decide_eq_true y.2.2.1] at z3; cases z3
    · rw [hb2, decide_eq_true y.2.1] at z2; cases z2
    · rw [hb1, decide_eq_true y.1] at z1; cases z1
    · unfold watOk; rw [← hb, z]; rfl
    · unfold watOk; rw [decide_eq_false (show ¬ l.length ≤ 64 by omega)]; simp
  · have hd : dlsOk l 0 = false := hd
    unfold watOk; rw [hd]; simp
theorem ok22z : FnOk Tryz.prog 22 fc22z := fn1_of (n := 5) (((good2_nil _).addL2 ok22Z).addF ok15z |>.addF ok28z) fun (l, ls, w, ()) K hx => h22ZF l ls w K hx.1.1 hx.1.2 hx.2
theorem h23Z (l : List Dl) (h : List Int) (k : Int) (w : Wt) (o : List Int) (i : Int) (Q : AX → St → Prop) (g : dlP w l) (h24 : h.length = 24) (k0 : 0 ≤ k) (k1 : k < l.length) (h0 : 0 ≤ i) (h1 : i ≤ k + 1) (ho : (o.length : Int) ≤ i) (hQ : ∀ r : List Int, r = o ++ winF w l h k (k + 1 - i).toNat i → Q (.exit 0) (stS 2 sh23ze (r, ()))) :
    xloop2 Tryz.prog { nm := true } 5 23 0 lc23z (fun _ => some (sh23ze, 2)) (fun (_, _, k, _, _, i, _) => (k + 1 - i).toNat) (l, h, k, w, o, i, ()) Q := by
  rw [v23Z]
  simp only [fork_iff, req_iff, decide_eq_true_eq, decide_eq_false_iff_not, beq_iff_eq, beq_eq_false_iff_ne, ne_eq, gt_iff_lt, Nat.zero_add, Nat.le_refl, seg_self, true_and]
  have h64 := g.2.1
  have gW := wtOk_iff.1 g.1
  refine ⟨fun hi => ?_, fun hi => hQ o (by rw [show (k + 1 - i).toNat = 0 by omega]; simp [winF])⟩
  have dx : dayOk (l.getD i.toNat ((0, 0, 0) : Dl)) := g.2.2 _ (dl_in h0 (by omega))
  have dk : dayOk (l.getD k.toNat ((0, 0, 0) : Dl)) := g.2.2 _ (dl_in k0 k1)
  have hw : winB w l h k i = (decide (at' h (l.getD i.toNat ((0, 0, 0) : Dl)).2.1 = at' h (l.getD k.toNat ((0, 0, 0) : Dl)).2.1) && decide ((l.getD k.toNat ((0, 0, 0) : Dl)).1 - w.1 < (l.getD i.toNat ((0, 0, 0) : Dl)).1)) := rfl
  rw [show (k + 1 - i).toNat = (k + 1 - (i + 1)).toNat + 1 by omega] at hQ
  simp only [winF] at hQ
  rw [hw] at hQ
  generalize l.getD i.toNat ((0, 0, 0) : Dl) = x at *
  generalize l.getD k.toNat ((0, 0, 0) : Dl) = y at *
  obtain ⟨x1, x2, x3, x4, x5, x6⟩ := dx
  obtain ⟨y1, y2, y3, y4, y5, y6⟩ := dk
  have go : ∀ o' : List Int, (o'.length : Int) ≤ i + 1 → (∀ r : List Int, r = o' ++ winF w l h k (k + 1 - (i + 1)).toNat (i + 1) → Q (.exit 0) (stS 2 sh23ze (r, ()))) → ((k + 1 - (i + 1)).toNat < (k + 1 - i).toNat ∧ (dlP w l ∧ h.length = 24 ∧ 0 ≤ k ∧ k < (l.length : Int) ∧ 0 ≤ i + 1 ∧ i + 1 ≤ k + 1 ∧ (o'.length : Int) ≤ i + 1) ∧ ∀ r : List Int, r = o' ++ winF w l h k (k + 1 - (i + 1)).toNat (i + 1) → Q (.exit 0) (stS 2 sh23ze (r, ()))) := fun o' a b => ⟨by omega, ⟨g, h24, k0, k1, by omega, by omega, a⟩, b⟩
  have out : ¬ (at' h x.2.1 = at' h y.2.1 ∧ y.1 - w.1 < x.1) → ∀ r : List Int, r = o ++ winF w l h k (k + 1 - (i + 1)).toNat (i + 1) → Q (.exit 0) (stS 2 sh23ze (r, ())) := fun hne r hr => hQ r (by
    rw [if_neg (fun z => hne (by simpa using z))]; exact hr)
  refine ⟨⟨h0, by omega⟩, ⟨x3, by omega⟩, ⟨k0, k1⟩, ⟨y3, by omega⟩, fun q1 => ⟨⟨h0, by omega⟩, ⟨k0, k1⟩, inR_i64.2 (by omega), fun q2 => ⟨fits100 (by omega), fun ys hys => ?_⟩, fun q2 => ⟨inR_i64.2 (by omega), go o (by omega) (out fun z => q2 z.2)⟩⟩, fun q1 => ⟨inR_i64.2 (by omega), go o (by omega) (out fun z => q1 z.1)⟩⟩
  subst hys
  have e1 : (o ++ [i]).length = o.length + 1 := by simp
  rw [← e1, seg_self]
  have q1 : at' h x.2.1 = at' h y.2.1 := q1
  exact ⟨inR_i64.2 (by omega), Nat.le_refl _, go (o ++ [i]) (by omega) fun r hr => hQ r (by rw [decide_eq_true q1, decide_eq_true q2, Bool.and_self, if_pos rfl, hr]; simp)⟩
theorem ok23Z : Lp2Ok Tryz.prog 23 0 lc23z := lp2_of (n := 5) (ex := fun _ => some (sh23ze, 2)) (m := fun (_, _, k, _, _, i, _) => (k + 1 - i).toNat) (good2_nilN _) fun (l, h, k, w, o, i, ()) Q hx => by
  obtain ⟨⟨g1, g2, g3, g4, g5, g6, g7⟩, hQ⟩ := hx
  exact h23Z l h k w o i Q g1 g2 g3 g4 g5 g6 g7 hQ
theorem ok23z : FnOk Tryz.prog 23 fc23z := fn1_of (n := 5) ((good2_nil _).addL2 ok23Z) fun (l, h, w, k, ()) K hx => by
  obtain ⟨⟨g1, g2, g3, g4⟩, hK⟩ := hx
  have g3 : (0 : Int) ≤ k := g3
  have hK : ∀ r : List Int, r = allI w l h k → K (r, ()) := hK
  rw [v23ZF]
  simp only [req_iff, decide_eq_true_eq, Nat.zero_add, Nat.le_refl, seg_self, true_and]
  refine ⟨⟨g1, g2, g3, g4, Int.le_refl (0 : Int), show (0 : Int) ≤ k + 1 by omega, Int.le_refl (0 : Int)⟩, fun r hr => hK r ?_⟩
  have hr : r = winF w l h k (k + 1 - 0).toNat 0 := hr
  rw [hr, Int.sub_zero]; rfl
theorem h25Z (l : List Dl) (is : List Int) (n i : Int) (Q : AX → St → Prop) (g : ixP l is) (h0 : 0 ≤ i) (h1 : i ≤ is.length) (n0 : 0 ≤ n) (n1 : n ≤ i * 1073741824) (hQ : ∀ r, r = n + sumOf l (is.drop i.toNat) → Q (.exit 0) (stS 0 sh25ze (r, ()))) :
    xloop2 Tryz.prog {} 5 25 0 lc25z (fun _ => some (sh25ze, 0)) (fun (_, is, _, i, _) => mL is i) (l, is, n, i, ()) Q := by
  rw [v25Z]
  simp only [fork_iff, req_iff, decide_eq_true_eq, decide_eq_false_iff_not]
  have h64 := g.2.2.1
  refine ⟨fun hi => ?_, fun hi => hQ n (by rw [drop_end hi]; simp [sumOf])⟩
  have hx := g.2.2.2 _ (int_in h0 hi)
  rw [drop_step 0 h0 hi] at hQ
  have dx : dayOk (l.getD (is.getD i.toNat 0).toNat ((0, 0, 0) : Dl)) := g.2.1 _ (dl_in hx.1 hx.2)
  have ham : amt l (is.getD i.toNat 0) = (l.getD (is.getD i.toNat 0).toNat ((0, 0, 0) : Dl)).2.2 := rfl
  simp only [sumOf, List.map_cons, List.sum_cons] at hQ
  rw [ham] at hQ
  generalize l.getD (is.getD i.toNat 0).toNat ((0, 0, 0) : Dl) = x at *
  obtain ⟨x1, x2, x3, x4, x5, x6⟩ := dx
  exact ⟨⟨h0, hi⟩, hx, inR_i64.2 (by omega), inR_i64.2 (by omega), mL_lt hi, ⟨g, show (0 : Int) ≤ i + 1 by omega, show i + 1 ≤ (is.length : Int) by omega, show (0 : Int) ≤ n + x.2.2 by omega, show n + x.2.2 ≤ (i + 1) * 1073741824 by omega⟩, fun r hr => hQ r (hr.trans (Int.add_assoc _ _ _))⟩
theorem ok25Z : Lp2Ok Tryz.prog 25 0 lc25z := lp2_of (n := 5) (ex := fun _ => some (sh25ze, 0)) (m := fun (_, is, _, i, _) => mL is i) (good2_nil _) fun (l, is, n, i, ()) Q hx => h25Z l is n i Q hx.1.1 hx.1.2.1 hx.1.2.2.1 hx.1.2.2.2.1 hx.1.2.2.2.2 hx.2
theorem ok25z : FnOk Tryz.prog 25 fc25z := fn1_of (n := 5) ((good2_nil _).addL2 ok25Z) fun (l, is, ()) K hx => by
  obtain ⟨g1, hK⟩ := hx
  have hK : ∀ r, r = sumOf l is → K (r, ()) := hK
  rw [v25ZF]
  refine ⟨⟨g1, Int.le_refl (0 : Int), show (0 : Int) ≤ (is.length : Int) by omega, Int.le_refl (0 : Int), show (0 : Int) ≤ 0 * 1073741824 by decide⟩, fun r hr => hK r (hr.trans (Int.zero_add _))⟩
theorem h30Z (l : List Dl) (is : List Int) (w : Wt) (o : List Int) (i : Int) (Q : AX → St → Prop) (gw : wtOk w = true) (g : ixP l is) (h0 : 0 ≤ i) (h1 : i ≤ is.length) (ho : (o.length : Int) ≤ i) (hQ : ∀ r : List Int, r = o ++ (is.drop i.toNat).filter (smallB w l) → Q (.exit 0) (stS 2 sh30ze (r, ()))) :
    xloop2 Tryz.prog { nm := true, f := [(28, fcFromZ)] } 5 30 0 lc30z (fun _ => some (sh30ze, 2)) (fun (_, is, _, _, i, _) => mL is i) (l, is, w, o, i, ()) Q := by
  rw [v30Z]
  simp only [fork_iff, req_iff, decide_eq_true_eq, decide_eq_false_iff_not, Nat.zero_add, Nat.le_refl, seg_self, true_and]
  have h64 := g.2.2.1
  have gW := wtOk_iff.1 gw
  refine ⟨fun hi => ?_, fun hi => hQ o (by rw [drop_end hi]; simp)⟩
  have hx := g.2.2.2 _ (int_in h0 hi)
  rw [drop_step 0 h0 hi] at hQ
  have hs : smallB w l (is.getD i.toNat 0) = decide (w.2.2.1 ≤ (l.getD (is.getD i.toNat 0).toNat ((0 : Int), (0 : Int), (0 : Int))).2.2 ∧ (l.getD (is.getD i.toNat 0).toNat ((0 : Int), (0 : Int), (0 : Int))).2.2 ≤ w.2.1 - 1) := rfl
  refine ⟨⟨h0, hi⟩, hx, inR_i64.2 (by omega), fun b hb => ?_⟩
  rw [← hs] at hb
  rw [List.filter_cons, ← hb] at hQ
  refine ⟨fun z => ⟨⟨h0, hi⟩, fits100 (by omega), fun ys hys => ?_⟩, fun z => ⟨inR_i64.2 (by omega), mL_lt hi, ⟨gw, g, show (0 : Int) ≤ i + 1 by omega, show i + 1 ≤ (is.length : Int) by omega, show (o.length : Int) ≤ i + 1 by omega⟩, fun r hr => hQ r (by rw [z, if_neg (by simp)]; exact hr)⟩⟩
  subst hys
  have e1 : (o ++ [is.getD i.toNat 0]).length = o.length + 1 := by simp
  rw [← e1, seg_self]
  exact ⟨inR_i64.2 (by omega), Nat.le_refl _, mL_lt hi, ⟨gw, g, show (0 : Int) ≤ i + 1 by omega, show i + 1 ≤ (is.length : Int) by omega, show ((o ++ [is.getD i.toNat 0]).length : Int) ≤ i + 1 by omega⟩, fun r hr => hQ r (by rw [z, if_pos rfl, hr]; simp)⟩
theorem ok30Z : Lp2Ok Tryz.prog 30 0 lc30z := lp2_of (n := 5) (ex := fun _ => some (sh30ze, 2)) (m := fun (_, is, _, _, i, _) => mL is i) ((good2_nilN _).addF ok28z) fun (l, is, w, o, i, ()) Q hx => h30Z l is w o i Q hx.1.1 hx.1.2.1 hx.1.2.2.1 hx.1.2.2.2.1 hx.1.2.2.2.2 hx.2
theorem ok30z : FnOk Tryz.prog 30 fc30z := fn1_of (n := 5) ((good2_nil _).addL2 ok30Z) fun (l, w, is, ()) K hx => by
  obtain ⟨⟨g1, g2⟩, hK⟩ := hx
  have hK : ∀ r : List Int, r = is.filter (smallB w l) → K (r, ()) := hK
  rw [v30ZF]
  simp only [req_iff, decide_eq_true_eq, Nat.zero_add, Nat.le_refl, seg_self, true_and]
  exact ⟨⟨g1, g2, Int.le_refl (0 : Int), show (0 : Int) ≤ (is.length : Int) by omega, Int.le_refl (0 : Int)⟩, fun r hr => hK r hr⟩
theorem ok24z : FnOk Tryz.prog 24 fc24z := fn1_of (n := 5) (((good2_nil _).addF ok30z).addF ok25z) fun (l, w, is, ()) K hx => by
  obtain ⟨⟨g1, g2⟩, hK⟩ := hx
  have hK : ∀ b : Bool, b = (decide (w.2.1 ≤ sumOf l is) || decide (w.2.2.2 ≤ ((is.filter (smallB w l)).length : Int))) → K (b, ()) := hK
  rw [v24ZF]
  refine ⟨g2, fun r hr => ⟨rfl, ?_⟩⟩
  simp only [fork_iff, decide_eq_true_eq, decide_eq_false_iff_not, ge_iff_le]
  refine ⟨fun z => hK _ (by rw [← hr, decide_eq_true z]; rfl), fun z => ⟨⟨g1, g2⟩, fun s hs => ⟨trivial, hK _ (by rw [← hr, decide_eq_false z, Bool.false_or, ← hs])⟩⟩⟩
end Go.P8
