/- TillFewest: the code keeps its contract. No conditions. -/
import Derived.Test.YtfenogdjhadcoaaFewL
set_option linter.constructorNameAsVariable false
set_option linter.unusedVariables false
set_option linter.unusedSimpArgs false
set_option maxRecDepth 100000
set_option maxHeartbeats 8000000
namespace Go.P8
open Go.Lom Go.Proofs Go

theorem goodF_step {cs l hv : List Int} {i : Nat} (h : i < l.length) : goodF cs l hv i = (goodAt cs l hv i && goodF cs l hv (i + 1)) := by
  unfold goodF; rw [range_step h, List.all_cons]
theorem goodF_end {cs l hv : List Int} {i : Nat} (h : ¬ i < l.length) : goodF cs l hv i = true := by
  unfold goodF; rw [show l.length - i = 0 by omega]; rfl
theorem wrap_i64 (n : Int) : inR .i64 (wrapA .i64 n) = true := by
  refine inR_i64.2 ?_
  simp only [wrapA, IntKind.wrap, IntKind.signed, IntKind.bits, Bool.true_and]
  simp
  omega
theorem h25L (cs l hv : List Int) (n i : Int) (Q : AX → St → Prop) (h0 : 0 ≤ i) (h1 : i ≤ l.length) (hb : l.length ≤ big) (hn : inR .i64 n = true) (h8 : cs.length ≤ 8 → 0 ≤ n ∧ n ≤ i * 5000000)
    (hF : goodF cs l hv i.toNat = false → Q .ret (stS 0 sh25r (0, false, ())))
    (hT : goodF cs l hv i.toNat = true → ∀ r : Int, inR .i64 r = true → (cs.length ≤ 8 → r = n + valueN (cs.drop i.toNat) (l.drop i.toNat)) → Q (.exit 0) (stS 0 sh25e (cs, l, r, ()))) :
    xloop2 Try.prog { wr := true, f := [(26, fcFrom)] } 5 25 0 lc25 ex25 (fun (_, l, _, _, i, _) => mL l i) (cs, l, hv, n, i, ()) Q := by
  rw [v25L]
  have hbig : (big : Int) = 9223372036854775807 := rfl
  simp only [fork_iff, req_iff, decide_eq_true_eq, decide_eq_false_iff_not, Bool.not_eq_true', Bool.not_eq_false', ge_iff_le, gt_iff_lt]
  refine ⟨fun hi => ?_, fun hi => hT (goodF_end (by omega)) n hn fun _ => by rw [drop_end hi, valueN_nil']; omega⟩
  have hlt : i.toNat < l.length := by omega
  rw [goodF_step hlt] at hF hT
  have bad : goodAt cs l hv i.toNat = false → Q .ret (stS 0 sh25r (0, false, ())) := fun h => hF (by rw [h, Bool.false_and])
  have nb : ¬ (i.toNat < cs.length ∧ i.toNat < hv.length ∧ (0 ≤ l.getD i.toNat 0 ∧ l.getD i.toNat 0 ≤ hv.getD i.toNat 0) ∧ (1 ≤ cs.getD i.toNat 0 ∧ cs.getD i.toNat 0 ≤ 50000) ∧ l.getD i.toNat 0 ≤ 100) → goodAt cs l hv i.toNat = false := fun h => by
    cases hg : goodAt cs l hv i.toNat with
    | false => rfl
    | true => exact absurd (goodAt_iff.1 hg) h
  have e2 : (i + 1).toNat = i.toNat + 1 := by omega
  have e1 : wrapA .i64 (i + 1) = i + 1 := wrapA_in (inR_i64.2 (by omega))
  refine ⟨fun hc => bad (nb fun e => by omega), fun hc => ⟨fun hv1 => bad (nb fun e => by omega), fun hv1 => ⟨⟨h0, hi⟩, ⟨h0, by omega⟩, fun hx => bad (nb fun e => hx e.2.2.1), fun hx => ⟨⟨h0, by omega⟩, fun hy => bad (nb fun e => hy e.2.2.2.1), fun hy => ⟨⟨h0, hi⟩, fun hz => bad (nb fun e => by omega), fun hz => ⟨⟨h0, hi⟩, ⟨h0, by omega⟩, ?_⟩⟩⟩⟩⟩⟩
  have hg : goodAt cs l hv i.toNat = true := goodAt_iff.2 ⟨by omega, by omega, hx, hy, by omega⟩
  rw [hg, Bool.true_and] at hF hT
  have hds : cs.length ≤ 8 → valueN (cs.drop i.toNat) (l.drop i.toNat) = l.getD i.toNat 0 * cs.getD i.toNat 0 + valueN (cs.drop (i + 1).toNat) (l.drop (i + 1).toNat) := fun _ => by
    rw [drop_step 0 h0 hi, drop_step 0 (l := cs) h0 (by omega)]; rfl
  generalize l.getD i.toNat 0 = x at *
  generalize cs.getD i.toNat 0 = c at *
  have hm0 : 0 ≤ x * c := Int.mul_nonneg hx.1 (by omega)
  have hm1 : x * c ≤ 100 * 50000 := Int.mul_le_mul (by omega) hy.2 (by omega) (by decide)
  rw [e1]
  have hw : cs.length ≤ 8 → wrapA .i64 (n + x * c) = n + x * c := fun h => wrapA_in (inR_i64.2 (by have := h8 h; omega))
  refine ⟨inR_i64.2 (by omega), mL_lt hi, ⟨⟨show (0 : Int) ≤ i + 1 by omega, show i + 1 ≤ (l.length : Int) by omega, hb, wrap_i64 _, fun h => ?_⟩, fun h => hF (by rw [← e2]; exact h), fun h r hr hr2 => hT (by rw [← e2]; exact h) r hr fun h9 => ?_⟩⟩
  · rw [hw h]; have := h8 h; exact ⟨show (0 : Int) ≤ n + x * c by omega, show n + x * c ≤ (i + 1) * 5000000 by omega⟩
  · have hr2 : r = wrapA .i64 (n + x * c) + valueN (cs.drop (i + 1).toNat) (l.drop (i + 1).toNat) := hr2 h9
    rw [hr2, hw h9, hds h9]; omega
theorem ok25L : Lp2Ok Try.prog 25 0 lc25 := lp2_of (n := 5) (ex := ex25) (m := fun (_, l, _, _, i, _) => mL l i) ((good2_nilW _).addF ok26) fun (cs, l, hv, n, i, ()) Q hx => by
  obtain ⟨⟨g1, g2, g3, g4, g5⟩, hF, hT⟩ := hx
  exact h25L cs l hv n i Q g1 g2 g3 g4 g5 hF hT
theorem ok25 : FnOk Try.prog 25 fcValue := fn1_of (n := 5) ((good2_nil _).addL2 ok25L) fun (cs, l, hv, ()) K hx => by
  obtain ⟨g1, hK⟩ := hx
  show xfn1 Try.prog { l2 := [(25, 0, lc25)] } 5 25 fcValue (cs, l, hv, ()) K
  have hK : ∀ (n : Int) (b : Bool), b = (goodF cs l hv 0 && decide (l.length = cs.length)) → inR .i64 n = true → (cs.length ≤ 8 → goodF cs l hv 0 = true → n = valueN cs l) → K (n, b, ()) := hK
  rw [v25F]
  simp only [List.drop_zero, Int.zero_add]
  refine ⟨⟨Int.le_refl (0 : Int), Int.natCast_nonneg _, g1, by decide, fun _ => ⟨Int.le_refl (0 : Int), by decide⟩⟩, fun h => hK 0 false (by rw [h]; rfl) (by decide) (fun _ h2 => by rw [h] at h2; cases h2), fun h r hr hr2 => hK r _ ?_ hr (fun h8 _ => hr2 h8)⟩
  rw [h, Bool.true_and]
  by_cases he : l.length = cs.length
  · rw [decide_eq_true he, he]; simp
  · rw [decide_eq_false he, beq_eq_false_iff_ne]; omega
theorem h27L (l : List Int) (n i : Int) (Q : AX → St → Prop) (h0 : 0 ≤ i) (h1 : i ≤ l.length) (hl : l.length ≤ 100) (hx : ∀ x ∈ l, 0 ≤ x ∧ x ≤ 1000000) (n0 : 0 ≤ n) (n1 : n ≤ i * 1000000) (hQ : ∀ r : Int, r = n + (l.drop i.toNat).sum → Q (.exit 0) (stS 0 sh27e (r, ()))) :
    xloop2 Try.prog {} 5 27 0 lc27 (fun _ => some (sh27e, 0)) (fun (l, _, i, _) => mL l i) (l, n, i, ()) Q := by
  rw [v27L]
  simp only [fork_iff, req_iff, decide_eq_true_eq, decide_eq_false_iff_not]
  refine ⟨fun hi => ⟨⟨h0, hi⟩, ?_⟩, fun hi => hQ n (by rw [drop_end hi]; simp)⟩
  have hxi := hx _ (getD_in (show i.toNat < l.length by omega))
  rw [drop_step 0 h0 hi, List.sum_cons] at hQ
  generalize l.getD i.toNat 0 = x at *
  exact ⟨inR_i64.2 (by omega), inR_i64.2 (by omega), mL_lt hi, ⟨⟨show (0 : Int) ≤ i + 1 by omega, show i + 1 ≤ (l.length : Int) by omega, hl, hx, show (0 : Int) ≤ n + x by omega, show n + x ≤ (i + 1) * 1000000 by omega⟩, fun r hr => hQ r (hr.trans (Int.add_assoc _ _ _))⟩⟩
theorem ok27L : Lp2Ok Try.prog 27 0 lc27 := lp2_of (n := 5) (ex := fun _ => some (sh27e, 0)) (m := fun (l, _, i, _) => mL l i) (good2_nil _) fun (l, n, i, ()) Q hx => by
  obtain ⟨⟨g1, g2, g3, g4, g5, g6⟩, hQ⟩ := hx
  exact h27L l n i Q g1 g2 g3 g4 g5 g6 hQ
theorem ok27 : FnOk Try.prog 27 fcSum := fn1_of (n := 5) ((good2_nil _).addL2 ok27L) fun (l, ()) K hx => by
  obtain ⟨⟨g1, g2⟩, hK⟩ := hx
  show xfn1 Try.prog { l2 := [(27, 0, lc27)] } 5 27 fcSum (l, ()) K
  rw [v27F]
  simp only [List.drop_zero, Int.zero_add]
  exact ⟨⟨Int.le_refl (0 : Int), Int.natCast_nonneg _, g1, g2, Int.le_refl (0 : Int), by decide⟩, fun r hr => hK r hr⟩
theorem ahead_ends : ∀ (a b : List Int), (a = [] ∨ b = []) → aheadB a b = decide (a.length < b.length)
  | [], b, _ => by simp [aheadB]
  | _ :: _, [], _ => by simp [aheadB]
  | _ :: _, _ :: _, h => by simp at h
theorem h28L (a b : List Int) (i : Int) (Q : AX → St → Prop) (h0 : 0 ≤ i) (h1 : i ≤ a.length) (h2 : i ≤ b.length) (hb : a.length ≤ big)
    (hR : ∀ r : Bool, r = aheadB (a.drop i.toNat) (b.drop i.toNat) → Q .ret (stS 0 (S [(4, .v .b)]) (r, ()))) (hQ : aheadB (a.drop i.toNat) (b.drop i.toNat) = decide (a.length < b.length) → Q (.exit 0) (stS 0 sh28e (a, b, ()))) :
    xloop2 Try.prog {} 5 28 0 lc28 ex28 (fun (a, _, i, _) => mL a i) (a, b, i, ()) Q := by
  rw [v28L]
  have hbig : (big : Int) = 9223372036854775807 := rfl
  have hend : (a.drop i.toNat = [] ∨ b.drop i.toNat = []) → Q (.exit 0) (stS 0 sh28e (a, b, ())) := fun h => hQ (by
    rw [ahead_ends _ _ h, List.length_drop, List.length_drop]
    exact decide_eq_decide.2 (by omega))
  simp only [fork_iff, req_iff, decide_eq_true_eq, decide_eq_false_iff_not, bne_iff_ne, bne_eq_false_iff_eq, ne_eq]
  refine ⟨fun hi => ⟨fun hj => ⟨⟨h0, hi⟩, ⟨h0, hj⟩, ?_⟩, fun hj => hend (.inr (drop_end hj))⟩, fun hi => hend (.inl (drop_end hi))⟩
  rw [drop_step 0 h0 hi, drop_step 0 (l := b) h0 hj] at hR hQ
  simp only [aheadB] at hR hQ
  generalize a.getD i.toNat 0 = x at *
  generalize b.getD i.toNat 0 = y at *
  refine ⟨fun hne => ⟨⟨h0, hi⟩, ⟨h0, hj⟩, hR _ (by rw [if_neg hne])⟩, fun heq => ?_⟩
  rw [if_pos heq] at hR hQ
  exact ⟨inR_i64.2 (by omega), mL_lt hi, ⟨⟨show (0 : Int) ≤ i + 1 by omega, show i + 1 ≤ (a.length : Int) by omega, show i + 1 ≤ (b.length : Int) by omega, hb⟩, hR, hQ⟩⟩
theorem ok28L : Lp2Ok Try.prog 28 0 lc28 := lp2_of (n := 5) (ex := ex28) (m := fun (a, _, i, _) => mL a i) (good2_nil _) fun (a, b, i, ()) Q hx => by
  obtain ⟨⟨g1, g2, g3, g4⟩, hR, hQ⟩ := hx
  exact h28L a b i Q g1 g2 g3 g4 hR hQ
theorem ok28 : FnOk Try.prog 28 fcAhead := fn1_of (n := 5) ((good2_nil _).addL2 ok28L) fun (a, b, ()) K hx => by
  obtain ⟨g1, hK⟩ := hx
  show xfn1 Try.prog { l2 := [(28, 0, lc28)] } 5 28 fcAhead (a, b, ()) K
  have hK : ∀ r : Bool, r = aheadB a b → K (r, ()) := hK
  rw [v28F]
  simp only [List.drop_zero]
  refine ⟨⟨Int.le_refl (0 : Int), Int.natCast_nonneg _, Int.natCast_nonneg _, g1⟩, fun r hr => hK r hr, fun h => hK _ ?_⟩
  rw [h]; exact decide_eq_decide.2 (by omega)
theorem ok26' : FnOk Try.prog 26 fcFrom' := fun x K hx => ok26 x K (hx _ rfl)
theorem h5L (g : List Int) (p : Int) (d : Dr) (c o : List Int) (i : Int) (Q : AX → St → Prop) (h0 : 0 ≤ i) (h1 : i ≤ g.length) (h8 : g.length ≤ 8) (hl : d.2.length = g.length) (ho : (o.length : Int) ≤ i) (hx : ∀ x ∈ g, 0 ≤ x ∧ x ≤ 50) (hy : ∀ x ∈ d.2, 0 ≤ x ∧ x ≤ 50)
    (hQ : ∀ r, r = o ++ addL (d.2.drop i.toNat) (g.drop i.toNat) → Q (.exit 0) (stS 2 sh5e (p, d, c, r, ()))) :
    xloop2 Try.prog { nm := true } 5 5 0 lc5 (fun _ => some (sh5e, 2)) (fun (g, _, _, _, _, i, _) => mL g i) (g, p, d, c, o, i, ()) Q := by
  rw [v5L]
  simp only [fork_iff, req_iff, decide_eq_true_eq, decide_eq_false_iff_not, Nat.zero_add, seg_self, Nat.le_refl, true_and]
  refine ⟨fun hi => ?_, fun hi => hQ _ (by rw [drop_end hi]; unfold addL; simp)⟩
  have hxi := hx _ (getD_in (show i.toNat < g.length by omega))
  have hyi := hy _ (getD_in (show i.toNat < d.2.length by omega))
  rw [addL_step h0 hi (by omega)] at hQ
  refine ⟨⟨h0, by omega⟩, ⟨h0, hi⟩, inR_i64.2 (by omega), fits100 (by omega), fun ys hys => ⟨inR_i64.2 (by omega), ?_⟩⟩
  have hyl : o.length + 1 = ys.length := by rw [hys]; simp
  rw [seg_exact hyl]
  exact ⟨by omega, mL_lt hi, ⟨⟨show (0 : Int) ≤ i + 1 by omega, show i + 1 ≤ (g.length : Int) by omega, h8, hl, show (ys.length : Int) ≤ i + 1 by omega, hx, hy⟩, fun r hr => hQ r (by
    have hr : r = ys ++ addL (d.2.drop (i + 1).toNat) (g.drop (i + 1).toNat) := hr
    rw [hr, hys, List.append_assoc]; rfl)⟩⟩
theorem ok5L : Lp2Ok Try.prog 5 0 lc5 := lp2_of (n := 5) (ex := fun _ => some (sh5e, 2)) (m := fun (g, _, _, _, _, i, _) => mL g i) (good2_nilN _) fun (g, p, d, c, o, i, ()) Q hx => by
  obtain ⟨⟨g1, g2, g3, g4, g5, g6, g7⟩, hQ⟩ := hx
  exact h5L g p d c o i Q g1 g2 g3 g4 g5 g6 g7 hQ
/-- When change is given. -/
theorem change0 {d : Dr} {g : List Int} {p : Int} (h : (changeE d g p).2 = 0) : checkE d = 0 ∧ haveOk d g = true ∧ (0 ≤ p ∧ p ≤ valueN d.1 g) ∧ valueN d.1 g - p ≤ 2000 ∧ few (d.1.zip (addL d.2 g)) (valueN d.1 g - p) < 1073741824 ∧ changeE d g p = payR d.1 (addL d.2 g) (valueN d.1 g - p) := by
  unfold changeE at h ⊢
  split at h
  · rename_i h1; exact absurd h h1
  rename_i h1
  have hc : checkE d = 0 := by simpa using h1
  split at h
  · cases h
  rename_i h2
  split at h
  · cases h
  rename_i h3
  split at h
  · cases h
  rename_i h4
  have h2' : haveOk d g = true ∧ 0 ≤ p := by simpa using h2
  rw [if_neg h1, if_neg h2, if_neg h3, if_neg h4]
  refine ⟨hc, h2'.1, ⟨h2'.2, by omega⟩, by omega, ?_, rfl⟩
  unfold payR at h
  split at h
  · cases h
  · omega
theorem change_bad {d : Dr} {g : List Int} {p : Int} (h : (changeE d g p).2 ≠ 0) : (changeE d g p).1 = [] := by
  unfold changeE at h ⊢
  split
  · rfl
  split
  · rfl
  split
  · rfl
  split
  · rfl
  rename_i h1 h2 h3 h4
  rw [if_neg h1, if_neg h2, if_neg h3, if_neg h4] at h
  unfold payR at h ⊢
  split
  · rfl
  · rename_i h5; rw [if_neg h5] at h; exact absurd rfl h
theorem tail_ok (d : Dr) (g : List Int) (p : Int) (K : dens [.b] → Prop) (g1 : d.1.length ≤ big) (g2 : d.2.length ≤ big) (g3 : g.length ≤ big) (hK : K (true, ())) : tailP d g p K := by
  unfold tailP
  simp only [fork_iff, req_iff, decide_eq_true_eq, decide_eq_false_iff_not, bne_iff_ne, bne_eq_false_iff_eq, beq_iff_eq, beq_eq_false_iff_ne, ne_eq, Nat.zero_add, seg_self, Nat.le_refl, true_and, List.drop_zero, List.nil_append]
  refine ⟨⟨g1, g2, g3⟩, fun r e he => ⟨fun hne => ?_, fun h0 => ?_⟩⟩
  · have hb := change_bad (d := d) (g := g) (p := p) (by rw [← he]; exact hne)
    rw [← he] at hb
    have hb : r = [] := hb
    rw [hb]
    exact ⟨fun _ => hK, fun h => absurd rfl h⟩
  · obtain ⟨c1, c2, ⟨c3, c4⟩, c5, c6, c7⟩ := change0 (d := d) (g := g) (p := p) (by rw [← he]; exact h0)
    obtain ⟨o1, o2, o3⟩ := check0 c1
    have oa := okC_add c1 c2
    have hg := c2
    unfold haveOk at hg
    simp only [Bool.and_eq_true, decide_eq_true_eq, List.all_eq_true, haveB_iff] at hg
    obtain ⟨p1, p2, p3, p4, p5⟩ := payR_ok oa (show 0 ≤ valueN d.1 g - p by omega) c6
    rw [c7, p1] at he
    simp only [Prod.mk.injEq] at he
    obtain ⟨hr, -⟩ := he
    have hl := o1.len
    have hv1 := valueN_bd (cs := d.1) (l := g) o1.coins hg.2
    have hv2 := valueN_bd (cs := d.1) (l := d.2) o1.coins o3
    have hva := value_add (cs := d.1) (a := d.2) (b := g) hl.1 hg.1
    have hself : ∀ ws : List Int, okC d.1 ws → (∀ x ∈ ws, 0 ≤ x) → ws.length = d.1.length → goodF d.1 ws ws 0 = true := fun ws hw h0 h1 => good_mk hw h1 fun i hi => ⟨h0 _ (getD_in hi), Int.le_refl _⟩
    refine ⟨fun h => absurd (show (g.length : Int) = d.2.length by omega) h, fun _ => ⟨fun h => absurd (show (g.length : Int) = d.1.length by omega) h, fun _ => ⟨⟨Int.le_refl (0 : Int), Int.natCast_nonneg _, by omega, by omega, Int.le_refl (0 : Int), hg.2, o3⟩, fun r1 hr1 => ⟨g2, fun n b hb hn hn2 => ?_⟩⟩⟩⟩
    have hr1 : r1 = addL d.2 g := hr1
    have gh := hself d.2 o1 (fun x hx => (o3 x hx).1) hl.1
    have ga := hself (addL d.2 g) oa (fun x hx => (oa.haves x hx).1) oa.len.1
    have hn : n = valueN d.1 d.2 := hn2 hl.2 gh
    rw [hr1]
    refine ⟨by rw [oa.len.1]; omega, fun n1 b1 hb1 hi1 hn1 => ⟨?_, fun n2 b2 hb2 hi2 hn2 => ?_⟩⟩
    · rw [hr, p2]; exact g1
    · have e1 := hn1 hl.2 ga
      rw [hr] at hb2 hn2
      have e2 := hn2 hl.2 p4
      rw [p3] at e2
      rw [p4, decide_eq_true p2] at hb2
      refine ⟨fun _ => ⟨inR_i64.2 (by omega), inR_i64.2 (by omega), fun _ => hK, fun h => absurd (by omega) h⟩, fun h => by rw [hb2] at h; cases h⟩
end Go.P8
