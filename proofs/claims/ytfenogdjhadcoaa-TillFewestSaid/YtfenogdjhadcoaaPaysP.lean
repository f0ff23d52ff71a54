/- TillPays: the code keeps its contract. No conditions. -/
import Derived.Test.YtfenogdjhadcoaaRefQ8
set_option linter.constructorNameAsVariable false
set_option linter.unusedVariables false
set_option linter.unusedSimpArgs false
set_option maxRecDepth 100000
set_option maxHeartbeats 4000000
namespace Go.P8
open Go.Lom Go.Proofs Go

theorem h51L (cs l : List Int) (n i : Int) (Q : AX → St → Prop) (h0 : 0 ≤ i) (h1 : i ≤ l.length) (hl : l.length = cs.length) (h8 : l.length ≤ 8) (hx : ∀ x ∈ l, 0 ≤ x ∧ x ≤ 50) (hc : ∀ c ∈ cs, 1 ≤ c ∧ c ≤ 50000) (n0 : 0 ≤ n) (n1 : n ≤ i * 2500000)
    (hQ : ∀ r : Int, r = n + valueN (cs.drop i.toNat) (l.drop i.toNat) → Q (.exit 0) (stS 0 sh51e (r, ()))) :
    xloop2 Try.prog {} 5 51 0 lc51 (fun _ => some (sh51e, 0)) (fun (_, l, _, i, _) => mL l i) (cs, l, n, i, ()) Q := by
  rw [v51L]
  simp only [fork_iff, req_iff, decide_eq_true_eq, decide_eq_false_iff_not]
  refine ⟨fun hi => ⟨fun hj => ⟨⟨h0, hi⟩, ⟨h0, hj⟩, ?_⟩, fun hj => by omega⟩, fun hi => hQ _ (by rw [drop_end hi, valueN_nil']; omega)⟩
  rw [drop_step 0 h0 hi, drop_step 0 (l := cs) h0 (by omega)] at hQ
  simp only [valueN] at hQ
  have hxi := hx _ (getD_in (show i.toNat < l.length by omega))
  have hci := hc _ (getD_in (show i.toNat < cs.length by omega))
  generalize l.getD i.toNat 0 = x at *
  generalize cs.getD i.toNat 0 = c at *
  have hm0 : 0 ≤ x * c := Int.mul_nonneg hxi.1 (by omega)
  have hm1 : x * c ≤ 50 * 50000 := Int.mul_le_mul hxi.2 hci.2 (by omega) (by decide)
  exact ⟨inR_i64.2 (by omega), inR_i64.2 (by omega), inR_i64.2 (by omega), mL_lt hi, ⟨⟨show (0 : Int) ≤ i + 1 by omega, show i + 1 ≤ (l.length : Int) by omega, hl, h8, hx, hc, show (0 : Int) ≤ n + x * c by omega, show n + x * c ≤ (i + 1) * 2500000 by omega⟩, fun r hr => hQ r (hr.trans (Int.add_assoc _ _ _))⟩⟩
theorem ok51L : Lp2Ok Try.prog 51 0 lc51 := lp2_of (n := 5) (ex := fun _ => some (sh51e, 0)) (m := fun (_, l, _, i, _) => mL l i) (good2_nil _) fun (cs, l, n, i, ()) Q hx => by
  obtain ⟨⟨g1, g2, g4, g5, g6, g7, g8, g9⟩, hQ⟩ := hx
  exact h51L cs l n i Q g1 g2 g4 g5 g6 g7 g8 g9 hQ
theorem ok51 : FnOk Try.prog 51 fc51 := fn1_of (n := 5) ((good2_nil _).addL2 ok51L) fun (cs, l, ()) K hx => by
  obtain ⟨⟨g1, g2, g3, g4⟩, hK⟩ := hx
  show xfn1 Try.prog { l2 := [(51, 0, lc51)] } 5 51 fc51 (cs, l, ()) K
  rw [v51F]
  simp only [List.drop_zero, Int.zero_add]
  exact ⟨⟨Int.le_refl (0 : Int), Int.natCast_nonneg _, g1, g2, g3, g4, Int.le_refl (0 : Int), by decide⟩, fun r hr => hK r hr⟩
theorem h18A (g : List Int) (p : Int) (d : Dr) (ok : Bool) (i : Int) (Q : AX → St → Prop) (h0 : 0 ≤ i) (h1 : i ≤ g.length) (hb : g.length ≤ big) (hQ : ∀ b : Bool, b = (ok && (g.drop i.toNat).all haveB) → Q (.exit 0) (stS 1 sh18ae (g, p, d, b, ()))) :
    xloop2 Try.prog { f := [(26, fcFrom)] } 5 18 0 lc18a (fun _ => some (sh18ae, 1)) (fun (g, _, _, _, i, _) => mL g i) (g, p, d, ok, i, ()) Q := by
  rw [v18A]
  have hbig : (big : Int) = 9223372036854775807 := rfl
  simp only [fork_iff, req_iff, decide_eq_true_eq, decide_eq_false_iff_not]
  refine ⟨fun hi => ?_, fun hi => hQ ok (by rw [drop_end hi]; simp)⟩
  rw [drop_step 0 h0 hi, List.all_cons] at hQ
  have e : haveB (g.getD i.toNat 0) = decide (0 ≤ g.getD i.toNat 0 ∧ g.getD i.toNat 0 ≤ 50) := rfl
  rw [e] at hQ
  generalize g.getD i.toNat 0 = x at *
  refine ⟨fun hk => ⟨⟨h0, hi⟩, inR_i64.2 (by omega), mL_lt hi, ⟨⟨show (0 : Int) ≤ i + 1 by omega, show i + 1 ≤ (g.length : Int) by omega, hb⟩, fun b hb2 => hQ b ?_⟩⟩, fun hk => ⟨inR_i64.2 (by omega), mL_lt hi, ⟨⟨show (0 : Int) ≤ i + 1 by omega, show i + 1 ≤ (g.length : Int) by omega, hb⟩, fun b hb2 => hQ b ?_⟩⟩⟩
  · rw [hk, Bool.true_and]; exact hb2
  · rw [hk, Bool.false_and]; exact hb2
theorem ok18A : Lp2Ok Try.prog 18 0 lc18a := lp2_of (n := 5) (ex := fun _ => some (sh18ae, 1)) (m := fun (g, _, _, _, i, _) => mL g i) ((good2_nil _).addF ok26) fun (g, p, d, ok, i, ()) Q hx => by
  obtain ⟨⟨g1, g2, g3⟩, hQ⟩ := hx
  exact h18A g p d ok i Q g1 g2 g3 hQ
theorem h18B (g : List Int) (d : Dr) (s : Int) (o : List Int) (i : Int) (Q : AX → St → Prop) (h0 : 0 ≤ i) (h1 : i ≤ g.length) (h8 : g.length ≤ 8) (hl : d.2.length = g.length) (ho : (o.length : Int) ≤ i) (hx : ∀ x ∈ g, 0 ≤ x ∧ x ≤ 50) (hy : ∀ x ∈ d.2, 0 ≤ x ∧ x ≤ 50)
    (hQ : ∀ r, r = o ++ addL (d.2.drop i.toNat) (g.drop i.toNat) → Q (.exit 2) (stS 2 sh18be (d, s, r, ()))) :
    xloop2 Try.prog { nm := true } 5 18 1 lc18b (fun _ => some (sh18be, 2)) (fun (g, _, _, _, i, _) => mL g i) (g, d, s, o, i, ()) Q := by
  rw [v18B]
  simp only [fork_iff, req_iff, decide_eq_true_eq, decide_eq_false_iff_not, Nat.zero_add, seg_self, Nat.le_refl, true_and]
  refine ⟨fun hi => ?_, fun hi => hQ _ (by rw [drop_end hi]; unfold addL; simp)⟩
  have hxi := hx _ (getD_in (show i.toNat < g.length by omega))
  have hyi := hy _ (getD_in (show i.toNat < d.2.length by omega))
  rw [addL_step h0 hi (by omega)] at hQ
  refine ⟨⟨h0, by omega⟩, ⟨h0, hi⟩, inR_i64.2 (by omega), fits100 (by omega), fun ys hys => ⟨inR_i64.2 (by omega), ?_⟩⟩
  have hyl : o.length + 1 = ys.length := by rw [hys]; simp
  rw [seg_exact hyl]
  exact ⟨by omega, mL_lt hi, ⟨⟨show (0 : Int) ≤ i + 1 by omega, show i + 1 ≤ (g.length : Int) by omega, h8, hl, show (ys.length : Int) ≤ i + 1 by omega, hx, hy⟩, fun r hr => hQ r (by
    have hr : r = ys ++ addL (d.2.drop (i + 1).toNat) (g.drop (i + 1).toNat) := hr
    rw [hr, hys, List.append_assoc]; rfl)⟩⟩
theorem ok18B : Lp2Ok Try.prog 18 1 lc18b := lp2_of (n := 5) (ex := fun _ => some (sh18be, 2)) (m := fun (g, _, _, _, i, _) => mL g i) (good2_nilN _) fun (g, d, s, o, i, ()) Q hx => by
  obtain ⟨⟨g1, g2, g3, g4, g5, g6, g7⟩, hQ⟩ := hx
  exact h18B g d s o i Q g1 g2 g3 g4 g5 g6 g7 hQ
theorem h18F (d : Dr) (g : List Int) (p : Int) (K : dens [L, E] → Prop) (g1 : d.1.length ≤ big) (g2 : d.2.length ≤ big) (g3 : g.length ≤ big) (hp1 : p ≤ 9223372036854775807) (hK : ∀ r e, (r, e) = changeE d g p → K (r, e, ())) :
    xfn1 Try.prog { nm := true, f := [(16, fcCheck'), (51, fc51), (46, fc46)], l2 := [(18, 0, lc18a), (18, 1, lc18b)] } 5 18 fcChangeR (d, g, p, ()) K := by
  rw [v18F]
  simp only [fork_iff, req_iff, decide_eq_true_eq, decide_eq_false_iff_not, bne_iff_ne, bne_eq_false_iff_eq, beq_iff_eq, beq_eq_false_iff_ne, ne_eq, Bool.not_eq_true', Bool.not_eq_false', ge_iff_le, gt_iff_lt, Nat.zero_add, seg_self, Nat.le_refl, true_and, List.drop_zero, List.nil_append]
  refine ⟨⟨g1, g2⟩, fun e he => ⟨fun h => hK _ _ (by unfold changeE; rw [if_pos (by rw [← he]; exact h), he]), fun h => ?_⟩⟩
  have hc : checkE d = 0 := by rw [← he]; exact h
  have hn : ¬ checkE d ≠ 0 := fun e => e hc
  obtain ⟨o1, o2, o3⟩ := check0 hc
  have hl8 := o1.len
  have bad7 : (haveOk d g = false ∨ p < 0) → K ([], 7, ()) := fun h => hK _ _ (by
    unfold changeE
    rw [if_neg hn, if_pos]
    rintro ⟨e1, e2⟩
    rcases h with h | h
    · rw [e1] at h; cases h
    · omega)
  refine ⟨fun hg0 => ⟨⟨Int.le_refl (0 : Int), Int.natCast_nonneg _, g3⟩, fun b hb => ⟨fun hf => ?_, fun ht => ?_⟩⟩, fun hg0 => ⟨⟨Int.le_refl (0 : Int), Int.natCast_nonneg _, g3⟩, fun b hb => ⟨fun hf => ?_, fun ht => ?_⟩⟩⟩
  · rw [hb] at hf
    refine bad7 ?_
    by_cases hp : 0 ≤ p
    · left; rw [decide_eq_true hp, Bool.true_and] at hf; unfold haveOk; rw [hf, Bool.and_false]
    · right; omega
  · rw [hb, Bool.and_eq_true, decide_eq_true_eq] at ht
    obtain ⟨hp, hall⟩ := ht
    have hgl : g.length = d.1.length := by omega
    have hg : haveOk d g = true := by unfold haveOk; rw [decide_eq_true hgl, hall]; rfl
    have hpos : ¬ ¬ (haveOk d g = true ∧ 0 ≤ p) := fun e => e ⟨hg, by omega⟩
    have hall2 : ∀ x ∈ g, 0 ≤ x ∧ x ≤ 50 := fun x hx => haveB_iff.1 (List.all_eq_true.1 hall x hx)
    have hvb := valueN_bd (cs := d.1) (l := g) o1.coins hall2
    refine ⟨⟨hgl, by omega, hall2, o1.coins⟩, fun r hr => ?_⟩
    have hr : r = valueN d.1 g := hr
    refine ⟨inR_i64.2 (by omega), fun h1 => hK _ _ (by unfold changeE; rw [if_neg hn, if_neg hpos, if_pos (by omega)]), fun h1 => ⟨fun h2 => hK _ _ (by unfold changeE; rw [if_neg hn, if_neg hpos, if_neg (by omega), if_pos (by omega)]), fun h2 => ⟨⟨Int.le_refl (0 : Int), Int.natCast_nonneg _, by omega, by omega, Int.le_refl (0 : Int), hall2, o3⟩, fun r1 hr1 => ⟨⟨?_, show (0 : Int) ≤ r - p by omega, show r - p ≤ (2000 : Int) by omega⟩, fun r2 b2 hb2 hr2 => ⟨fun hf => hK _ _ ?_, fun ht => hK _ _ ?_⟩⟩⟩⟩⟩
    · have hr1 : r1 = addL d.2 g := hr1
      rw [hr1]; exact okC_add hc hg
    · have hr1 : r1 = addL d.2 g := hr1
      rw [hb2, decide_eq_false_iff_not, hr1, hr] at hf
      unfold changeE payR; rw [if_neg hn, if_neg hpos, if_neg (by omega), if_neg (by omega), if_pos (by omega)]
    · have hr1 : r1 = addL d.2 g := hr1
      rw [hb2, decide_eq_true_eq, hr1, hr] at ht
      unfold payR at hr2
      rw [hr1, hr, if_neg (by omega)] at hr2
      unfold changeE payR; rw [if_neg hn, if_neg hpos, if_neg (by omega), if_neg (by omega), if_neg (by omega), hr2]
  · refine bad7 (.inl ?_)
    unfold haveOk; rw [decide_eq_false (show ¬ g.length = d.1.length by omega)]; rfl
  · rw [hb] at ht; cases ht
theorem ok18 : FnOk Try.prog 18 fcChangeR := fn1_of (n := 5) ((((((good2_nilN _).addL2 ok18B).addL2 ok18A).addF ok46).addF ok51).addF ok16') fun (d, g, p, ()) K hx => by
  obtain ⟨⟨g1, g2, g3, g4⟩, hK⟩ := hx
  exact h18F d g p K g1 g2 g3 g4 hK

/-! the statement -/
theorem same_step {a b : List Int} {i : Int} (h0 : 0 ≤ i) (h1 : i < a.length) (h2 : i < b.length) : decide (a.drop i.toNat = b.drop i.toNat) = ((a.getD i.toNat 0 == b.getD i.toNat 0) && decide (a.drop (i + 1).toNat = b.drop (i + 1).toNat)) := by
  rw [drop_step 0 h0 h1, drop_step 0 h0 h2]
  by_cases h : a.getD i.toNat 0 = b.getD i.toNat 0
  · rw [h, beq_self_eq_true, Bool.true_and]
    exact decide_eq_decide.2 ⟨fun e => (List.cons.inj e).2, fun e => by rw [e]⟩
  · rw [decide_eq_false (fun e => h (List.cons.inj e).1)]
    rw [show (a.getD i.toNat 0 == b.getD i.toNat 0) = false from beq_eq_false_iff_ne.2 h]; rfl
theorem h14L (a b : List Int) (ok : Bool) (i : Int) (Q : AX → St → Prop) (h0 : 0 ≤ i) (hb : a.length ≤ big) (ho : ok = true → a.length = b.length ∧ i ≤ a.length) (hQ : ∀ r : Bool, r = (ok && decide (a.drop i.toNat = b.drop i.toNat)) → Q (.exit 0) (stS 0 sh14e (r, ()))) :
    xloop2 Try.prog {} 5 14 0 lc14 (fun _ => some (sh14e, 0)) (fun (a, _, _, i, _) => (a.length + 1 - i).toNat) (a, b, ok, i, ()) Q := by
  rw [v14L]
  have hbig : (big : Int) = 9223372036854775807 := rfl
  simp only [fork_iff, req_iff, decide_eq_true_eq, decide_eq_false_iff_not]
  refine ⟨fun hk => ?_, fun hk => hQ ok (by rw [hk]; rfl)⟩
  obtain ⟨o1, o2⟩ := ho hk
  refine ⟨fun hi => ⟨⟨h0, hi⟩, ⟨h0, by omega⟩, inR_i64.2 (by omega), ?_, ⟨⟨show (0 : Int) ≤ i + 1 by omega, hb, fun _ => ⟨o1, show i + 1 ≤ (a.length : Int) by omega⟩⟩, fun r hr => hQ r ?_⟩⟩, fun hi => hQ ok (by rw [drop_end hi, drop_end (l := b) (by omega)]; simp)⟩
  · show ((a.length : Int) + 1 - (i + 1)).toNat < ((a.length : Int) + 1 - i).toNat
    omega
  · rw [hk, Bool.true_and, same_step h0 hi (by omega)]; exact hr
theorem ok14L : Lp2Ok Try.prog 14 0 lc14 := lp2_of (n := 5) (ex := fun _ => some (sh14e, 0)) (m := fun (a, _, _, i, _) => (a.length + 1 - i).toNat) (good2_nil _) fun (a, b, ok, i, ()) Q hx => by
  obtain ⟨⟨g1, g2, g3⟩, hQ⟩ := hx
  exact h14L a b ok i Q g1 g2 g3 hQ
theorem ok14 : FnOk Try.prog 14 fcSame := fn1_of (n := 5) ((good2_nil _).addL2 ok14L) fun (a, b, ()) K hx => by
  obtain ⟨g1, hK⟩ := hx
  show xfn1 Try.prog { l2 := [(14, 0, lc14)] } 5 14 fcSame (a, b, ()) K
  rw [v14F]
  refine ⟨⟨Int.le_refl (0 : Int), g1, fun h => ?_⟩, fun r hr => hK r ?_⟩
  · have h : (a.length : Int) = b.length := by simpa using h
    exact ⟨by omega, Int.natCast_nonneg _⟩
  · rw [hr]
    simp only [List.drop_zero]
    show _ = decide (a = b)
    by_cases h : a = b
    · subst h; simp
    · rw [decide_eq_false h, Bool.and_false]
theorem topN_len (l : List (Int × Int)) : ∀ s, (payL l s).length = l.length := by
  induction l with
  | nil => intro s; rfl
  | cons x l ih => intro s; unfold payL; rw [List.length_cons, ih, List.length_cons]
theorem payR_len {cs hv : List Int} (h : okC cs hv) (s : Int) : (payR cs hv s).1.length ≤ 8 := by
  unfold payR
  split
  · simp
  · simp only; rw [topN_len, zip_len h]; exact h.len.2
theorem payE_len (d : Dr) (s : Int) : (payE d s).1.length ≤ 8 := by
  unfold payE
  split
  · simp
  · rename_i h
    split
    · exact payR_len (check0 (by simpa using h)).1 s
    · simp
theorem changeE_len (d : Dr) (g : List Int) (p : Int) : (changeE d g p).1.length ≤ 8 := by
  unfold changeE
  split
  · simp
  · rename_i h
    have hc : checkE d = 0 := by simpa using h
    split
    · simp
    · rename_i h2
      split
      · simp
      · split
        · simp
        · have h2 : haveOk d g = true ∧ 0 ≤ p := by simpa using h2
          exact payR_len (okC_add hc h2.1) _
theorem okWorks' : FnOk Try.prog 19 fcWorks := okWorks
theorem ok3 : FnOk Try.prog 3 fcPays := fn1_of (n := 5) (((((((((good2_nil _).addF okWorks').addF ok18).addF ok17).addF ok16').addF ok15').addF ok14).addF ok13).addF ok12) fun (d, g, (a, b), ()) K hx => by
  obtain ⟨⟨⟨g1, g2⟩, g3, g4⟩, hK⟩ := hx
  show xfn1 Try.prog { f := [(12, fcPayE), (13, fcPayE), (14, fcSame), (15, fcCheck'), (16, fcCheck'), (17, fcChange), (18, fcChangeR), (19, fcWorks)] } 5 3 fcPays (d, g, (a, b), ()) K
  rw [v3F]
  simp only [fork_iff, req_iff, bne_iff_ne, bne_eq_false_iff_eq, beq_iff_eq, beq_eq_false_iff_ne, ne_eq, Bool.not_eq_true', Bool.not_eq_false', true_and]
  refine ⟨⟨g1, g2⟩, fun r e he => ⟨⟨g1, g2⟩, fun r1 e1 he1 => ?_⟩⟩
  have q := he.trans he1.symm
  simp only [Prod.mk.injEq] at q
  obtain ⟨rfl, rfl⟩ := q
  have l1 := payE_len d a
  rw [← he] at l1
  refine ⟨Nat.le_trans l1 (by decide), fun b1 hb1 => ⟨fun h => by rw [hb1] at h; simp at h, fun _ => ⟨fun h => absurd rfl h, fun _ => ⟨⟨g1, g2⟩, fun e2 he2 => ⟨⟨g1, g2⟩, fun e3 he3 => ⟨fun h => absurd (he2.trans he3.symm) h, fun _ => ⟨⟨g1, g2, g3⟩, fun r4 e4 he4 => ⟨⟨g1, g2, g3, g4⟩, fun r5 e5 he5 => ?_⟩⟩⟩⟩⟩⟩⟩⟩
  have q := he4.trans he5.symm
  simp only [Prod.mk.injEq] at q
  obtain ⟨rfl, rfl⟩ := q
  have l2 := changeE_len d g b
  rw [← he4] at l2
  exact ⟨Nat.le_trans l2 (by decide), fun b2 hb2 => ⟨fun _ => ⟨fun _ => hK, fun h => absurd rfl h⟩, fun h => by rw [hb2] at h; simp at h⟩⟩
end Go.P8
