/- Payments of the reference, the statement TillPays: the code keeps its contracts. No conditions. -/
import Derived.Test.YtfenogdjhadcoaaRefP8
set_option linter.constructorNameAsVariable false
set_option linter.unusedVariables false
set_option linter.unusedSimpArgs false
set_option maxRecDepth 100000
set_option maxHeartbeats 4000000
namespace Go.P8
open Go.Lom Go.Proofs Go

theorem ok46B : Lp2Ok Try.prog 46 1 lc46b := lp2_of (n := 5) (ex := fun _ => some (sh46be, 1)) (m := fun (_, _, _, _, _, _, _, n, _) => n.toNat) (good2_nilN _) fun (cs, hv, s, ms, o, i, rs, n, ()) Q hx => by
  obtain ⟨⟨g1, ⟨g2, g3⟩, ⟨g4, g5⟩, g6, ⟨g7, g8⟩, ⟨g9, g10⟩, g11⟩, hQ⟩ := hx
  have g6 : rs = tabL (lst cs hv (i + 1)) s := g6
  subst g6
  exact h46B cs hv s ms o i n Q g1 g2 g3 g4 g5 g7 g8 g9 g10 g11 hQ
theorem h46L (cs hv : List Int) (s ms : Int) (o : List Int) (i : Int) (Q : AX → St → Prop) (g1 : okC cs hv) (i0 : 0 ≤ i) (i1 : i ≤ cs.length) (s0 : 0 ≤ s) (s1 : s ≤ 2000) (hms : ms = fewI cs hv (i, s)) (hf : ms < 1073741824) (ho : (o.length : Int) ≤ i)
    (hQ : ∀ r, r = o ++ payL (lst cs hv i) s → Q (.exit 0) (stS 1 sh46e (r, ()))) :
    xloop2 Try.prog { nm := true, f := [(78, fc78 9)], l2 := [(46, 1, lc46b)] } 5 46 0 lc46 (fun _ => some (sh46e, 1)) (fun (cs, _, _, _, _, i, _) => mL cs i) (cs, hv, s, ms, o, i, ()) Q := by
  rw [v46L]
  have hl := g1.len
  simp only [fork_iff, req_iff, decide_eq_true_eq, decide_eq_false_iff_not, Nat.zero_add, seg_self, Nat.le_refl, true_and]
  refine ⟨fun hi => ?_, fun hi => hQ _ (by rw [lst_end g1 hi]; simp [payL])⟩
  obtain ⟨⟨c1, c2⟩, d1, d2⟩ := coin_at g1 i0 hi
  obtain ⟨n1, n2, n3, n4⟩ := many_bd g1 i0 hi s0
  have hf2 : fewI cs hv (i, s) < 1073741824 := by rw [← hms]; exact hf
  have hhas := fewI_has g1 i0 hi s0 hf2
  rw [← hms] at hhas
  have e : min (hv.getD i.toNat 0) (manyI cs hv (i, s) - 1) = manyI cs hv (i, s) - 1 := by omega
  rw [payL_step g1 i0 hi, ← hms] at hQ
  have hsp := topN_spec (n := (manyI cs hv (i, s) - 1).toNat) (by rw [show (((manyI cs hv (i, s) - 1).toNat : Nat) : Int) = manyI cs hv (i, s) - 1 by omega]; exact hhas)
  have hfin := fewL_fin g1 i0 (show few (lst cs hv i) s < 1073741824 from hf2)
  have hms2 : few (lst cs hv i) s = ms := hms.symm
  rw [hms2] at hfin
  have ms0 : 0 ≤ ms := by rw [← hms2]; exact few_nonneg _ _
  rw [e]
  refine ⟨inR_i64.2 (by omega), ⟨g1, ⟨show (0 : Int) ≤ i + 1 by omega, show i + 1 ≤ (cs.length : Int) by omega, show (cs.length : Int) - (i + 1) < ((9 : Nat) : Int) by omega⟩, s0, s1⟩, fun rs hrs => ⟨⟨i0, by omega⟩, ⟨g1, ⟨i0, hi⟩, ⟨s0, s1⟩, hrs, ⟨hms, hf⟩, ⟨d1, Int.le_refl _⟩, hhas⟩, fun a ha => ⟨fits100 (by omega), fun ys hys => ?_⟩⟩⟩
  have ha : a = topN (few (lst cs hv (i + 1))) (cs.getD i.toNat 0) s ms (manyI cs hv (i, s) - 1).toNat := ha
  rw [← ha] at hQ hsp
  obtain ⟨a0, a1, a2⟩ := hsp
  have a1' : a ≤ s.tdiv (cs.getD i.toNat 0) := by omega
  have hab := mul_bd a0 s0 c1 a1'
  have hyl : o.length + 1 = ys.length := by rw [hys]; simp
  have f0 := few_nonneg (lst cs hv (i + 1)) (s - a * cs.getD i.toNat 0)
  rw [seg_exact hyl]
  exact ⟨⟨i0, hi⟩, inR_i64.2 (by omega), inR_i64.2 (by omega), inR_i64.2 (by omega), inR_i64.2 (by omega), by omega, mL_lt hi, ⟨⟨g1, ⟨show (0 : Int) ≤ i + 1 by omega, show i + 1 ≤ (cs.length : Int) by omega⟩, ⟨show (0 : Int) ≤ s - a * cs.getD i.toNat 0 by omega, show s - a * cs.getD i.toNat 0 ≤ (2000 : Int) by omega⟩, ⟨show ms - a = few (lst cs hv (i + 1)) (s - a * cs.getD i.toNat 0) by omega, show ms - a < (1073741824 : Int) by omega⟩, show (ys.length : Int) ≤ i + 1 by omega⟩, fun r hr => hQ r (by
    have hr : r = ys ++ payL (lst cs hv (i + 1)) (s - a * cs.getD i.toNat 0) := hr
    rw [hr, hys, List.append_assoc]; rfl)⟩⟩
theorem ok46L : Lp2Ok Try.prog 46 0 lc46 := lp2_of (n := 5) (ex := fun _ => some (sh46e, 1)) (m := fun (cs, _, _, _, _, i, _) => mL cs i) (((good2_nilN _).addL2 ok46B).addF (ok78 9)) fun (cs, hv, s, ms, o, i, ()) Q hx => by
  obtain ⟨⟨g1, ⟨g2, g3⟩, ⟨g4, g5⟩, ⟨g6, g7⟩, g8⟩, hQ⟩ := hx
  exact h46L cs hv s ms o i Q g1 g2 g3 g4 g5 g6 g7 g8 hQ
theorem h46F (cs hv : List Int) (s : Int) (K : dens [L, .b] → Prop) (g1 : okC cs hv) (s0 : 0 ≤ s) (s1 : s ≤ 2000) (hK : ∀ (r : List Int) (b : Bool), b = decide (few (cs.zip hv) s < 1073741824) → r = (payR cs hv s).1 → K (r, b, ())) :
    xfn1 Try.prog { nm := true, f := [(78, fc78 9)], l2 := [(46, 0, lc46)] } 5 46 fc46 (cs, hv, s, ()) K := by
  rw [v46F]
  have hl := g1.len
  simp only [fork_iff, req_iff, decide_eq_true_eq, decide_eq_false_iff_not, Nat.zero_add, seg_self, Nat.le_refl, true_and, List.nil_append]
  refine ⟨⟨g1, ⟨Int.le_refl (0 : Int), Int.natCast_nonneg _, show (cs.length : Int) - 0 < ((9 : Nat) : Int) by omega⟩, s0, s1⟩, fun r hr => ?_⟩
  have htl : ((tabL (lst cs hv 0) s).length : Int) = s + 1 := by unfold tabL; rw [tab_len]; omega
  rw [hr, tab_get (l := lst cs hv 0) s0 (Int.le_refl s)]
  have hz : lst cs hv 0 = cs.zip hv := rfl
  have f0 := few_nonneg (cs.zip hv) s
  rw [hz] at htl ⊢
  have hfi : fewI cs hv (0, s) = few (cs.zip hv) s := rfl
  refine ⟨⟨s0, by omega⟩, fun h => hK _ _ ?_ ?_, fun h => ?_⟩
  · symm; rw [decide_eq_false_iff_not]; intro e; unfold conv at h; rw [if_neg (by omega)] at h; omega
  · unfold conv at h; split at h
    · rename_i h2; unfold payR; rw [if_pos h2]
    · omega
  · have h2 : ¬ few (cs.zip hv) s ≥ 1073741824 := fun e => h (by unfold conv; rw [if_pos e]; decide)
    have hcv : conv (few (cs.zip hv) s) = few (cs.zip hv) s := by unfold conv; rw [if_neg h2]
    rw [hcv]
    exact ⟨⟨g1, ⟨Int.le_refl (0 : Int), Int.natCast_nonneg _⟩, ⟨s0, s1⟩, ⟨rfl, show few (cs.zip hv) s < (1073741824 : Int) by omega⟩, Int.le_refl (0 : Int)⟩, fun r2 hr2 => hK _ _ (by symm; rw [decide_eq_true_eq]; omega) (by unfold payR; rw [if_neg h2]; exact hr2)⟩
theorem ok46 : FnOk Try.prog 46 fc46 := fn1_of (n := 5) (((good2_nilN _).addL2 ok46L).addF (ok78 9)) fun (cs, hv, s, ()) K hx => by
  obtain ⟨⟨g1, g2, g3⟩, hK⟩ := hx
  exact h46F cs hv s K g1 g2 g3 hK

/-! From, Check -/
theorem ok26 : FnOk Try.prog 26 fcFrom := fn1_of (n := 5) (good2_nil _) fun (a, n, b, ()) K hx => by
  have key : ∀ a n b : Int, K (decide (a ≤ n ∧ n ≤ b), ()) → xfn1 Try.prog {} 5 26 fcFrom (a, n, b, ()) K := fun a n b hK => by
    rw [v26F]
    simp only [fork_iff, decide_eq_true_eq, decide_eq_false_iff_not, ge_iff_le]
    first
      | exact ⟨fun h => by rw [decide_eq_true_iff.2 (show True from trivial)] at hK; exact hK, fun h => hK⟩
      | (refine ⟨fun h => ?_, fun h => ?_⟩
         · by_cases h2 : n ≤ b
           · rw [decide_eq_true (show a ≤ n ∧ n ≤ b from ⟨h, h2⟩)] at hK; rw [decide_eq_true h2]; exact hK
           · rw [decide_eq_false (show ¬ (a ≤ n ∧ n ≤ b) from fun e => h2 e.2)] at hK; rw [decide_eq_false h2]; exact hK
         · rw [decide_eq_false (show ¬ (a ≤ n ∧ n ≤ b) from fun e => h e.1)] at hK; exact hK)
  exact key a n b hx
theorem bothOk_step {d : Dr} {i : Nat} (h : i < d.1.length) : bothOk d i = (bothB d i && bothOk d (i + 1)) := by
  unfold bothOk; rw [range_step h, List.all_cons]
theorem bothOk_end {d : Dr} {i : Nat} (h : ¬ i < d.1.length) : bothOk d i = true := by
  unfold bothOk; rw [show d.1.length - i = 0 by omega]; rfl
theorem h16L (d : Dr) (ok : Bool) (i : Int) (Q : AX → St → Prop) (h0 : 0 ≤ i) (hb : d.1.length ≤ big) (hok : ok = true → i ≤ d.1.length ∧ d.1.length ≤ 8 ∧ d.2.length = d.1.length) (hQ : ∀ b : Bool, b = (ok && bothOk d i.toNat) → Q (.exit 0) (stS 0 sh16e (b, ()))) :
    xloop2 Try.prog { f := [(26, fcFrom)] } 5 16 0 lc16 (fun _ => some (sh16e, 0)) (fun (d, _, i, _) => mL d.1 i) (d, ok, i, ()) Q := by
  rw [v16L]
  simp only [fork_iff, req_iff, decide_eq_true_eq, decide_eq_false_iff_not, beq_iff_eq, beq_eq_false_iff_ne, ne_eq]
  refine ⟨fun hk => ?_, fun hk => hQ ok (by rw [hk]; rfl)⟩
  obtain ⟨o1, o2, o3⟩ := hok hk
  rw [hk, Bool.true_and] at hQ
  refine ⟨fun hi => ⟨⟨h0, hi⟩, ?_⟩, fun hi => by rw [hk]; exact hQ true (by rw [bothOk_end (by omega)])⟩
  have e1 : (i - 1).toNat = i.toNat - 1 := by omega
  have e2 : (i + 1).toNat = i.toNat + 1 := by omega
  rw [bothOk_step (by omega)] at hQ
  have cb : bothB d i.toNat = (decide (1 ≤ d.1.getD i.toNat 0 ∧ d.1.getD i.toNat 0 ≤ 50000) && haveB (d.2.getD i.toNat 0) && (decide (i.toNat = 0) || decide (d.1.getD (i.toNat - 1) 0 > d.1.getD i.toNat 0))) := rfl
  rw [e1]
  generalize d.1.getD i.toNat 0 = x at *
  generalize d.2.getD i.toNat 0 = y at *
  generalize d.1.getD (i.toNat - 1) 0 = z at *
  have go : ∀ c : Bool, c = bothB d i.toNat → LC2.spec lc16 (d, c, i + 1, ()) Q := fun c hc =>
    ⟨⟨show (0 : Int) ≤ i + 1 by omega, hb, fun _ => ⟨show i + 1 ≤ (d.1.length : Int) by omega, o2, o3⟩⟩, fun b hb2 => hQ b (by
      have hb2 : b = (c && bothOk d (i + 1).toNat) := hb2
      rw [hb2, hc, e2])⟩
  have im : inR .i64 (i + 1) = true := inR_i64.2 (by omega)
  have ml : mL d.1 (i + 1) < mL d.1 i := mL_lt hi
  have go2 : ∀ c : Bool, c = bothB d i.toNat → inR .i64 (i + 1) = true ∧ mL d.1 (i + 1) < mL d.1 i ∧ LC2.spec lc16 (d, c, i + 1, ()) Q := fun c hc => ⟨im, ml, go c hc⟩
  have b1 : 1 ≤ x ∧ x ≤ 50000 → (0 ≤ y ∧ y ≤ 50) → i = 0 → true = bothB d i.toNat := fun hx hy hi0 => by rw [cb, decide_eq_true hx, haveB_iff.2 hy, decide_eq_true (show i.toNat = 0 by omega)]; rfl
  have b2 : 1 ≤ x ∧ x ≤ 50000 → (0 ≤ y ∧ y ≤ 50) → ¬ i = 0 → decide (z > x) = bothB d i.toNat := fun hx hy hi0 => by rw [cb, decide_eq_true hx, haveB_iff.2 hy, decide_eq_false (show ¬ i.toNat = 0 by omega)]; rfl
  have b3 : ¬ (0 ≤ y ∧ y ≤ 50) → false = bothB d i.toNat := fun hy => by rw [cb, haveB_not hy]; simp
  have b4 : ¬ (1 ≤ x ∧ x ≤ 50000) → false = bothB d i.toNat := fun hx => by rw [cb, decide_eq_false hx]; rfl
  refine ⟨fun hx => ⟨⟨h0, by omega⟩, fun hy => ⟨fun hi0 => ?_, fun hi0 => ⟨inR_i64.2 (by omega), ⟨by omega, by omega⟩, ⟨h0, hi⟩, ?_⟩⟩, fun hy => ?_⟩, fun hx => ?_⟩
  · exact ⟨im, ml, ⟨(go _ (b1 hx hy hi0)).1.1, hb, fun _ => ⟨show i + 1 ≤ (d.1.length : Int) by omega, o2, o3⟩⟩, (go _ (b1 hx hy hi0)).2⟩
  · exact ⟨im, ml, ⟨(go _ (b2 hx hy hi0)).1.1, hb, fun _ => ⟨show i + 1 ≤ (d.1.length : Int) by omega, o2, o3⟩⟩, (go _ (b2 hx hy hi0)).2⟩
  · exact ⟨im, ml, ⟨(go _ (b3 hy)).1.1, hb, fun _ => ⟨show i + 1 ≤ (d.1.length : Int) by omega, o2, o3⟩⟩, (go _ (b3 hy)).2⟩
  · exact ⟨im, ml, ⟨(go _ (b4 hx)).1.1, hb, fun _ => ⟨show i + 1 ≤ (d.1.length : Int) by omega, o2, o3⟩⟩, (go _ (b4 hx)).2⟩
theorem ok16L : Lp2Ok Try.prog 16 0 lc16 := lp2_of (n := 5) (ex := fun _ => some (sh16e, 0)) (m := fun (d, _, i, _) => mL d.1 i) ((good2_nil _).addF ok26) fun (d, ok, i, ()) Q hx => by
  obtain ⟨⟨g1, g2, g3⟩, hQ⟩ := hx
  exact h16L d ok i Q g1 g2 g3 hQ
theorem both_split : ∀ (d : Dr) (n i : Nat), i + n = d.1.length → d.2.length = d.1.length → bothOk d i = ((d.2.drop i).all haveB && coinsOk d.1 i)
  | d, 0, i, h, hl => by rw [bothOk_end (by omega), coinsOk_end (by omega), List.drop_eq_nil_of_le (by omega)]; rfl
  | d, n + 1, i, h, hl => by
    rw [bothOk_step (d := d) (i := i) (by omega), both_split d n (i + 1) (by omega) hl, coinsOk_step (l := d.1) (i := i) (by omega), List.drop_eq_getElem_cons (show i < d.2.length by omega), List.all_cons]
    have e : d.2.getD i 0 = d.2[i]'(by omega) := by rw [List.getD_eq_getElem?_getD, List.getElem?_eq_getElem (by omega)]; rfl
    unfold bothB coinB
    rw [e]
    have : decide (d.1.getD (i - 1) 0 > d.1.getD i 0) = decide (d.1.getD i 0 < d.1.getD (i - 1) 0) := rfl
    rw [this]
    cases haveB d.2[i] <;> cases (d.2.drop (i + 1)).all haveB <;> cases coinsOk d.1 (i + 1) <;> simp
theorem check_both (d : Dr) : checkE d = if (decide (1 ≤ d.1.length ∧ d.1.length ≤ 8) && decide (d.2.length = d.1.length) && bothOk d 0) = true then 0 else 80 := by
  unfold checkE haveOk
  by_cases h : d.2.length = d.1.length
  · rw [both_split d d.1.length 0 (by omega) h, List.drop_zero]
    congr 1
    simp only [Bool.and_eq_true, decide_eq_true_eq]
    simp only [h, true_and, and_true, eq_self]
  · rw [if_neg (fun e => by simp [h] at e), if_neg (fun e => by simp [h] at e)]
theorem ok16 : FnOk Try.prog 16 fcCheck := fn1_of (n := 5) (((good2_nil _).addL2 ok16L).addF ok26) fun (d, ()) K hx => by
  obtain ⟨⟨g1, g2⟩, hK⟩ := hx
  show xfn1 Try.prog { f := [(26, fcFrom)], l2 := [(16, 0, lc16)] } 5 16 fcCheck (d, ()) K
  have hK : K (checkE d, ()) := hK
  rw [v16F]
  rw [check_both] at hK
  simp only [fork_iff, req_iff, decide_eq_true_eq, decide_eq_false_iff_not, beq_iff_eq, Bool.not_eq_true', Bool.not_eq_false']
  refine ⟨fun h => ⟨⟨Int.le_refl (0 : Int), g1, fun e => ⟨Int.natCast_nonneg _, by omega, by omega⟩⟩, fun b hb => ?_⟩, fun h => ⟨⟨Int.le_refl (0 : Int), g1, fun e => by cases e⟩, fun b hb => ?_⟩⟩
  · have e : (decide (1 ≤ d.1.length ∧ d.1.length ≤ 8) && decide (d.2.length = d.1.length) && bothOk d 0) = b := by
      rw [hb, decide_eq_true (show 1 ≤ d.1.length ∧ d.1.length ≤ 8 by omega), Bool.true_and]
      congr 1
      by_cases h3 : d.2.length = d.1.length
      · rw [decide_eq_true h3, h3]; simp
      · rw [decide_eq_false h3]; symm; rw [beq_eq_false_iff_ne]; omega
    rw [e] at hK
    refine ⟨fun h2 => ?_, fun h2 => ?_⟩
    · rw [h2] at hK; exact hK
    · rw [h2] at hK; exact hK
  · rw [decide_eq_false (show ¬ (1 ≤ d.1.length ∧ d.1.length ≤ 8) by omega)] at hK
    have hb : b = false := hb
    refine ⟨fun h2 => hK, fun h2 => by rw [hb] at h2; cases h2⟩
theorem ok16' : FnOk Try.prog 16 fcCheck' := fun x K hx => ok16 x K ⟨hx.1, hx.2 _ rfl⟩
theorem ok13 : FnOk Try.prog 13 fcPayE := fn1_of (n := 5) ((((good2_nil _).addF ok46).addF ok26).addF ok16') fun (d, sum, ()) K hx => by
  obtain ⟨g1, hK⟩ := hx
  have key : ∀ sum : Int, (∀ r e, (r, e) = payE d sum → K (r, e, ())) → xfn1 Try.prog { f := [(16, fcCheck'), (26, fcFrom), (46, fc46)] } 5 13 fcPayE (d, sum, ()) K := fun sum hK => by
    rw [v13F]
    simp only [fork_iff, decide_eq_true_eq, decide_eq_false_iff_not, bne_iff_ne, bne_eq_false_iff_eq, ne_eq, Bool.not_eq_true', Bool.not_eq_false']
    refine ⟨g1, fun e he => ⟨fun h => hK _ _ (by unfold payE; rw [if_pos (by rw [← he]; exact h), he]), fun h => ?_⟩⟩
    have hc : checkE d = 0 := by rw [← he]; exact h
    have hn : ¬ checkE d ≠ 0 := fun e => e hc
    refine ⟨fun h1 => hK _ _ (by unfold payE; rw [if_neg hn, if_neg h1]), fun h1 => ⟨⟨(check0 hc).1, h1.1, h1.2⟩, fun r b hb hr => ⟨fun hf => hK _ _ ?_, fun ht => hK _ _ ?_⟩⟩⟩
    · rw [hb, decide_eq_false_iff_not] at hf
      unfold payE payR; rw [if_neg hn, if_pos h1, if_pos (by omega)]
    · rw [hb, decide_eq_true_eq] at ht
      unfold payR at hr
      rw [if_neg (by omega)] at hr
      unfold payE payR; rw [if_neg hn, if_pos h1, if_neg (by omega), hr]
  exact key sum hK
end Go.P8
