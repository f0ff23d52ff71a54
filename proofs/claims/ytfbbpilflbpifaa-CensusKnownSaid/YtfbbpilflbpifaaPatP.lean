/- Patrols: the code keeps its contracts. No conditions. -/
import Derived.Test.YtfbbpilflbpifaaPatS
set_option linter.constructorNameAsVariable false
set_option linter.unusedVariables false
set_option linter.unusedSimpArgs false
set_option maxRecDepth 100000
set_option maxHeartbeats 4000000
namespace Go.P10
open Go.Lom Go.Proofs Go
theorem fork_badW {P Q : Prop} {x : Int} (h1 : badW x = true → P) (h2 : badW x = false → Q) : fork (decide (x ≥ 1)) (fork (!decide (x ≤ 10000)) P Q) P := by
  refine fork_iff.2 ⟨fun a => fork_iff.2 ⟨fun b => h1 ?_, fun b => h2 ?_⟩, fun a => h1 ?_⟩
  · simp only [badW, Bool.not_eq_true', decide_eq_false_iff_not, decide_eq_true_eq] at *; omega
  · simp only [badW, Bool.not_eq_false', decide_eq_true_eq] at *; omega
  · simp only [badW, Bool.not_eq_true', decide_eq_false_iff_not, decide_eq_true_eq] at *; omega
theorem ok96L102 : Lp2Ok Try.prog 96 0 (lc96 102 badW) := lp2_of (n := 5) (ex := ex96) (m := fun (l, _, m, i, _) => mL l i) (good2_nil _) fun (l, ((), ()), m, i, ()) Q hx => by
  obtain ⟨⟨h0, h1, hm, h2⟩, q1, q2⟩ := hx
  have hm : m = (l.length : Int) := hm
  subst hm
  rw [v96L102]
  exact idx_round h0 h1 h2 q1 q2 fun g1 g2 => fork_badW g1 g2
theorem ok96F102 : FnOk Try.prog 96 (fc96 102 badW) := fn1_of (n := 5) ((good2_nil _).addL2 ok96L102) fun (l, ((), ()), ()) K hx => by
  obtain ⟨h1, hK⟩ := hx
  rw [v96F102]
  refine ⟨⟨Int.le_refl 0, show (0 : Int) ≤ (l.length : Int) by omega, rfl, h1⟩, ?_⟩
  rw [List.drop_zero]
  have hK : K (idxF badW l 0, ()) := hK
  refine ⟨fun h => ?_, fun _ => hK⟩
  rw [← idxF_neg badW l 0 (Int.le_refl 0) h]; exact hK
theorem ok72F102 : FnOk Try.prog 72 (fc72 102 badW) := fn1_of (n := 5) ((good2_nil _).addF ok96F102) fun (l, ((), ()), ()) K hx => by
  obtain ⟨h1, hK⟩ := hx
  rw [v72F102]
  exact ⟨h1, hK _ idx_any⟩
theorem any_badW {l : List Int} : l.any badW = false ↔ ∀ n ∈ l, 1 ≤ n ∧ n ≤ 10000 := by
  rw [List.any_eq_false]
  constructor
  · intro h p hp
    have := h p hp
    simp only [badW, Bool.not_eq_true', decide_eq_false_iff_not, Decidable.not_not] at this
    exact this
  · intro h p hp
    have := h p hp
    simp only [badW, Bool.not_eq_true', decide_eq_false_iff_not, Decidable.not_not]
    exact this
theorem ok89 : FnOk Try.prog 89 fc89 := fn1_of (n := 5) ((good2_nil _).addF ok72F102) fun (l, ()) K hx => by
  obtain ⟨h1, hK⟩ := hx
  have h1 : l.length ≤ big := h1
  have hK : ∀ r : Bool, r = decide (okW l) → K (r, ()) := hK
  rw [v89F]
  refine fork_iff.2 ⟨fun a => fork_iff.2 ⟨fun b => ⟨h1, fun c hc => hK _ ?_⟩, fun b => hK _ ?_⟩, fun a => hK _ ?_⟩
  · have a : (l.length : Int) ≥ 1 := of_decide_eq_true a
    have b : (l.length : Int) ≤ 6 := of_decide_eq_true b
    cases c with
    | false => rw [decide_eq_true (show okW l from ⟨⟨by omega, by omega⟩, any_badW.1 hc.symm⟩)]; rfl
    | true => rw [decide_eq_false fun h : okW l => by rw [any_badW.2 h.2] at hc; cases hc]; rfl
  · exact (decide_eq_false fun h : okW l => (of_decide_eq_false b) (by have := h.1.2; omega)).symm
  · exact (decide_eq_false fun h : okW l => (of_decide_eq_false a) (by have := h.1.1; omega)).symm
theorem h103L (a : Int) (l : List Int) (i : Int) (Q : LQ) (h1 : l.length ≤ big) (h2 : 0 ≤ i) (h3 : i ≤ l.length) (hQ : ∀ r : Int, r = minL a (l.drop i.toNat) → Q (.exit 0) (stS 0 sh103e (r, ()))) :
    xloop2 Try.prog {} 5 103 0 lc103 (fun _ => some (sh103e, 0)) (fun (_, l, _, i, _) => mL l i) (a, l, (l.length : Int), i, ()) Q := by
  rw [v103L]
  unfold big at h1
  refine fork_iff.2 ⟨fun hi => ?_, fun hi => ?_⟩
  · have hi : i < l.length := of_decide_eq_true hi
    rw [drop_step 0 h2 hi] at hQ
    have e : ∀ b, minL b (l.getD i.toNat 0 :: l.drop (i + 1).toNat) = minL (if l.getD i.toNat 0 < b then l.getD i.toNat 0 else b) (l.drop (i + 1).toNat) := fun b => rfl
    rw [e] at hQ
    refine req_iff.2 ⟨decide_eq_true ⟨h2, hi⟩, fork_iff.2 ⟨fun c => ?_, fun c => ?_⟩⟩
    · rw [if_pos (of_decide_eq_true c)] at hQ
      exact req_iff.2 ⟨inR_i64.2 (by omega), mL_lt hi, ⟨rfl, h1, show (0 : Int) ≤ i + 1 by omega, show i + 1 ≤ (l.length : Int) by omega⟩, hQ⟩
    · rw [if_neg (of_decide_eq_false c)] at hQ
      exact req_iff.2 ⟨inR_i64.2 (by omega), mL_lt hi, ⟨rfl, h1, show (0 : Int) ≤ i + 1 by omega, show i + 1 ≤ (l.length : Int) by omega⟩, hQ⟩
  · have hi : ¬ i < l.length := of_decide_eq_false hi
    rw [drop_end hi] at hQ
    exact hQ a rfl
theorem ok103L : Lp2Ok Try.prog 103 0 lc103 := lp2_of (n := 5) (ex := fun _ => some (sh103e, 0)) (m := fun (_, l, _, i, _) => mL l i) (good2_nil _) fun (a, l, m, i, ()) Q hx => by
  obtain ⟨⟨hm, h1, h2, h3⟩, hQ⟩ := hx
  have hm : m = (l.length : Int) := hm
  subst hm
  exact h103L a l i Q h1 h2 h3 hQ
theorem ok103 : FnOk Try.prog 103 fc103 := fn1_of (n := 5) ((good2_nil _).addL2 ok103L) fun (a, l, ()) K hx => by
  obtain ⟨h1, hK⟩ := hx
  have h1 : l.length ≤ big := h1
  have hK : ∀ r : Int, r = minL a l → K (r, ()) := hK
  rw [v103F, List.drop_zero]
  exact ⟨⟨rfl, h1, Int.le_refl 0, show (0 : Int) ≤ (l.length : Int) by omega⟩, hK⟩
theorem wI_bd {r n : Int} (hr : 0 ≤ r) (hn : 1 ≤ n) : 0 ≤ wI r n ∧ wI r n ≤ 64 := by
  have := Int.ediv_nonneg hr (show 0 ≤ n by omega)
  unfold wI; omega
theorem needN_cons (n : Int) (l : List Int) (r : Int) : needN (n :: l) r = wI r n + needN l r := by unfold needN needW; rw [List.map_cons, List.sum_cons]
theorem needW_cons (n : Int) (l : List Int) (r : Int) : needW (n :: l) r = wI r n :: needW l r := rfl
theorem h91L (r : Int) (o : List Int) (s : Int) (l : List Int) (i : Int) (Q : LQ) (h1 : okW l) (h2 : 0 ≤ r) (hr : r ≤ 9223372036854775807) (h3 : 0 ≤ i) (h4 : i ≤ l.length) (h5 : (o.length : Int) = i) (h6 : 0 ≤ s) (h7 : s ≤ 64 * i)
    (hQ : ∀ (o' : List Int) (s' : Int), o' = o ++ needW (l.drop i.toNat) r → s' = s + needN (l.drop i.toNat) r → Q (.exit 0) (stS 1 sh91e (o', s', ()))) :
    xloop2 Try.prog { nm := true, f := [(103, fc103)] } 5 91 0 lc91 (fun _ => some (sh91e, 1)) (fun (_, _, _, l, _, i, _) => mL l i) (r, o, s, l, (l.length : Int), i, ()) Q := by
  rw [v91L]
  have hl := h1.1.2
  refine fork_iff.2 ⟨fun hi => ?_, fun hi => ?_⟩
  · have hi : i < l.length := of_decide_eq_true hi
    have hn := h1.2 _ (getD_mem (show i.toNat < l.length by omega) 0)
    rw [drop_step 0 h3 hi] at hQ
    rw [needW_cons, needN_cons] at hQ
    generalize l.getD i.toNat 0 = n at *
    have hq : Int.tdiv r n = r / n := Int.tdiv_eq_ediv_of_nonneg h2
    have q0 := Int.ediv_nonneg h2 (show 0 ≤ n by omega)
    have q1 : r / n ≤ r := Int.ediv_le_self _ h2
    rw [hq]
    have hw := wI_bd h2 hn.1
    refine req_iff.2 ⟨decide_eq_true ⟨h3, hi⟩, req_iff.2 ⟨decide_eq_true (by omega), req_iff.2 ⟨inR_i64.2 (by omega), by decide, fun m hm => ?_⟩⟩⟩
    have hm2 : 64 - m = wI r n := by
      rw [hm]; unfold wI minL
      show 64 - (if r / n < 64 then r / n else 64) = _
      split <;> omega
    rw [hm2]
    refine req_iff.2 ⟨inR_i64.2 (by omega), req_iff.2 ⟨decide_eq_true (by omega), req_iff.2 ⟨fitsM (by omega), fun ys hys => req_iff.2 ⟨inR_i64.2 (by omega), req_iff.2 ⟨inR_i64.2 (by omega), ?_⟩⟩⟩⟩⟩
    rw [seg_self] at hys
    subst hys
    rw [seg_exact (show o.length + 1 = (o ++ [wI r n]).length by simp)]
    refine req_iff.2 ⟨decide_eq_true (by simp), mL_lt hi, ⟨h1, ⟨h2, hr⟩, rfl, ⟨show (0 : Int) ≤ i + 1 by omega, show i + 1 ≤ (l.length : Int) by omega⟩, show ((o ++ [wI r n]).length : Int) = i + 1 by simp; omega, show (0 : Int) ≤ s + wI r n by omega, show s + wI r n ≤ 64 * (i + 1) by omega⟩, fun o' s' g1 g2 => hQ o' s' ?_ ?_⟩
    · have g1 : o' = o ++ [wI r n] ++ needW (l.drop (i + 1).toNat) r := g1
      rw [g1, List.append_assoc]; rfl
    · have g2 : s' = s + wI r n + needN (l.drop (i + 1).toNat) r := g2
      rw [g2, Int.add_assoc]
  · have hi : ¬ i < l.length := of_decide_eq_false hi
    rw [drop_end hi] at hQ
    refine req_iff.2 ⟨decide_eq_true (by omega), ?_⟩
    rw [seg_self]
    exact hQ o s (by simp [needW]) (by simp [needN, needW])
theorem ok91L : Lp2Ok Try.prog 91 0 lc91 := lp2_of (n := 5) (ex := fun _ => some (sh91e, 1)) (m := fun (_, _, _, l, _, i, _) => mL l i) ((good2_nilN _).addF ok103) fun (r, o, s, l, m, i, ()) Q hx => by
  obtain ⟨⟨h1, h2, hm, h3, h4, h5⟩, hQ⟩ := hx
  have hm : m = (l.length : Int) := hm
  subst hm
  exact h91L r o s l i Q h1 h2.1 h2.2 h3.1 h3.2 h4 h5.1 h5.2 hQ
theorem h91 (l : List Int) (r : Int) (K : fc91.post.den → Prop) (h1 : okW l) (h2 : 0 ≤ r) (h3 : r ≤ 9223372036854775807) (hK : ∀ (o : List Int) (s : Int), o = needW l r → s = needN l r → K ((), (), o, s, ())) : xfn2 Try.prog { nm := true, l2 := [(91, 0, lc91)] } 5 91 fc91 (l, r, ()) K := by
  rw [v91F]
  refine ⟨⟨h1, ⟨h2, h3⟩, rfl, ⟨Int.le_refl 0, show (0 : Int) ≤ (l.length : Int) by omega⟩, rfl, Int.le_refl 0, Int.le_refl 0⟩, fun (o' : List Int) (s' : Int) g1 g2 => req_iff.2 ⟨decide_eq_true (by omega), ?_⟩⟩
  rw [List.drop_zero] at g1 g2
  rw [seg_self]
  refine hK o' s' (by rw [g1, List.nil_append]) ?_
  have g2 : s' = 0 + needN l r := g2
  rw [g2, Int.zero_add]
theorem ok91 : F2Ok Try.prog 91 fc91 := fn2_of (n := 5) ((good2_nilN _).addL2 ok91L) fun (l, r, ()) K hx => by
  obtain ⟨⟨h1, h2, h3⟩, hK⟩ := hx
  exact h91 l r K h1 h2 h3 hK
theorem h50 (l : List Int) (r : Int) (K : dens [I, E] → Prop) (h1 : l.length ≤ big) (h2 : r ≤ 9223372036854775807) (hK : ∀ n e, (n, e) = needV l r → K (n, e, ())) : xfn1 Try.prog { nm := true, f := [(89, fc89)], f2 := [(91, fc91)] } 5 50 fc50 (l, r, ()) K := by
  rw [v50F]
  refine ⟨h1, fun c hc => fork_not (fun g => hK _ _ ?_) fun g => ?_⟩
  · have h : ¬ okW l := of_decide_eq_false (by rw [← hc, g])
    rw [needV, if_neg h]
  · have h : okW l := of_decide_eq_true (by rw [← hc, g])
    refine fork_iff.2 ⟨fun a => hK _ _ ?_, fun a => ?_⟩
    · rw [needV, if_pos h, if_pos (of_decide_eq_true a)]
    · have a : ¬ r < 0 := of_decide_eq_false a
      refine ⟨⟨h, show (0 : Int) ≤ r by omega, h2⟩, fun o s ho hs => hK _ _ ?_⟩
      rw [needV, if_pos h, if_neg a, hs]
theorem ok50 : FnOk Try.prog 50 fc50 := fn1_of (n := 5) (((good2_nilN _).addF2 ok91).addF ok89) fun (l, r, ()) K hx => by
  obtain ⟨⟨h1, h2⟩, hK⟩ := hx
  exact h50 l r K h1 h2 hK
theorem inW_iff {n : Int} : inW n = true ↔ 0 ≤ n ∧ n ≤ 64 := decide_eq_true_iff
theorem h48A (l ws : List Int) (s : Int) (b : Bool) (i : Int) (Q : LQ) (h1 : ws.length ≤ big) (h2 : 0 ≤ i) (h3 : i ≤ ws.length) (h4 : b = false → ws.length ≤ 6 ∧ 0 ≤ s ∧ s ≤ 64 * i)
    (hQ : ∀ (s' : Int) (b' : Bool), b' = (b || !(ws.drop i.toNat).all inW) → (b' = false → s' = s + (ws.drop i.toNat).sum) → Q (.exit 0) (stS 0 sh48ae (l, ws, s', b', ()))) :
    xloop2 Try.prog { wr := true } 5 48 0 lc48a (fun _ => some (sh48ae, 0)) (fun (_, _, _, _, w2, _, i, _) => mL w2 i) (l, ws, s, b, ws, (ws.length : Int), i, ()) Q := by
  rw [v48A]
  unfold big at h1
  refine fork_iff.2 ⟨fun hi => ?_, fun hi => ?_⟩
  · have hi : i < ws.length := of_decide_eq_true hi
    rw [drop_step 0 h2 hi] at hQ
    rw [List.all_cons, List.sum_cons] at hQ
    have e1 : wrapA .i64 (i + 1) = i + 1 := wrapA_in (inR_i64.2 (by omega))
    rw [e1]
    generalize hx : ws.getD i.toNat 0 = x at *
    have bad : ∀ t : Int, (b || !(inW x)) = true → LC2.spec lc48a (l, ws, t, true, ws, (ws.length : Int), i + 1, ()) Q := fun t hb =>
      ⟨⟨rfl, rfl, h1, ⟨show (0 : Int) ≤ i + 1 by omega, show i + 1 ≤ (ws.length : Int) by omega⟩, fun h => by cases h⟩, fun s' b' g1 g2 => hQ s' b' (by
        rw [g1]; cases b <;> cases hw : inW x <;> simp_all) fun h => by rw [g1] at h; cases h⟩
    refine req_iff.2 ⟨decide_eq_true ⟨h2, hi⟩, fork_iff.2 ⟨fun hb => ⟨mL_lt hi, bad _ (by rw [hb]; rfl)⟩, fun hb => ?_⟩⟩
    obtain ⟨g6, g0, g64⟩ := h4 hb
    refine fork_iff.2 ⟨fun c => ⟨mL_lt hi, ?_⟩, fun c => ⟨mL_lt hi, bad _ (by rw [Bool.eq_false_iff.2 fun h => (of_decide_eq_false c) (inW_iff.1 h).1]; simp)⟩⟩
    have c : x ≥ 0 := of_decide_eq_true c
    by_cases d : x ≤ 64
    · have hin : inW x = true := inW_iff.2 ⟨c, d⟩
      have e2 : wrapA .i64 (s + x) = s + x := wrapA_in (inR_i64.2 (by omega))
      rw [e2, decide_eq_true d]
      refine ⟨⟨rfl, rfl, h1, ⟨show (0 : Int) ≤ i + 1 by omega, show i + 1 ≤ (ws.length : Int) by omega⟩, fun _ => ⟨g6, show (0 : Int) ≤ s + x by omega, show s + x ≤ 64 * (i + 1) by omega⟩⟩, fun s' b' q1 q2 => hQ s' b' ?_ fun h => ?_⟩
      · rw [q1, hb, hin]; rfl
      · have q2 : s' = s + x + (ws.drop (i + 1).toNat).sum := q2 h
        rw [q2, Int.add_assoc]
    · rw [decide_eq_false d]
      exact bad _ (by rw [Bool.eq_false_iff.2 fun h => d (inW_iff.1 h).2]; simp)
  · have hi : ¬ i < ws.length := of_decide_eq_false hi
    rw [drop_end hi] at hQ
    exact hQ s b (by simp) fun _ => by simp
theorem ok48A : Lp2Ok Try.prog 48 0 lc48a := lp2_of (n := 5) (ex := fun _ => some (sh48ae, 0)) (m := fun (_, _, _, _, w2, _, i, _) => mL w2 i) (good2_nilW _) fun (l, ws, s, b, w2, m, i, ()) Q hx => by
  obtain ⟨⟨hw, hm, h1, h2, h3⟩, hQ⟩ := hx
  have hw : w2 = ws := hw
  have hm : m = (ws.length : Int) := hm
  subst hw hm
  exact h48A l w2 s b i Q h1 h2.1 h2.2 h3 hQ
theorem h48B (ws : List Int) (x : Int) (l : List Int) (i : Int) (Q : LQ) (h1 : okW l) (h2 : ws.length = l.length) (h3 : ∀ w ∈ ws, 0 ≤ w ∧ w ≤ 64) (h4 : 0 ≤ i) (h5 : i ≤ l.length) (hQ : ∀ x' : Int, x' = maxR (l.drop i.toNat) (ws.drop i.toNat) x → Q (.exit 2) (stS 0 sh48be (x', ()))) :
    xloop2 Try.prog {} 5 48 1 lc48b (fun _ => some (sh48be, 0)) (fun (_, _, l, _, i, _) => mL l i) (ws, x, l, (l.length : Int), i, ()) Q := by
  rw [v48B]
  have hl := h1.1.2
  refine fork_iff.2 ⟨fun hi => ?_, fun hi => ?_⟩
  · have hi : i < l.length := of_decide_eq_true hi
    have hn := h1.2 _ (getD_mem (show i.toNat < l.length by omega) 0)
    have hw := h3 _ (getD_mem (show i.toNat < ws.length by omega) 0)
    rw [drop_step 0 h4 hi, drop_step 0 h4 (show i < ws.length by omega), maxR] at hQ
    generalize l.getD i.toNat 0 = n at *
    generalize ws.getD i.toNat 0 = w at *
    have hm := mul_bd (show 0 ≤ n by omega) hn.2 (show 0 ≤ 64 - w by omega) (show 64 - w ≤ 64 by omega)
    refine req_iff.2 ⟨decide_eq_true ⟨h4, hi⟩, req_iff.2 ⟨decide_eq_true ⟨h4, by omega⟩, req_iff.2 ⟨inR_i64.2 (by omega), req_iff.2 ⟨inR_i64.2 (by omega), req_iff.2 ⟨inR_i64.2 (by omega), mL_lt hi, ⟨h1, h2, h3, rfl, ⟨show (0 : Int) ≤ i + 1 by omega, show i + 1 ≤ (l.length : Int) by omega⟩⟩, fun x' hx' => hQ x' ?_⟩⟩⟩⟩⟩
    have hx' : x' = maxR (l.drop (i + 1).toNat) (ws.drop (i + 1).toNat) (if n * (64 - w) > x then n * (64 - w) else x) := hx'
    rw [hx']
    congr 1
    split <;> omega
  · have hi : ¬ i < l.length := of_decide_eq_false hi
    rw [drop_end hi, maxR] at hQ
    · exact hQ x rfl
    · exact fun _ _ _ _ h => nomatch h
theorem ok48B : Lp2Ok Try.prog 48 1 lc48b := lp2_of (n := 5) (ex := fun _ => some (sh48be, 0)) (m := fun (_, _, l, _, i, _) => mL l i) (good2_nil _) fun (ws, x, l, m, i, ()) Q hx => by
  obtain ⟨⟨h1, h2, h3, hm, h4⟩, hQ⟩ := hx
  have hm : m = (l.length : Int) := hm
  subst hm
  exact h48B ws x l i Q h1 h2 h3 h4.1 h4.2 hQ
theorem h48 (l ws : List Int) (K : dens [I, E] → Prop) (h1 : l.length ≤ big) (h2 : ws.length ≤ big) (hK : ∀ n e, (n, e) = riskV l ws → K (n, e, ())) : xfn1 Try.prog { wr := true, f := [(89, fc89)], l2 := [(48, 0, lc48a), (48, 1, lc48b)] } 5 48 fc48 (l, ws, ()) K := by
  rw [v48F]
  have bad : ¬ (okW l ∧ ws.length = l.length ∧ ws.all inW = true ∧ ws.sum = 64) → K ((0 : Int), (103 : Int), ()) := fun h => hK _ _ (by rw [riskV, if_neg h])
  refine ⟨h1, fun c hc => fork_not (fun g => ?_) fun g => ?_⟩
  · have h : ¬ okW l := of_decide_eq_false (by rw [← hc, g])
    refine ⟨⟨rfl, rfl, h2, ⟨Int.le_refl 0, show (0 : Int) ≤ (ws.length : Int) by omega⟩, fun h => by cases h⟩, fun s' b' g1 _ => ?_⟩
    rw [Bool.true_or] at g1
    subst g1
    exact fork_iff.2 ⟨fun _ => bad fun k => h k.1, fun h => by cases h⟩
  · have h : okW l := of_decide_eq_true (by rw [← hc, g])
    have hl := h.1.2
    refine ⟨⟨rfl, rfl, h2, ⟨Int.le_refl 0, show (0 : Int) ≤ (ws.length : Int) by omega⟩, fun hb => ⟨by have hb : ((ws.length : Int) != (l.length : Int)) = false := hb; simp at hb; omega, Int.le_refl 0, Int.le_refl 0⟩⟩, fun s' b' g1 g2 => ?_⟩
    rw [List.drop_zero] at g1 g2
    rw [List.drop_zero, List.drop_zero]
    refine fork_iff.2 ⟨fun hb => bad fun k => ?_, fun hb => ?_⟩
    · rw [hb, k.2.2.1, k.2.1] at g1; simp at g1
    · have g2 : s' = 0 + ws.sum := g2 hb
      rw [Int.zero_add] at g2
      rw [hb] at g1
      have g1 := g1.symm
      simp only [Bool.or_eq_false_iff, Bool.not_eq_false', bne_eq_false_iff_eq] at g1
      have hle : ws.length = l.length := by omega
      refine fork_iff.2 ⟨fun hs => bad fun k => ?_, fun hs => ⟨⟨h, hle, fun w hw => inW_iff.1 (List.all_eq_true.1 g1.2 w hw), rfl, Int.le_refl 0, show (0 : Int) ≤ (l.length : Int) by omega⟩, fun x' hx' => hK _ _ ?_⟩⟩
      · rw [g2, k.2.2.2] at hs; simp at hs
      · have hs : ws.sum = 64 := by rw [g2] at hs; simpa using hs
        rw [riskV, if_pos ⟨h, hle, g1.2, hs⟩, hx']
theorem ok48 : FnOk Try.prog 48 fc48 := fn1_of (n := 5) ((((good2_nilW _).addL2 ok48B).addL2 ok48A).addF ok89) fun (l, ws, ()) K hx => by
  obtain ⟨⟨h1, h2⟩, hK⟩ := hx
  exact h48 l ws K h1 h2 hK
end Go.P10
