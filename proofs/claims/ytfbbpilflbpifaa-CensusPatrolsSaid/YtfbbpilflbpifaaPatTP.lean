/- CensusPatrols: the reference and the statement: the code keeps its contracts. No conditions. -/
import Derived.Test.YtfbbpilflbpifaaPatTS
set_option linter.constructorNameAsVariable false
set_option linter.unusedVariables false
set_option linter.unusedSimpArgs false
set_option maxRecDepth 100000
set_option maxHeartbeats 4000000
namespace Go.P10
open Go.Lom Go.Proofs Go

/-- A loop that looks at all numbers with 'ok = ok && ..'. -/
theorem all_round {p : Int → Bool} {l : List Int} {ok : Bool} {i lo hi : Int} {Q : Bool → Prop} {N : Bool → Prop} (h1 : l.length ≤ big) (h2 : 0 ≤ i) (h3 : i ≤ l.length) (hp : ∀ x, p x = (decide (lo ≤ x) && decide (x ≤ hi)))
    (hQ : ∀ r : Bool, r = (ok && (l.drop i.toNat).all p) → Q r) (hN : i < l.length → ∀ b, (∀ r : Bool, r = (b && (l.drop (i + 1).toNat).all p) → Q r) → N b) :
    fork (decide (i < (l.length : Int))) (fork ok (req (decide (0 ≤ i ∧ i < (l.length : Int))) (fork (decide (lo ≤ l.getD i.toNat 0)) (req (inR .i64 (i + 1)) (N (decide (l.getD i.toNat 0 ≤ hi)))) (req (inR .i64 (i + 1)) (N false)))) (req (inR .i64 (i + 1)) (N false))) (Q ok) := by
  unfold big at h1
  refine fork_iff.2 ⟨fun hi => ?_, fun hi => ?_⟩
  · have hi : i < l.length := of_decide_eq_true hi
    rw [drop_step 0 h2 hi, List.all_cons] at hQ
    have hin : inR .i64 (i + 1) = true := inR_i64.2 (by omega)
    refine fork_iff.2 ⟨fun hok => req_iff.2 ⟨decide_eq_true ⟨h2, hi⟩, fork_iff.2 ⟨fun c => req_iff.2 ⟨hin, hN hi _ fun r hr => hQ r ?_⟩, fun c => req_iff.2 ⟨hin, hN hi _ fun r hr => hQ r ?_⟩⟩⟩, fun hok => req_iff.2 ⟨hin, hN hi _ fun r hr => hQ r ?_⟩⟩
    · rw [hr, hok, hp, c, Bool.true_and, Bool.true_and]
    · rw [hr, hok, hp, c]; rfl
    · rw [hr, hok]; rfl
  · have hi : ¬ i < l.length := of_decide_eq_false hi
    rw [drop_end hi] at hQ
    exact hQ ok (by simp)
theorem okWn_and (x : Int) : okWn x = (decide (1 ≤ x) && decide (x ≤ 10000)) := by unfold okWn; rw [Bool.decide_and]
theorem inW_and (x : Int) : inW x = (decide (0 ≤ x) && decide (x ≤ 64)) := by unfold inW; rw [Bool.decide_and]
theorem h90L (l : List Int) (ok : Bool) (i : Int) (Q : LQ) (h1 : l.length ≤ big) (h2 : 0 ≤ i) (h3 : i ≤ l.length) (hQ : ∀ r : Bool, r = (ok && (l.drop i.toNat).all okWn) → Q (.exit 0) (stS 0 sh90e (r, ()))) :
    xloop2 Try.prog {} 5 90 0 lc90 (fun _ => some (sh90e, 0)) (fun (l, _, i, _) => mL l i) (l, ok, i, ()) Q := by
  rw [v90L]
  exact all_round (Q := fun r => Q (.exit 0) (stS 0 sh90e (r, ()))) (N := fun b => mL l (i + 1) < mL l i ∧ LC2.spec lc90 (l, b, i + 1, ()) Q) h1 h2 h3 okWn_and hQ fun hi b hb => ⟨mL_lt hi, ⟨h1, show (0 : Int) ≤ i + 1 by omega, show i + 1 ≤ (l.length : Int) by omega⟩, hb⟩
theorem ok90L : Lp2Ok Try.prog 90 0 lc90 := lp2_of (n := 5) (ex := fun _ => some (sh90e, 0)) (m := fun (l, _, i, _) => mL l i) (good2_nil _) fun (l, ok, i, ()) Q hx => by
  obtain ⟨⟨h1, h2, h3⟩, hQ⟩ := hx
  exact h90L l ok i Q h1 h2 h3 hQ
theorem all_okWn {l : List Int} : l.all okWn = true ↔ ∀ n ∈ l, 1 ≤ n ∧ n ≤ 10000 := by simp [okWn, List.all_eq_true]
theorem ok90 : FnOk Try.prog 90 fc89 := fn1_of (n := 5) ((good2_nil _).addL2 ok90L) fun (l, ()) K hx => by
  obtain ⟨h1, hK⟩ := hx
  have h1 : l.length ≤ big := h1
  have hK : ∀ r : Bool, r = decide (okW l) → K (r, ()) := hK
  show xfn1 Try.prog { l2 := [(90, 0, lc90)] } 5 90 fc89 (l, ()) K
  rw [v90F]
  rw [List.drop_zero]
  have pre : l.length ≤ 9223372036854775807 ∧ (0 : Int) ≤ 0 ∧ (0 : Int) ≤ (l.length : Int) := ⟨h1, Int.le_refl 0, by omega⟩
  refine fork_iff.2 ⟨fun a => ⟨pre, fun r hr => hK r ?_⟩, fun a => ⟨pre, fun r hr => hK r ?_⟩⟩
  · have a : (1 : Int) ≤ l.length := of_decide_eq_true a
    rw [hr]
    by_cases b : (l.length : Int) ≤ 6
    · rw [decide_eq_true b, Bool.true_and]
      cases c : l.all okWn with
      | true => exact (decide_eq_true (show okW l from ⟨⟨by omega, by omega⟩, all_okWn.1 c⟩)).symm
      | false => exact (decide_eq_false fun h : okW l => by rw [all_okWn.2 h.2] at c; cases c).symm
    · rw [decide_eq_false b]
      exact (decide_eq_false fun h : okW l => b (by have := h.1.2; omega)).symm
  · rw [hr]
    exact (decide_eq_false fun h : okW l => (of_decide_eq_false a) (by have := h.1.1; omega)).symm
theorem h104L (n r w : Int) (Q : LQ) (h1 : 1 ≤ n) (h2 : n ≤ 10000) (h3 : 0 ≤ r) (h4 : 0 ≤ w) (h5 : w ≤ wI r n) (hQ : ∀ x : Int, x = wI r n → Q (.exit 0) (stS 0 sh104e (x, ()))) :
    xloop2 Try.prog {} 5 104 0 lc104 (fun _ => some (sh104e, 0)) (fun (_, _, w, _) => (64 - w).toNat) (n, r, w, ()) Q := by
  rw [v104L]
  have hb := wI_bd h3 h1
  have hf := wI_fit h3 h1
  have hm := mul_bd (show 0 ≤ n by omega) h2 (show 0 ≤ 64 - w by omega) (show 64 - w ≤ 64 by omega)
  refine req_iff.2 ⟨inR_i64.2 (by omega), req_iff.2 ⟨inR_i64.2 (by omega), fork_iff.2 ⟨fun c => ?_, fun c => hQ w ?_⟩⟩⟩
  · have c : n * (64 - w) > r := of_decide_eq_true c
    have hlt : w < wI r n := by
      rcases Int.lt_or_le w (wI r n) with h | h
      · exact h
      · have e : w = wI r n := by omega
        rw [e] at c; omega
    exact req_iff.2 ⟨inR_i64.2 (by omega), by omega, ⟨⟨h1, h2⟩, h3, show (0 : Int) ≤ w + 1 by omega, show w + 1 ≤ wI r n by omega⟩, hQ⟩
  · have c : ¬ n * (64 - w) > r := of_decide_eq_false c
    have h6 : 64 - w ≤ r / n := by rw [Int.le_ediv_iff_mul_le (by omega), Int.mul_comm]; omega
    unfold wI at h5 ⊢; omega
theorem ok104L : Lp2Ok Try.prog 104 0 lc104 := lp2_of (n := 5) (ex := fun _ => some (sh104e, 0)) (m := fun (_, _, w, _) => (64 - w).toNat) (good2_nil _) fun (n, r, w, ()) Q hx => by
  obtain ⟨⟨h1, h2, h3, h4⟩, hQ⟩ := hx
  exact h104L n r w Q h1.1 h1.2 h2 h3 h4 hQ
theorem ok104 : FnOk Try.prog 104 fc104 := fn1_of (n := 5) ((good2_nil _).addL2 ok104L) fun (n, r, ()) K hx => by
  obtain ⟨⟨h1, h2⟩, hK⟩ := hx
  rw [v104F]
  exact ⟨⟨h1, h2, Int.le_refl 0, (wI_bd (r := r) (n := n) h2 h1.1).1⟩, hK⟩
theorem h92L (l : List Int) (r n i : Int) (Q : LQ) (h1 : okW l) (h2 : 0 ≤ r) (h3 : 0 ≤ i) (h4 : i ≤ l.length) (h5 : 0 ≤ n) (h6 : n ≤ 64 * i) (hQ : ∀ x : Int, x = n + needN (l.drop i.toNat) r → Q (.exit 0) (stS 0 sh92e (x, ()))) :
    xloop2 Try.prog { f := [(104, fc104)] } 5 92 0 lc92 (fun _ => some (sh92e, 0)) (fun (l, _, _, i, _) => mL l i) (l, r, n, i, ()) Q := by
  rw [v92L]
  have hl := h1.1.2
  refine fork_iff.2 ⟨fun hi => ?_, fun hi => ?_⟩
  · have hi : i < l.length := of_decide_eq_true hi
    have hn := h1.2 _ (getD_mem (show i.toNat < l.length by omega) 0)
    rw [drop_step 0 h3 hi, needN_cons] at hQ
    have hw := wI_bd h2 hn.1
    refine req_iff.2 ⟨decide_eq_true ⟨h3, hi⟩, ⟨hn, h2⟩, fun w hw2 => ?_⟩
    rw [← hw2] at hw hQ
    refine req_iff.2 ⟨inR_i64.2 (by omega), req_iff.2 ⟨inR_i64.2 (by omega), mL_lt hi, ⟨h1, h2, ⟨show (0 : Int) ≤ i + 1 by omega, show i + 1 ≤ (l.length : Int) by omega⟩, show (0 : Int) ≤ n + w by omega, show n + w ≤ 64 * (i + 1) by omega⟩, fun x hx => hQ x ?_⟩⟩
    have hx : x = n + w + needN (l.drop (i + 1).toNat) r := hx
    rw [hx, Int.add_assoc]
  · have hi : ¬ i < l.length := of_decide_eq_false hi
    rw [drop_end hi] at hQ
    exact hQ n (by simp [needN, needW])
theorem ok92L : Lp2Ok Try.prog 92 0 lc92 := lp2_of (n := 5) (ex := fun _ => some (sh92e, 0)) (m := fun (l, _, _, i, _) => mL l i) ((good2_nil _).addF ok104) fun (l, r, n, i, ()) Q hx => by
  obtain ⟨⟨h1, h2, h3, h4⟩, hQ⟩ := hx
  exact h92L l r n i Q h1 h2 h3.1 h3.2 h4.1 h4.2 hQ
theorem ok92 : FnOk Try.prog 92 fc92 := fn1_of (n := 5) ((good2_nil _).addL2 ok92L) fun (l, r, ()) K hx => by
  obtain ⟨⟨h1, h2⟩, hK⟩ := hx
  have hK : ∀ n : Int, n = needN l r → K (n, ()) := hK
  rw [v92F]
  refine ⟨⟨h1, h2, ⟨Int.le_refl 0, show (0 : Int) ≤ (l.length : Int) by omega⟩, Int.le_refl 0, Int.le_refl 0⟩, fun (x : Int) hx => hK x ?_⟩
  rw [List.drop_zero] at hx
  have hx : x = 0 + needN l r := hx
  rw [hx, Int.zero_add]
theorem ok51 : FnOk Try.prog 51 fc50 := fn1_of (n := 5) (((good2_nil _).addF ok92).addF ok90) fun (l, r, ()) K hx => by
  obtain ⟨⟨h1, h2⟩, hK⟩ := hx
  have hK : ∀ n e, (n, e) = needV l r → K (n, e, ()) := hK
  have h2 : (r : Int) ≤ 9223372036854775807 := h2
  show xfn1 Try.prog { f := [(90, fc89), (92, fc92)] } 5 51 fc50 (l, r, ()) K
  rw [v51F]
  refine ⟨h1, fun c hc => fork_not (fun g => hK _ _ ?_) fun g => ?_⟩
  · have h : ¬ okW l := of_decide_eq_false (by rw [← hc, g])
    rw [needV, if_neg h]
  · have h : okW l := of_decide_eq_true (by rw [← hc, g])
    refine fork_iff.2 ⟨fun a => hK _ _ ?_, fun a => ?_⟩
    · rw [needV, if_pos h, if_pos (of_decide_eq_true a)]
    · have a : ¬ (r : Int) < 0 := of_decide_eq_false a
      exact ⟨⟨h, Int.not_lt.1 a⟩, fun n hn => hK _ _ (by rw [needV, if_pos h, if_neg a, hn])⟩
theorem h24L (l : List Int) (n i : Int) (Q : LQ) (h1 : l.length ≤ big) (h2 : 0 ≤ i) (h3 : i ≤ l.length) (h4 : l.length ≤ 6 → l.all inW = true → 0 ≤ n ∧ n ≤ 64 * i) (hQ : ∀ x : Int, (l.length ≤ 6 → l.all inW = true → x = n + (l.drop i.toNat).sum) → Q (.exit 0) (stS 0 sh24e (x, ()))) :
    xloop2 Try.prog { wr := true } 5 24 0 lc24 (fun _ => some (sh24e, 0)) (fun (l, _, i, _) => mL l i) (l, n, i, ()) Q := by
  rw [v24L]
  unfold big at h1
  refine fork_iff.2 ⟨fun hi => ?_, fun hi => ?_⟩
  · have hi : i < l.length := of_decide_eq_true hi
    rw [drop_step 0 h2 hi, List.sum_cons] at hQ
    have e1 : wrapA .i64 (i + 1) = i + 1 := wrapA_in (inR_i64.2 (by omega))
    rw [e1]
    have hm := getD_mem (show i.toNat < l.length by omega) (0 : Int)
    have hw : l.length ≤ 6 → l.all inW = true → (0 ≤ l.getD i.toNat 0 ∧ l.getD i.toNat 0 ≤ 64) ∧ wrapA .i64 (n + l.getD i.toNat 0) = n + l.getD i.toNat 0 := fun a b => by
      have c := inW_iff.1 (List.all_eq_true.1 b _ hm)
      have d := h4 a b
      exact ⟨c, wrapA_in (inR_i64.2 (by omega))⟩
    generalize l.getD i.toNat 0 = v at *
    refine req_iff.2 ⟨decide_eq_true ⟨h2, hi⟩, mL_lt hi, ⟨h1, ⟨show (0 : Int) ≤ i + 1 by omega, show i + 1 ≤ (l.length : Int) by omega⟩, fun a b => ?_⟩, fun x hx => hQ x fun a b => ?_⟩
    · obtain ⟨c, d⟩ := hw a b
      have e := h4 a b
      rw [d]
      exact ⟨show (0 : Int) ≤ n + v by omega, show n + v ≤ 64 * (i + 1) by omega⟩
    · obtain ⟨c, d⟩ := hw a b
      have hx : x = wrapA .i64 (n + v) + (l.drop (i + 1).toNat).sum := hx a b
      rw [hx, d, Int.add_assoc]
  · have hi : ¬ i < l.length := of_decide_eq_false hi
    rw [drop_end hi] at hQ
    exact hQ n fun _ _ => by simp
theorem ok24L : Lp2Ok Try.prog 24 0 lc24 := lp2_of (n := 5) (ex := fun _ => some (sh24e, 0)) (m := fun (l, _, i, _) => mL l i) (good2_nilW _) fun (l, n, i, ()) Q hx => by
  obtain ⟨⟨h1, h2, h3⟩, hQ⟩ := hx
  exact h24L l n i Q h1 h2.1 h2.2 h3 hQ
theorem ok24w : FnOk Try.prog 24 fc24w := fn1_of (n := 5) ((good2_nil _).addL2 ok24L) fun (l, ()) K hx => by
  obtain ⟨h1, hK⟩ := hx
  have hK : ∀ n : Int, (l.length ≤ 6 → l.all inW = true → n = l.sum) → K (n, ()) := hK
  rw [v24F]
  refine ⟨⟨h1, ⟨Int.le_refl 0, show (0 : Int) ≤ (l.length : Int) by omega⟩, fun _ _ => ⟨Int.le_refl 0, Int.le_refl 0⟩⟩, fun (x : Int) hx => hK x fun a b => ?_⟩
  have hx : x = 0 + (l.drop 0).sum := hx a b
  rw [hx, List.drop_zero, Int.zero_add]
theorem h53L (l : List Int) (a b : Int) (Q : LQ) (h1 : okW l) (h2 : -1 ≤ a) (h3 : a < b) (h4 : b ≤ 640000) (h5 : needN l b ≤ 64) (h6 : a = -1 ∨ needN l a > 64) (hQ : ∀ r, leastR l r → Q (.exit 0) (stS 0 sh53e (r, ()))) :
    xloop2 Try.prog { f := [(92, fc92)] } 5 53 0 lc53 (fun _ => some (sh53e, 0)) (fun (_, a, b, _) => (b - a).toNat) (l, a, b, ()) Q := by
  rw [v53L]
  refine req_iff.2 ⟨inR_i64.2 (by omega), fork_iff.2 ⟨fun hi => ?_, fun hi => ?_⟩⟩
  · have hi : b - a > 1 := of_decide_eq_true hi
    have hq : Int.tdiv (a + b) 2 = (a + b) / 2 := Int.tdiv_eq_ediv_of_nonneg (by omega)
    rw [hq]
    refine req_iff.2 ⟨inR_i64.2 (by omega), req_iff.2 ⟨inR_i64.2 (by omega), ⟨h1, show (0 : Int) ≤ (a + b) / 2 by omega⟩, fun n hn => ?_⟩⟩
    refine fork_iff.2 ⟨fun c => ?_, fun c => ?_⟩
    · have c : n ≤ 64 := of_decide_eq_true c
      rw [hn] at c
      exact ⟨by omega, ⟨h1, h2, show a < (a + b) / 2 by omega, show (a + b) / 2 ≤ (640000 : Int) by omega, c, h6⟩, hQ⟩
    · have c : ¬ n ≤ 64 := of_decide_eq_false c
      rw [hn] at c
      exact ⟨by omega, ⟨h1, show (-1 : Int) ≤ (a + b) / 2 by omega, show (a + b) / 2 < b by omega, h4, h5, .inr (Int.not_le.1 c)⟩, hQ⟩
  · have hi : ¬ b - a > 1 := of_decide_eq_false hi
    have e : a = b - 1 := by omega
    refine hQ b ⟨⟨by omega, h4⟩, h5, ?_⟩
    rcases h6 with h | h
    · exact .inl (by omega)
    · exact .inr (by rw [← e]; exact h)
theorem ok53L : Lp2Ok Try.prog 53 0 lc53 := lp2_of (n := 5) (ex := fun _ => some (sh53e, 0)) (m := fun (_, a, b, _) => (b - a).toNat) ((good2_nil _).addF ok92) fun (l, a, b, ()) Q hx => by
  obtain ⟨⟨h1, h2, h3, h4, h5, h6⟩, hQ⟩ := hx
  exact h53L l a b Q h1 h2 h3 h4 h5 h6 hQ
theorem ok53 : FnOk Try.prog 53 fc53 := fn1_of (n := 5) ((good2_nil _).addL2 ok53L) fun (l, ()) K hx => by
  obtain ⟨h1, hK⟩ := hx
  have h1 : okW l := h1
  rw [v53F]
  exact ⟨⟨h1, by decide, by decide, by decide, by rw [needN_top h1.2]; decide, .inl rfl⟩, hK⟩
theorem leastR_uniq {l : List Int} (h : okW l) {r s : Int} (hr : leastR l r) (hs : leastR l s) : r = s := by
  have key : ∀ {r s : Int}, leastR l r → leastR l s → ¬ r < s := fun {r s} hr hs hlt => by
    have h1 := hr.1.1
    have h2 : needN l (s - 1) > 64 := by rcases hs.2.2 with h | h; omega; exact h
    have := needN_anti (show r ≤ s - 1 by omega) h.2
    have := hr.2.1
    omega
  have := key hr hs
  have := key hs hr
  omega
theorem h49A (l ws : List Int) (ok : Bool) (i : Int) (Q : LQ) (h1 : ws.length ≤ big) (h2 : 0 ≤ i) (h3 : i ≤ ws.length) (hQ : ∀ r : Bool, r = (ok && (ws.drop i.toNat).all inW) → Q (.exit 0) (stS 0 sh49ae (l, ws, r, ()))) :
    xloop2 Try.prog {} 5 49 0 lc49a (fun _ => some (sh49ae, 0)) (fun (_, ws, _, i, _) => mL ws i) (l, ws, ok, i, ()) Q := by
  rw [v49A]
  exact all_round (Q := fun r => Q (.exit 0) (stS 0 sh49ae (l, ws, r, ()))) (N := fun b => mL ws (i + 1) < mL ws i ∧ LC2.spec lc49a (l, ws, b, i + 1, ()) Q) h1 h2 h3 inW_and hQ fun hi b hb => ⟨mL_lt hi, ⟨h1, show (0 : Int) ≤ i + 1 by omega, show i + 1 ≤ (ws.length : Int) by omega⟩, hb⟩
theorem ok49A : Lp2Ok Try.prog 49 0 lc49a := lp2_of (n := 5) (ex := fun _ => some (sh49ae, 0)) (m := fun (_, ws, _, i, _) => mL ws i) (good2_nil _) fun (l, ws, ok, i, ()) Q hx => by
  obtain ⟨⟨h1, h2, h3⟩, hQ⟩ := hx
  exact h49A l ws ok i Q h1 h2 h3 hQ
theorem h49B (l ws : List Int) (x i : Int) (Q : LQ) (h1 : okW l) (h2 : ws.length = l.length) (h3 : ∀ w ∈ ws, 0 ≤ w ∧ w ≤ 64) (h4 : 0 ≤ i) (h5 : i ≤ l.length) (hQ : ∀ x' : Int, x' = maxR (l.drop i.toNat) (ws.drop i.toNat) x → Q (.exit 2) (stS 0 sh49be (x', ()))) :
    xloop2 Try.prog {} 5 49 1 lc49b (fun _ => some (sh49be, 0)) (fun (l, _, _, i, _) => mL l i) (l, ws, x, i, ()) Q := by
  rw [v49B]
  have hl := h1.1.2
  refine fork_iff.2 ⟨fun hi => ?_, fun hi => ?_⟩
  · have hi : i < l.length := of_decide_eq_true hi
    have hn := h1.2 _ (getD_mem (show i.toNat < l.length by omega) 0)
    have hw := h3 _ (getD_mem (show i.toNat < ws.length by omega) 0)
    rw [drop_step 0 h4 hi, drop_step 0 h4 (show i < ws.length by omega), maxR] at hQ
    generalize l.getD i.toNat 0 = n at *
    generalize ws.getD i.toNat 0 = w at *
    have hm := mul_bd (show 0 ≤ n by omega) hn.2 (show 0 ≤ 64 - w by omega) (show 64 - w ≤ 64 by omega)
    refine req_iff.2 ⟨decide_eq_true ⟨h4, hi⟩, req_iff.2 ⟨decide_eq_true ⟨h4, by omega⟩, req_iff.2 ⟨inR_i64.2 (by omega), req_iff.2 ⟨inR_i64.2 (by omega), req_iff.2 ⟨inR_i64.2 (by omega), mL_lt hi, ⟨h1, h2, h3, ⟨show (0 : Int) ≤ i + 1 by omega, show i + 1 ≤ (l.length : Int) by omega⟩⟩, fun x' hx' => hQ x' ?_⟩⟩⟩⟩⟩
    have hx' : x' = maxR (l.drop (i + 1).toNat) (ws.drop (i + 1).toNat) (if n * (64 - w) > x then n * (64 - w) else x) := hx'
    rw [hx']
    congr 1
    split <;> omega
  · have hi : ¬ i < l.length := of_decide_eq_false hi
    rw [drop_end hi, maxR] at hQ
    · exact hQ x rfl
    · exact fun _ _ _ _ h => nomatch h
theorem ok49B : Lp2Ok Try.prog 49 1 lc49b := lp2_of (n := 5) (ex := fun _ => some (sh49be, 0)) (m := fun (l, _, _, i, _) => mL l i) (good2_nil _) fun (l, ws, x, i, ()) Q hx => by
  obtain ⟨⟨h1, h2, h3, h4⟩, hQ⟩ := hx
  exact h49B l ws x i Q h1 h2 h3 h4.1 h4.2 hQ
theorem h49 (l ws : List Int) (K : dens [I, E] → Prop) (h1 : l.length ≤ big) (h2 : ws.length ≤ big) (hK : ∀ n e, (n, e) = riskV l ws → K (n, e, ())) : xfn1 Try.prog { f := [(90, fc89), (24, fc24w)], l2 := [(49, 0, lc49a), (49, 1, lc49b)] } 5 49 fc48 (l, ws, ()) K := by
  rw [v49F]
  have bad : ¬ (okW l ∧ ws.length = l.length ∧ ws.all inW = true ∧ ws.sum = 64) → K ((0 : Int), (103 : Int), ()) := fun h => hK _ _ (by rw [riskV, if_neg h])
  have pre : ws.length ≤ 9223372036854775807 ∧ (0 : Int) ≤ 0 ∧ (0 : Int) ≤ (ws.length : Int) := ⟨h2, Int.le_refl 0, by omega⟩
  simp only [List.drop_zero, Bool.false_and]
  refine ⟨h1, fun c hc => fork_iff.2 ⟨fun g => ?_, fun g => ⟨pre, fun r hr => ?_⟩⟩⟩
  · have h : okW l := of_decide_eq_true (by rw [← hc, g])
    have hl := h.1.2
    refine fork_iff.2 ⟨fun e => ⟨h2, fun n hn => ⟨pre, fun r hr => fork_not (fun f => bad fun k => ?_) fun f => ?_⟩⟩, fun e => ⟨pre, fun r hr => ?_⟩⟩
    · have hs := hn (by have := k.2.1; omega) k.2.2.1
      rw [hs, k.2.2.2, k.2.2.1, f] at hr; simp at hr
    · have e : ws.length = l.length := by have : ((ws.length : Nat) : Int) = (l.length : Int) := by simpa using e
                                          omega
      rw [f] at hr
      have hr := hr.symm
      rw [Bool.and_eq_true, beq_iff_eq] at hr
      have hs : ws.sum = 64 := by rw [← hn (by omega) hr.2]; exact hr.1
      exact ⟨⟨h, e, fun w hw => inW_iff.1 (List.all_eq_true.1 hr.2 w hw), Int.le_refl 0, show (0 : Int) ≤ (l.length : Int) by omega⟩, fun x' hx' => hK _ _ (by rw [riskV, if_pos ⟨h, e, hr.2, hs⟩, hx'])⟩
    · subst hr
      exact fork_not (fun _ => bad fun k => by rw [k.2.1] at e; simp at e) fun f => by cases f
  · subst hr
    exact fork_not (fun _ => bad fun k => (of_decide_eq_false (by rw [← hc, g] : decide (okW l) = false)) k.1) fun f => by cases f
theorem ok49 : FnOk Try.prog 49 fc48 := fn1_of (n := 5) (((((good2_nil _).addL2 ok49B).addL2 ok49A).addF ok24w).addF ok90) fun (l, ws, ()) K hx => by
  obtain ⟨⟨h1, h2⟩, hK⟩ := hx
  exact h49 l ws K h1 h2 hK
theorem h13 (l ws : List Int) (r : Int) (K : dens [.b] → Prop) (h1 : l.length ≤ big) (h2 : ws.length ≤ big) (h3 : r ≤ 9223372036854775807) (hK : K (true, ())) : xfn1 Try.prog { f := [(52, fc52), (48, fc48), (49, fc48), (50, fc50), (51, fc50), (53, fc53), (19, fcWorks)] } 5 13 fc13 (l, ws, r, ()) K := by
  rw [v13F]
  refine ⟨⟨h1, h2⟩, fun n e g1 => ⟨⟨h1, h2⟩, fun n2 e2 g2 => ?_⟩⟩
  have g := g1.trans g2.symm
  injection g with ga gb
  subst ga gb
  refine fork_iff.2 ⟨fun c => by simp at c, fun _ => fork_iff.2 ⟨fun c => by simp at c, fun _ => ⟨⟨h1, h3⟩, fun n3 e3 g3 => ⟨⟨h1, h3⟩, fun n4 e4 g4 => ?_⟩⟩⟩⟩
  have g := g3.trans g4.symm
  injection g with ga gb
  subst ga gb
  refine fork_iff.2 ⟨fun c => by simp at c, fun _ => fork_iff.2 ⟨fun c => by simp at c, fun _ => ⟨h1, fun w r5 e5 hp => ?_⟩⟩⟩
  rcases hp with ⟨hno, rfl, rfl, rfl⟩ | ⟨h, hr, hw, rfl⟩
  · refine ⟨⟨h1, by decide⟩, fun n6 e6 g6 => fork_iff.2 ⟨fun _ => ⟨⟨h1, by decide⟩, fun n7 e7 g7 => ?_⟩, fun c => absurd c (by decide)⟩⟩
    rw [needV, if_neg hno] at g7
    injection g7 with ga gb
    subst ga gb
    exact fork_iff.2 ⟨fun _ => fork_iff.2 ⟨fun _ => fork_iff.2 ⟨fun _ => fork_iff.2 ⟨fun _ => hK, fun c => absurd c (by decide)⟩, fun c => absurd c (by decide)⟩, fun c => absurd c (by decide)⟩, fun c => absurd c (by decide)⟩
  · have hrk := pat_risk h hr
    rw [← hw] at hrk
    have hwl : w.length = l.length := by rw [hw, addH_len, needW_len]
    have hl6 := h.1.2
    refine ⟨⟨h1, by omega⟩, fun n6 e6 g6 => fork_iff.2 ⟨fun c => absurd c (by decide), fun _ => ?_⟩⟩
    rw [hrk] at g6
    injection g6 with ga gb
    subst ga gb
    refine fork_iff.2 ⟨fun _ => fork_iff.2 ⟨fun _ => ⟨h, fun r8 h8 => ?_⟩, fun c => by simp at c⟩, fun c => absurd c (by decide)⟩
    have := leastR_uniq h hr h8
    subst this
    exact fork_iff.2 ⟨fun _ => hK, fun c => by simp at c⟩
theorem ok13 : FnOk Try.prog 13 fc13 := fn1_of (n := 5) ((((((((good2_nil _).addF okWorks).addF ok53).addF ok51).addF ok50).addF ok49).addF ok48).addF ok52) fun (l, ws, r, ()) K hx => by
  obtain ⟨⟨h1, h2, h3⟩, hK⟩ := hx
  exact h13 l ws r K h1 h2 h3 hK
end Go.P10
