/- The cheapest sample: the code keeps its contracts. No conditions. -/
import Derived.Test.YtfbbpilflbpifaaLeastS
set_option linter.constructorNameAsVariable false
set_option linter.unusedVariables false
set_option linter.unusedSimpArgs false
set_option maxRecDepth 100000
set_option maxHeartbeats 4000000
namespace Go.P10
open Go.Lom Go.Proofs Go
theorem fork_badC {P Q : Prop} {x : Int} (h1 : badC x = true → P) (h2 : badC x = false → Q) : fork (decide (x ≥ 0)) (fork (!decide (x ≤ 1000)) P Q) P := by
  refine fork_iff.2 ⟨fun a => fork_iff.2 ⟨fun b => h1 ?_, fun b => h2 ?_⟩, fun a => h1 ?_⟩
  · simp only [badC, Bool.not_eq_true', decide_eq_false_iff_not, decide_eq_true_eq] at *; omega
  · simp only [badC, Bool.not_eq_false', decide_eq_true_eq] at *; omega
  · simp only [badC, Bool.not_eq_true', decide_eq_false_iff_not, decide_eq_true_eq] at *; omega
theorem ok96L73 : Lp2Ok Try.prog 96 0 (lc96 73 badC) := lp2_of (n := 5) (ex := ex96) (m := fun (l, _, m, i, _) => mL l i) (good2_nil _) fun (l, ((), ()), m, i, ()) Q hx => by
  obtain ⟨⟨h0, h1, hm, h2⟩, q1, q2⟩ := hx
  have hm : m = (l.length : Int) := hm
  subst hm
  rw [v96L73]
  exact idx_round h0 h1 h2 q1 q2 fun g1 g2 => fork_badC g1 g2
theorem idxF_neg (p : Int → Bool) : ∀ (l : List Int) (i : Int), 0 ≤ i → idxF p l i < 0 → idxF p l i = -1 := by
  intro l
  induction l with
  | nil => intro i _ _; rfl
  | cons x l ih =>
    intro i h0 h
    rw [idxF] at h ⊢
    split at h
    · omega
    · rename_i hx; rw [if_neg hx]; exact ih (i + 1) (by omega) h
theorem ok96F73 : FnOk Try.prog 96 (fc96 73 badC) := fn1_of (n := 5) ((good2_nil _).addL2 ok96L73) fun (l, ((), ()), ()) K hx => by
  obtain ⟨h1, hK⟩ := hx
  rw [v96F73]
  refine ⟨⟨Int.le_refl 0, show (0 : Int) ≤ (l.length : Int) by omega, rfl, h1⟩, ?_⟩
  rw [List.drop_zero]
  have hK : K (idxF badC l 0, ()) := hK
  refine ⟨fun h => ?_, fun _ => hK⟩
  rw [← idxF_neg badC l 0 (Int.le_refl 0) h]; exact hK
theorem ok72F73 : FnOk Try.prog 72 (fc72 73 badC) := fn1_of (n := 5) ((good2_nil _).addF ok96F73) fun (l, ((), ()), ()) K hx => by
  obtain ⟨h1, hK⟩ := hx
  rw [v72F73]
  exact ⟨h1, hK _ idx_any⟩
theorem fork_okN {P Q : Prop} {x : Int} (h1 : okN x = false → P) (h2 : okN x = true → Q) : fork (decide (x ≥ 1)) (fork (!decide (x ≤ 8)) P Q) P := by
  refine fork_iff.2 ⟨fun a => fork_iff.2 ⟨fun b => h1 ?_, fun b => h2 ?_⟩, fun a => h1 ?_⟩
  · simp only [okN, Bool.not_eq_true', decide_eq_false_iff_not, decide_eq_true_eq] at *; omega
  · simp only [okN, Bool.not_eq_false', decide_eq_true_eq] at *; omega
  · simp only [okN, decide_eq_false_iff_not] at *; omega
theorem h28L (a : Au) (s i : Int) (Q : LQ) (h0 : 0 ≤ i) (h1 : i ≤ (a.1.length : Int)) (h2 : a.1.length ≤ big) (hs : a.1.length ≤ 4 → 0 ≤ s ∧ s ≤ 8 * i) (q1 : (a.1.drop i.toNat).all okN = true → ∀ z : Int, (a.1.length ≤ 4 → z = s + (a.1.drop i.toNat).sum) → Q (.exit 0) (stS 1 sh28e (a, z, ()))) (q2 : (a.1.drop i.toNat).all okN = false → Q .ret (stS 0 shE2 (100, ()))) :
    xloop2 Try.prog { wr := true } 5 28 0 lc28 ex28 (fun (_, _, l, m, i, _) => mL l i) (a, s, a.1, (a.1.length : Int), i, ()) Q := by
  rw [v28L]
  refine fork_iff.2 ⟨fun hi => ?_, fun hi => ?_⟩
  · have hi : i < a.1.length := of_decide_eq_true hi
    rw [drop_step 0 h0 hi] at q1 q2
    have e1 : wrapA .i64 (i + 1) = i + 1 := wrapA_in (inR_i64.2 (by unfold big at h2; omega))
    refine req_iff.2 ⟨decide_eq_true ⟨h0, hi⟩, fork_okN (fun hp => ?_) fun hp => ?_⟩
    · exact q2 (by rw [List.all_cons, hp]; rfl)
    · rw [e1]
      have hp2 : 1 ≤ a.1.getD i.toNat 0 ∧ a.1.getD i.toNat 0 ≤ 8 := of_decide_eq_true hp
      have hw : a.1.length ≤ 4 → wrapA .i64 (s + a.1.getD i.toNat 0) = s + a.1.getD i.toNat 0 := fun h => wrapA_in (inR_i64.2 (by have := hs h; omega))
      refine ⟨mL_lt hi, ⟨⟨show (0 : Int) ≤ i + 1 by omega, show i + 1 ≤ (a.1.length : Int) by omega, rfl, h2⟩, rfl, fun h => ?_⟩, fun hd z hz => q1 (by rw [List.all_cons, hp]; exact hd) z fun h => ?_, fun hd => q2 (by rw [List.all_cons, hp]; exact hd)⟩
      · rw [hw h]; have := hs h; constructor
        · show (0 : Int) ≤ s + _; omega
        · show s + _ ≤ 8 * (i + 1); omega
      · rw [hz h, hw h, List.sum_cons, Int.add_assoc]
  · have hi : ¬ i < a.1.length := of_decide_eq_false hi
    rw [drop_end hi] at q1
    exact q1 rfl s fun _ => by simp
theorem ok28L : Lp2Ok Try.prog 28 0 lc28 := lp2_of (n := 5) (ex := ex28) (m := fun (_, _, l, m, i, _) => mL l i) (good2_nilW _) fun (a, s, l, m, i, ()) Q hx => by
  obtain ⟨⟨⟨h0, h1, hm, h2⟩, hl, hs⟩, q1, q2⟩ := hx
  have hm : m = (l.length : Int) := hm
  have hl : l = a.1 := hl
  subst hm hl
  exact h28L a s i Q h0 h1 h2 hs q1 q2
theorem all_okN {l : List Int} : l.all okN = true ↔ ∀ n ∈ l, 1 ≤ n ∧ n ≤ 8 := by simp [okN, List.all_eq_true]
theorem any_badC {l : List Int} : l.any badC = false ↔ ∀ n ∈ l, 0 ≤ n ∧ n ≤ 1000 := by
  rw [List.any_eq_false]
  constructor
  · intro h p hp
    have := h p hp
    simp only [badC, Bool.not_eq_true', decide_eq_false_iff_not, Decidable.not_not] at this
    exact this
  · intro h p hp
    have := h p hp
    simp only [badC, Bool.not_eq_true', decide_eq_false_iff_not, Decidable.not_not]
    exact this
theorem ok28 : FnOk Try.prog 28 fc28 := fn1_of (n := 5) (((good2_nil _).addL2 ok28L).addF ok72F73) fun (a, ()) K hx => by
  obtain ⟨⟨h1, h2⟩, hK⟩ := hx
  have h1 : a.1.length ≤ big := h1
  have h2 : a.2.1.length ≤ big := h2
  have hy : okA a → K ((0 : Int), ()) := fun h => hK 0 (fun _ => rfl) fun g => absurd h g
  have hn : ¬ okA a → K ((100 : Int), ()) := fun h => hK 100 (fun g => absurd g h) fun _ => rfl
  rw [v28F]
  refine ⟨⟨⟨Int.le_refl 0, show (0 : Int) ≤ (a.1.length : Int) by omega, rfl, h1⟩, rfl, fun _ => ⟨Int.le_refl 0, Int.le_refl 0⟩⟩, fun hd (z : Int) hz => ⟨h2, fun b hb => ?_⟩, fun hd => hn fun h => ?_⟩
  · rw [List.drop_zero] at hd hz
    have hz : a.1.length ≤ 4 → z = 0 + a.1.sum := hz
    subst hb
    have hst := all_okN.1 hd
    refine fork_iff.2 ⟨fun hc => hn fun h => ?_, fun hc => ?_⟩
    · rw [any_badC.2 h.2.2.1] at hc; cases hc
    have hc := any_badC.1 hc
    refine fork_iff.2 ⟨fun a1 => fork_iff.2 ⟨fun b1 => hn fun h => ?_, fun b1 => fork_iff.2 ⟨fun c1 => hn fun h => ?_, fun c1 => fork_iff.2 ⟨fun d1 => fork_iff.2 ⟨fun e1 => hn fun h => ?_, fun e1 => fork_iff.2 ⟨fun f1 => fork_iff.2 ⟨fun g1 => hn fun h => ?_, fun g1 => hy ?_⟩, fun f1 => hn fun h => ?_⟩⟩, fun d1 => hn fun h => ?_⟩⟩⟩, fun a1 => hn fun h => ?_⟩
    · have := h.1.1.2; simp only [Bool.not_eq_true', decide_eq_false_iff_not] at b1; omega
    · have := h.2.1; simp only [bne_iff_ne, ne_eq] at c1; omega
    · have := h.2.2.2.1.2; have := h.1.1.2; simp only [Bool.not_eq_true', decide_eq_false_iff_not] at e1; have := hz (by omega); omega
    · have := h.2.2.2.2.2; simp only [Bool.not_eq_true', decide_eq_false_iff_not] at g1; omega
    · simp only [Bool.not_eq_false', decide_eq_true_eq, bne_eq_false_iff_eq] at a1 b1 c1 d1 e1 f1 g1
      have := hz (by omega)
      exact ⟨⟨⟨by omega, by omega⟩, hst⟩, by omega, hc, ⟨d1, by omega⟩, ⟨f1, g1⟩⟩
    · have := h.2.2.2.2.1; simp only [decide_eq_false_iff_not] at f1; omega
    · have := h.2.2.2.1.1; simp only [decide_eq_false_iff_not] at d1; omega
    · have := h.1.1.1; simp only [decide_eq_false_iff_not] at a1; omega
  · rw [List.drop_zero] at hd
    rw [all_okN.2 h.1.2] at hd; cases hd
theorem good2_un (n : Nat) : Good2 Try.prog { un := n } := ⟨fun k avs H nx R h => h.elim, fun k j σ K h => h.elim, fun e h => by simp at h, fun e h => by simp at h⟩
theorem v55 (K : dens [.ar 81 I] → Prop) : (xfn1 Try.prog { un := 1064 } 5 55 fc55 () K) = K (triC, ()) := by kernel_rfl
theorem ok55 : FnOk Try.prog 55 fc55 := fn1_of (n := 5) (good2_un 1064) fun x K hx => by
  obtain ⟨rfl, hK⟩ := hx
  rw [v55]; exact hK
theorem pow70_pos (n : Nat) : (1 : Int) ≤ 70 ^ n := by
  induction n with
  | zero => decide
  | succ n ih => rw [Int.pow_succ]; omega
theorem prodM_bd : ∀ {st : List Int} (sa lo : List Int), 0 ≤ prodM st sa lo ∧ prodM st sa lo ≤ 70 ^ st.length
  | [], sa, lo => by rw [prodM]; exact ⟨by decide, by decide⟩; all_goals exact fun _ _ _ _ _ _ h => nomatch h
  | n :: st, [], lo => by rw [prodM]; exact ⟨by decide, pow70_pos _⟩; all_goals exact fun _ _ _ _ _ _ _ h => nomatch h
  | n :: st, s :: sa, [] => by rw [prodM]; exact ⟨by decide, pow70_pos _⟩; all_goals exact fun _ _ _ _ _ _ _ _ h => nomatch h
  | n :: st, s :: sa, x :: lo => by
    have h := prodM_bd (st := st) sa lo
    have b := chs_bd (n - x) s
    have := mul_bd b.1 b.2 h.1 h.2
    rw [prodM, List.length_cons, Int.pow_succ, Int.mul_comm (70 ^ st.length)]
    exact this
theorem allM_bd : ∀ {st : List Int} (sa : List Int), 0 ≤ allM st sa ∧ allM st sa ≤ 70 ^ st.length
  | [], sa => by rw [allM]; exact ⟨by decide, by decide⟩; all_goals exact fun _ _ _ _ h => nomatch h
  | n :: st, [] => by rw [allM]; exact ⟨by decide, pow70_pos _⟩; all_goals exact fun _ _ _ _ _ h => nomatch h
  | n :: st, s :: sa => by
    have h := allM_bd (st := st) sa
    have b := chs_bd n s
    have := mul_bd b.1 b.2 h.1 h.2
    rw [allM, List.length_cons, Int.pow_succ, Int.mul_comm (70 ^ st.length)]
    exact this
theorem pow70n {n : Nat} (h : n ≤ 4) : (70 : Int) ^ n ≤ 24010000 := by
  have : n = 0 ∨ n = 1 ∨ n = 2 ∨ n = 3 ∨ n = 4 := by omega
  rcases this with h | h | h | h | h <;> rw [h] <;> decide
theorem runW_bd {st sa : List Int} (h : st.length ≤ 4) : ∀ (ls : List (List Int)) (x : W3), (-1 ≤ x.2.1 ∧ x.2.1 ≤ 24010000 ∧ 0 ≤ x.2.2 ∧ x.2.2 ≤ 24010000) → -1 ≤ (runW st sa x ls).2.1 ∧ (runW st sa x ls).2.1 ≤ 24010000 ∧ 0 ≤ (runW st sa x ls).2.2 ∧ (runW st sa x ls).2.2 ≤ 24010000
  | [], x, hx => hx
  | l :: ls, x, hx => by
    refine runW_bd h ls (updW st sa x l) ?_
    unfold updW
    have := prodM_bd (st := st) sa l
    have := allM_bd (st := st) sa
    have := pow70n h
    split
    · exact ⟨by show -1 ≤ prodM st sa l; omega, by show prodM st sa l ≤ _; omega, by show 0 ≤ allM st sa; omega, by show allM st sa ≤ _; omega⟩
    · exact hx
theorem worst_bd {a : Au} (h : okSt a.1) (sa : List Int) : -1 ≤ (worstF a sa).2.1 ∧ (worstF a sa).2.1 ≤ 24010000 ∧ 0 ≤ (worstF a sa).2.2 ∧ (worstF a sa).2.2 ≤ 24010000 :=
  runW_bd h.1.2 _ _ ⟨by decide, by decide, by decide, by decide⟩
theorem sum_le_of {l : List Int} (h : ∀ n ∈ l, 1 ≤ n ∧ n ≤ 8) : l.sum ≤ 8 * l.length := by
  induction l with
  | nil => simp
  | cons x l ih => have := ih fun n hn => h n (List.mem_cons_of_mem _ hn); have := h x List.mem_cons_self; simp only [List.sum_cons, List.length_cons]; omega
theorem h57 (a : Au) (sa : List Int) (K : dens [.b] → Prop) (h1 : okA a) (h2 : eachB a.1 sa = true) (hK : ∀ r : Bool, r = findsF a sa → K (r, ())) : xfn1 Try.prog { nm := true, f := [(67, fc67)] } 5 57 fc57 ((a, triC), sa, ()) K := by
  have hst := h1.1
  have hsum := sum_le_of hst.2
  have hl := hst.1
  have hlo := h1.2.2.2.1
  have h3 : a.2.2.1 ≤ 1000 := by omega
  have h4 : 0 ≤ a.2.2.1 := by omega
  rw [v57F]
  refine ⟨⟨hst, rfl, h2, h4, h3⟩, fun b mo al hw => ?_⟩
  have hbd := worst_bd hst sa
  rw [← hw] at hbd
  have hbd : -1 ≤ mo ∧ mo ≤ 24010000 ∧ 0 ≤ al ∧ al ≤ 24010000 := hbd
  have hs := h1.2.2.2.2
  rw [show selI ([AV.rl I a.1] ++ ([AV.rl I a.2.1] ++ ([AV.int .i64 a.2.2.1] ++ [AV.int .i64 a.2.2.2])) ++ List.flatMap (fun x => [AV.int .i64 x]) (padL 81 0 triC)) 3 = a.2.2.2 from rfl]
  have hm := mul_bd hbd.2.2.1 hbd.2.2.2 (show 0 ≤ 1000 - a.2.2.2 by omega) (show 1000 - a.2.2.2 ≤ 1000 by omega)
  have g1 : inR .i64 (1000 * mo) = true := inR_i64.2 (by omega)
  have g2 : inR .i64 (1000 - a.2.2.2) = true := inR_i64.2 (by omega)
  have g3 : inR .i64 (al * (1000 - a.2.2.2)) = true := inR_i64.2 (by omega)
  refine req_iff.2 ⟨g1, req_iff.2 ⟨g2, req_iff.2 ⟨g3, hK _ ?_⟩⟩⟩
  unfold findsF
  rw [← hw]
theorem ok57 : FnOk Try.prog 57 fc57 := fn1_of (n := 5) ((good2_nilN _).addF ok67) fun ((a, tri), sa, ()) K hx => by
  obtain ⟨⟨h1, ht, h2⟩, hK⟩ := hx
  have ht : tri = triC := ht
  subst ht
  exact h57 a sa K h1 h2 hK
end Go.P10
