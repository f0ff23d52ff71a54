/- Miss, Worst, Finds and Least: the code keeps its contracts. No conditions. -/
import Derived.Test.YtfbbpilflbpifaaMissS
set_option linter.constructorNameAsVariable false
set_option linter.unusedVariables false
set_option linter.unusedSimpArgs false
set_option maxRecDepth 100000
set_option maxHeartbeats 4000000
namespace Go.P10
open Go.Lom Go.Proofs Go
theorem h64L (l : List Int) (a : Au) (i : Int) (Q : LQ) (h1 : okA a) (h2 : l.length ≤ big) (h3 : 0 ≤ i) (h4 : i ≤ l.length)
    (q1 : (l.length = a.1.length → eachB (a.1.drop i.toNat) (l.drop i.toNat) = true) → Q (.exit 0) (stS 1 sh64e (l, (a, triC), ()))) (q2 : l.length = a.1.length → eachB (a.1.drop i.toNat) (l.drop i.toNat) = false → Q .ret (stS 0 sh64r (false, ()))) :
    xloop2 Try.prog {} 5 64 0 lc64 ex64 (fun (l, _, i, _) => mL l i) (l, (a, triC), i, ()) Q := by
  rw [v64L]
  unfold big at h2
  refine fork_iff.2 ⟨fun hi => fork_iff.2 ⟨fun he => ?_, fun he => q1 fun e => by simp [e] at he⟩, fun hi => q1 fun e => ?_⟩
  · have hi : i < l.length := of_decide_eq_true hi
    have he : l.length = a.1.length := by have : ((l.length : Nat) : Int) = (a.1.length : Int) := by simpa using he
                                          omega
    have hi2 : i < a.1.length := by omega
    rw [drop_step 0 h3 hi, drop_step 0 h3 hi2] at q1 q2
    simp only [eachB] at q1 q2
    have bad : ¬ (0 ≤ l.getD i.toNat 0 ∧ l.getD i.toNat 0 ≤ a.1.getD i.toNat 0) → Q .ret (stS 0 sh64r (false, ())) := fun h => q2 he (by rw [decide_eq_false h]; rfl)
    refine req_iff.2 ⟨decide_eq_true ⟨h3, hi⟩, req_iff.2 ⟨decide_eq_true ⟨h3, hi2⟩, fork_iff.2 ⟨fun c1 => fork_iff.2 ⟨fun c2 => bad fun h => ?_, fun c2 => ?_⟩, fun c1 => bad fun h => (of_decide_eq_false c1) h.1⟩⟩⟩
    · simp only [Bool.not_eq_true', decide_eq_false_iff_not] at c2; exact c2 h.2
    · simp only [Bool.not_eq_false', decide_eq_true_eq] at c1 c2
      have hd : decide (0 ≤ l.getD i.toNat 0 ∧ l.getD i.toNat 0 ≤ a.1.getD i.toNat 0) = true := decide_eq_true ⟨c1, c2⟩
      rw [hd] at q1 q2
      exact req_iff.2 ⟨inR_i64.2 (by omega), mL_lt hi, ⟨h1, rfl, h2, show (0 : Int) ≤ i + 1 by omega, show i + 1 ≤ (l.length : Int) by omega⟩, fun h => q1 fun e => by rw [Bool.true_and]; exact h e, fun e h => q2 e (by rw [Bool.true_and]; exact h)⟩
  · have hi : ¬ i < l.length := of_decide_eq_false hi
    rw [drop_end hi, drop_end (show ¬ i < a.1.length by omega)]; rfl
theorem ok64L : Lp2Ok Try.prog 64 0 lc64 := lp2_of (n := 5) (ex := ex64) (m := fun (l, _, i, _) => mL l i) (good2_nil _) fun (l, (a, tri), i, ()) Q hx => by
  obtain ⟨⟨h1, ht, h2, h3, h4⟩, q1, q2⟩ := hx
  have ht : tri = triC := ht
  subst ht
  exact h64L l a i Q h1 h2 h3 h4 q1 q2
theorem each_len {st l : List Int} (h : l.length ≠ st.length) : eachB st l = false := by
  cases he : eachB st l with
  | false => rfl
  | true => exact absurd (each_at he).1 h
theorem ok64 : FnOk Try.prog 64 fc64 := fn1_of (n := 5) ((good2_nil _).addL2 ok64L) fun ((a, tri), l, ()) K hx => by
  obtain ⟨⟨h1, ht, h2⟩, hK⟩ := hx
  have ht : tri = triC := ht
  subst ht
  have hK : ∀ r : Bool, r = eachB a.1 l → K (r, ()) := hK
  rw [v64F]
  refine ⟨⟨h1, rfl, h2, Int.le_refl 0, show (0 : Int) ≤ (l.length : Int) by omega⟩, fun h => hK _ ?_, fun e h => hK _ h.symm⟩
  rw [List.drop_zero, List.drop_zero] at h
  by_cases e : l.length = a.1.length
  · rw [h e, e]; simp
  · rw [each_len e]; simp; omega
theorem chk {a : Au} {e : Int} {P Q : Prop} (e1 : okA a → e = 0) (e2 : ¬ okA a → e = 100) (hP : ¬ okA a → e = 100 → P) (hQ : okA a → Q) : fork (e != 0) P Q := by
  by_cases h : okA a
  · rw [e1 h]; exact fork_iff.2 ⟨fun hc => absurd hc (by decide), fun _ => hQ h⟩
  · rw [e2 h]; exact fork_iff.2 ⟨fun _ => hP h (e2 h), fun hc => absurd hc (by decide)⟩
theorem chk0 {e : Int} {P Q : Prop} (h : e = 100) (hP : P) : fork (e != 0) P Q := by
  rw [h]; exact fork_iff.2 ⟨fun _ => hP, fun hc => absurd hc (by decide)⟩
theorem fork_not {b : Bool} {P Q : Prop} (h1 : b = false → P) (h2 : b = true → Q) : fork (!b) P Q := fork_iff.2 ⟨fun h => h1 (by simpa using h), fun h => h2 (by simpa using h)⟩
theorem lost_ok {a : Au} (h : okA a) : 0 ≤ a.2.2.1 ∧ a.2.2.1 ≤ 1000 := by
  have := sum_le_of h.1.2
  have := h.1.1
  have := h.2.2.2.1
  omega
theorem ok20 : FnOk Try.prog 20 fc20 := fn1_of (n := 5) (((((good2_nilN _).addF ok65).addF ok64).addF ok55).addF ok28) fun (a, sa, lo, ()) K hx => by
  obtain ⟨⟨hb, h2, h3⟩, hK⟩ := hx
  have hK : ∀ n m e, (n, m, e) = missF a sa lo → K (n, m, e, ()) := hK
  rw [v20F]
  refine ⟨hb, fun e e1 e2 => chk e1 e2 (fun h he => chk0 he (hK _ _ _ (by rw [missF, if_neg h, he]))) fun h => ⟨rfl, rfl, rfl, ⟨h, rfl, h2⟩, fun r hr => fork_not (fun g => hK _ _ _ ?_) fun g => ⟨⟨h, rfl, h3⟩, fun r2 hr2 => fork_not (fun g2 => hK _ _ _ ?_) fun g2 => ⟨⟨h.1, ?_, ?_, rfl⟩, fun p q hp hq => hK _ _ _ ?_⟩⟩⟩⟩
  · rw [missF, if_pos h, if_neg (by rw [← hr, g]; simp)]
  · rw [missF, if_pos h, if_pos (by rw [← hr, g]), if_neg (by rw [← hr2, g2]; simp)]
  · rw [← hr, g]
  · rw [← hr2, g2]
  · rw [missF, if_pos h, if_pos (by rw [← hr, g]), if_pos (by rw [← hr2, g2]), hp, hq]
theorem ok23 : FnOk Try.prog 23 fc23 := fn1_of (n := 5) (((((good2_nilN _).addF ok67).addF ok64).addF ok55).addF ok28) fun (a, sa, ()) K hx => by
  obtain ⟨⟨hb, h2⟩, hK⟩ := hx
  have hK : ∀ l n m e, (l, n, m, e) = worstV a sa → K (l, n, m, e, ()) := hK
  rw [v23F]
  refine ⟨hb, fun e e1 e2 => chk e1 e2 (fun h he => chk0 he (hK _ _ _ _ (by rw [worstV, if_neg h, he]))) fun h => ⟨rfl, rfl, rfl, ⟨h, rfl, h2⟩, fun r hr => fork_not (fun g => hK _ _ _ _ ?_) fun g => ⟨⟨h.1, rfl, ?_, lost_ok h⟩, fun b mo al hw => hK _ _ _ _ ?_⟩⟩⟩
  · rw [worstV, if_pos h, if_neg (by rw [← hr, g]; simp)]
  · rw [← hr, g]
  · rw [worstV, if_pos h, if_pos (by rw [← hr, g]), ← hw]
theorem ok31 : FnOk Try.prog 31 fc31 := fn1_of (n := 5) (((((good2_nilN _).addF ok57).addF ok64).addF ok55).addF ok28) fun (a, sa, ()) K hx => by
  obtain ⟨⟨hb, h2⟩, hK⟩ := hx
  have hK : ∀ b e, (b, e) = findsV a sa → K (b, e, ()) := hK
  rw [v31F]
  refine ⟨hb, fun e e1 e2 => chk e1 e2 (fun h he => chk0 he (hK _ _ (by rw [findsV, if_neg h, he]))) fun h => ⟨rfl, rfl, rfl, ⟨h, rfl, h2⟩, fun r hr => fork_not (fun g => hK _ _ ?_) fun g => ⟨⟨h, rfl, ?_⟩, fun r2 hr2 => hK _ _ ?_⟩⟩⟩
  · rw [findsV, if_pos h, if_neg (by rw [← hr, g]; simp)]
  · rw [← hr, g]
  · rw [findsV, if_pos h, if_pos (by rw [← hr, g]), hr2]
theorem leastV_of {a : Au} {s : List Int} {c e : Int} (h : LeastR a s c e) : (s, c, e) = leastV a := by
  rcases h with ⟨h, h2, h3⟩ | ⟨h, h2, h3, h4⟩
  · rw [leastV, if_pos h, ← h2, h3]
  · rw [leastV, if_neg h, h2, h3, h4]
end Go.P10
