/- Turns and Lasts of the program: the code keeps its contracts. No conditions. -/
import Derived.Test.YtfbbpilflbpifaaTurnS
set_option linter.constructorNameAsVariable false
set_option linter.unusedVariables false
set_option linter.unusedSimpArgs false
set_option maxRecDepth 100000
set_option maxHeartbeats 4000000
namespace Go.P10
open Go.Lom Go.Proofs Go
theorem idxF_cases (p : Int → Bool) : ∀ (l : List Int) (i : Int), 0 ≤ i → (idxF p l i < 0 ∧ l.any p = false) ∨ (i ≤ idxF p l i ∧ l.any p = true)
  | [], i, _ => .inl ⟨show (-1 : Int) < 0 by decide, rfl⟩
  | x :: l, i, h => by
    by_cases hx : p x = true
    · exact .inr ⟨by rw [idxF, if_pos hx]; exact Int.le_refl i, by rw [List.any_cons, hx]; rfl⟩
    · rcases idxF_cases p l (i + 1) (by omega) with ⟨a, b⟩ | ⟨a, b⟩
      · exact .inl ⟨by rw [idxF, if_neg hx]; exact a, by rw [List.any_cons, b]; simpa using hx⟩
      · exact .inr ⟨by rw [idxF, if_neg hx]; omega, by rw [List.any_cons, b, Bool.or_true]⟩
theorem fork_bad {P Q : Prop} {x : Int} (h1 : badT x = true → P) (h2 : badT x = false → Q) : fork (decide (x ≥ 1)) (fork (!decide (x ≤ 8)) P Q) P := by
  refine fork_iff.2 ⟨fun a => fork_iff.2 ⟨fun b => h1 ?_, fun b => h2 ?_⟩, fun a => h1 ?_⟩
  · simp only [badT, Bool.not_eq_true', decide_eq_false_iff_not, decide_eq_true_eq] at *; omega
  · simp only [badT, Bool.not_eq_false', decide_eq_true_eq] at *; omega
  · simp only [badT, Bool.not_eq_true', decide_eq_false_iff_not, decide_eq_true_eq] at *; omega
theorem idx_round {k : Nat} {p : Int → Bool} {l : List Int} {i : Int} {Q : LQ} {G : Prop} (h0 : 0 ≤ i) (h1 : i ≤ l.length) (h2 : l.length ≤ big)
    (q1 : idxF p (l.drop i.toNat) i < 0 → Q (.exit 0) (stS 0 .nil ())) (q2 : 0 ≤ idxF p (l.drop i.toNat) i → Q .ret (stS 0 shR4i (idxF p (l.drop i.toNat) i, ())))
    (hG : (p (l.getD i.toNat 0) = true → Q .ret (stS 0 shR4i (i, ()))) → (p (l.getD i.toNat 0) = false → req (inR .i64 (i + 1)) (mL l (i + 1) < mL l i ∧ LC2.spec (lc96 k p) (l, ((), ()), (l.length : Int), i + 1, ()) Q)) → G) :
    fork (decide (i < (l.length : Int))) (req (decide (0 ≤ i ∧ i < (l.length : Int))) G) (Q (.exit 0) (stS 0 .nil ())) := by
  refine fork_iff.2 ⟨fun hi => ?_, fun hi => ?_⟩
  · have hi : i < l.length := of_decide_eq_true hi
    rw [drop_step 0 h0 hi] at q1 q2
    refine req_iff.2 ⟨decide_eq_true ⟨h0, hi⟩, hG (fun hp => ?_) fun hp => ?_⟩
    · rw [idxF, if_pos hp] at q2
      exact q2 h0
    · rw [idxF, if_neg (by rw [hp]; simp)] at q1 q2
      exact req_iff.2 ⟨inR_i64.2 (by unfold big at h2; omega), mL_lt hi, ⟨show (0 : Int) ≤ i + 1 by omega, show i + 1 ≤ (l.length : Int) by omega, rfl, h2⟩, q1, q2⟩
  · have hi : ¬ i < l.length := of_decide_eq_false hi
    rw [drop_end hi] at q1
    exact q1 (show (-1 : Int) < 0 by decide)
theorem idx_any {p : Int → Bool} {l : List Int} : decide (idxF p l 0 ≥ 0) = l.any p := by
  rcases idxF_cases p l 0 (Int.le_refl 0) with ⟨a, b⟩ | ⟨a, b⟩
  · rw [b]; exact decide_eq_false (by omega)
  · rw [b]; exact decide_eq_true a
theorem ok96L99 : Lp2Ok Try.prog 96 0 (lc96 99 badT) := lp2_of (n := 5) (ex := ex96) (m := fun (l, _, m, i, _) => mL l i) (good2_nil _) fun (l, ((), ()), m, i, ()) Q hx => by
  obtain ⟨⟨h0, h1, hm, h2⟩, q1, q2⟩ := hx
  have hm : m = (l.length : Int) := hm
  subst hm
  rw [v96L99]
  exact idx_round h0 h1 h2 q1 q2 fun g1 g2 => fork_bad g1 g2
theorem ok96F99 : FnOk Try.prog 96 (fc96 99 badT) := fn1_of (n := 5) ((good2_nil _).addL2 ok96L99) fun (l, ((), ()), ()) K hx => by
  obtain ⟨h1, hK⟩ := hx
  rw [v96F99]
  refine ⟨⟨Int.le_refl 0, show (0 : Int) ≤ (l.length : Int) by omega, rfl, h1⟩, ?_⟩
  rw [List.drop_zero]
  have hK : K (idxF badT l 0, ()) := hK
  refine ⟨fun h => ?_, fun _ => hK⟩
  have e : idxF badT l 0 = -1 := by
    have : ∀ (l : List Int) (i : Int), 0 ≤ i → idxF badT l i < 0 → idxF badT l i = -1 := by
      intro l
      induction l with
      | nil => intro i _ _; rfl
      | cons x l ih =>
        intro i h0 h
        rw [idxF] at h ⊢
        split at h
        · omega
        · rename_i hx; rw [if_neg hx]; exact ih (i + 1) (by omega) h
    exact this l 0 (Int.le_refl 0) h
  rw [← e]; exact hK
theorem ok72F99 : FnOk Try.prog 72 (fc72 99 badT) := fn1_of (n := 5) ((good2_nil _).addF ok96F99) fun (l, ((), ()), ()) K hx => by
  obtain ⟨h1, hK⟩ := hx
  rw [v72F99]
  exact ⟨h1, hK _ idx_any⟩
theorem badT_no {ps : List Int} : ps.any badT = false ↔ ∀ p ∈ ps, 1 ≤ p ∧ p ≤ 8 := by
  rw [List.any_eq_false]
  constructor
  · intro h p hp
    have := h p hp
    simp only [badT, Bool.not_eq_true', decide_eq_false_iff_not, Decidable.not_not] at this
    exact this
  · intro h p hp
    have := h p hp
    simp only [badT, Bool.not_eq_true', decide_eq_false_iff_not, Decidable.not_not]
    exact this
theorem fork_ps {ps : List Int} {P Q : Prop} (hl : ps.length ≤ big) (h1 : ¬ okPs ps → P) (h2 : okPs ps → Q) :
    fork (decide ((ps.length : Int) ≥ 1)) (fork (!decide ((ps.length : Int) ≤ 5)) P (ps.length ≤ 9223372036854775807 ∧ ∀ b, b = ps.any badT → fork b P Q)) P := by
  refine fork_iff.2 ⟨fun a => fork_iff.2 ⟨fun b => h1 fun hp => ?_, fun b => ⟨hl, fun c hc => ?_⟩⟩, fun a => h1 fun hp => ?_⟩
  · have := hp.1.2
    simp only [Bool.not_eq_true', decide_eq_false_iff_not] at b; omega
  · subst hc
    simp only [Bool.not_eq_false', decide_eq_true_eq] at a b
    refine fork_iff.2 ⟨fun hb => h1 fun hp => ?_, fun hb => h2 ⟨⟨by omega, by omega⟩, badT_no.1 hb⟩⟩
    rw [badT_no.2 hp.2] at hb; cases hb
  · have := hp.1.1
    simp only [decide_eq_false_iff_not] at a; omega
theorem ok46 : FnOk Try.prog 46 fcLasts := fn1_of (n := 5) (((good2_nilN _).addF2 ok85).addF ok72F99) fun (ps, ()) K hx => by
  obtain ⟨hl, hK⟩ := hx
  have hK : ∀ n e, LastsR ps n e → K (n, e, ()) := hK
  rw [v46]
  refine fork_ps hl (fun hp => hK 0 105 (.inl ⟨hp, rfl, rfl⟩)) fun hp => ⟨hp, fun kl hkl => ?_⟩
  obtain ⟨v, hv, h1, h2⟩ := evR_V hkl zA .zero
  rw [hv]
  refine fork_iff.2 ⟨fun h => ?_, fun h => ?_⟩
  · have h : (0 : Int) ≤ v := of_decide_eq_true h
    exact hK v 0 (.inr (.inr ⟨hp, fun he => by have := h1.2 he; omega, h, h2 h, rfl⟩))
  · have h : ¬ (0 : Int) ≤ v := of_decide_eq_false h
    exact hK 0 4 (.inr (.inl ⟨hp, h1.1 (by omega), rfl, rfl⟩))
theorem good_iff {ps : List Int} {kl : KL} (hk : EvV ps kl) {a b : Ag} (ha : Reach ps a) {r : Nat} (hr : r < ps.length) (hb : nextR ps a r = some b) : (tmGet P5 kl b).getD 0 < 0 ↔ Ever ps b := by
  obtain ⟨v, hv, h1, _⟩ := hk b (.next ha (sucL_mem.2 ⟨r, Nat.zero_le _, hr, hb⟩))
  rw [hv]; exact h1
theorem h44R (ps : List Int) (kl : KL) (o : List Int) (a : Ag) (d i j : Int) (Q : LQ) (h0 : okPs ps) (h1 : EvV ps kl) (h2 : Reach ps a) (h3 : validA ps a) (h4 : 0 ≤ j) (h5 : j ≤ ps.length) (h6 : o.length ≤ 64)
    (hQ : ∀ o' a', FirstR ps j a o o' a' → Q (.exit 2) (stS 4 sh44re (ps, ps, kl, o', a', d, i, ()))) :
    xloop2 Try.prog { nm := true, f2 := [(82, fc82)] } 5 44 1 lc44r (fun _ => some (sh44re, 4)) (fun (ps, _, _, _, _, _, _, _, j, _) => mL ps j) (ps, ps, kl, o, a, d, i, (ps.length : Int), j, ()) Q := by
  rw [v44R]
  have hp := h0.1
  refine fork_iff.2 ⟨fun hj => ?_, fun hj => ?_⟩
  · have hj : j < ps.length := of_decide_eq_true hj
    have ej : ((j.toNat : Nat) : Int) = j := by omega
    refine ⟨⟨h0, h3, h4⟩, fun b ok hb => ?_⟩
    have nxt : ¬ goodR ps a j.toNat → LC2.spec lc44r (ps, ps, kl, o, a, d, i, (ps.length : Int), j + 1, ()) Q := fun hg =>
      ⟨⟨h0, rfl, h1, h2, h3, rfl, ⟨show (0 : Int) ≤ j + 1 by omega, show j + 1 ≤ (ps.length : Int) by omega⟩, h6⟩, fun o' a' hf => hQ o' a' (by
        rcases hf with ⟨r, r1, r2, r3, r4, r5, r6⟩ | ⟨r1, r2, r3⟩
        · refine .inl ⟨r, by have r1 : j + 1 ≤ (r : Int) := r1; omega, r2, r3, r4, fun k k1 k2 => ?_, r6⟩
          by_cases e : (k : Int) = j
          · have : k = j.toNat := by omega
            subst this; exact hg
          · exact r5 k (show j + 1 ≤ (k : Int) by omega) k2
        · refine .inr ⟨fun k k1 k2 => ?_, r2, r3⟩
          by_cases e : (k : Int) = j
          · have : k = j.toNat := by omega
            subst this; exact hg
          · exact r1 k (show j + 1 ≤ (k : Int) by omega) k2)⟩
    refine fork_iff.2 ⟨fun hok => ?_, fun hok => ?_⟩
    · rw [if_pos hok] at hb
      have hg := good_iff h1 h2 (show j.toNat < ps.length by omega) hb
      refine fork_iff.2 ⟨fun hv => ?_, fun hv => ?_⟩
      · have hev := hg.1 (of_decide_eq_true hv)
        refine ⟨rfl, req_iff.2 ⟨by simp, req_iff.2 ⟨fitsM (by omega), fun ys hys => ⟨rfl, rfl, ?_⟩⟩⟩⟩
        have ey : seg 0 (o.length + 1) ys = o ++ [j] := by rw [hys]; exact seg_app o j rfl
        have ly : ys.length = o.length + 1 := by rw [hys, seg_self]; simp
        refine req_iff.2 ⟨decide_eq_true (by omega), ?_⟩
        rw [ey]
        exact hQ _ b (.inl ⟨j.toNat, by omega, by omega, hb, hev, fun k k1 k2 => by omega, by rw [ej]⟩)
      · have hnev : ¬ Ever ps b := fun he => (of_decide_eq_false hv) (hg.2 he)
        refine req_iff.2 ⟨inR_i64.2 (by omega), req_iff.2 ⟨by simp, mL_lt hj, ?_⟩⟩
        rw [seg_self]
        refine nxt fun ⟨c, hc, he⟩ => ?_
        rw [hb] at hc; injection hc with hc; subst hc; exact hnev he
    · rw [hok, if_neg (by decide)] at hb
      refine req_iff.2 ⟨inR_i64.2 (by omega), req_iff.2 ⟨by simp, mL_lt hj, ?_⟩⟩
      rw [seg_self]
      exact nxt fun ⟨c, hc, he⟩ => by rw [hb] at hc; cases hc
  · have hj : ¬ j < ps.length := of_decide_eq_false hj
    refine req_iff.2 ⟨by simp, ?_⟩
    rw [seg_self]
    exact hQ o a (.inr ⟨fun k k1 k2 => by omega, rfl, rfl⟩)
theorem ok44R : Lp2Ok Try.prog 44 1 lc44r := lp2_of (n := 5) (ex := fun _ => some (sh44re, 4)) (m := fun (ps, _, _, _, _, _, _, _, j, _) => mL ps j) ((good2_nilN _).addF2 ok82) fun (ps, qs, kl, o, a, d, i, m, j, ()) Q hx => by
  obtain ⟨⟨h0, hq, h1, h2, h3, hm, h4, h6⟩, hQ⟩ := hx
  have hq : qs = ps := hq
  have hm : m = (ps.length : Int) := hm
  subst hq hm
  exact h44R qs kl o a d i j Q h0 h1 h2 h3 h4.1 h4.2 h6 hQ
theorem h44L (ps : List Int) (kl : KL) (o : List Int) (a : Ag) (d i : Int) (Q : LQ) (h0 : okPs ps) (h1 : EvV ps kl) (h2 : Reach ps a) (h3 : validA ps a) (h4 : Ever ps a) (h5 : 0 ≤ i) (h6 : i ≤ d) (h7 : d ≤ 64) (h8 : (o.length : Int) = i)
    (hQ : ∀ l, Gr ps (d - i).toNat a l → Q (.exit 0) (stS 4 sh44e (o ++ l, ()))) :
    xloop2 Try.prog { nm := true, l2 := [(44, 1, lc44r)] } 5 44 0 lc44 (fun _ => some (sh44e, 4)) (fun (_, _, _, _, _, d, i, _) => (d - i).toNat) (ps, ps, kl, o, a, d, i, ()) Q := by
  rw [v44L]
  refine fork_iff.2 ⟨fun hi => ?_, fun hi => ?_⟩
  · have hi : i < d := of_decide_eq_true hi
    refine req_iff.2 ⟨by simp, ⟨h0, rfl, h1, h2, h3, rfl, ⟨Int.le_refl 0, show (0 : Int) ≤ (ps.length : Int) by omega⟩, by rw [seg_self]; omega⟩, fun o' a' hf => ?_⟩
    rw [seg_self] at hf
    obtain ⟨r0, b0, g⟩ := ever_room h4
    rcases hf with ⟨r, r1, r2, r3, r4, r5, r6⟩ | ⟨r1, r2, r3⟩
    · have hg : Gr1 ps a r a' := ⟨r2, r3, r4, fun k hk => r5 k (show (0 : Int) ≤ (k : Int) by omega) hk⟩
      have lo : o'.length = o.length + 1 := by rw [r6]; simp
      refine req_iff.2 ⟨inR_i64.2 (by omega), req_iff.2 ⟨by simp, by omega, ?_⟩⟩
      rw [seg_self]
      have hs : a' ∈ sucL ps a 0 := sucL_mem.2 ⟨r, Nat.zero_le _, r2, r3⟩
      refine ⟨⟨h0, rfl, h1, .next h2 hs, nextR_valid h0 h3 r3, r4, ⟨show (0 : Int) ≤ i + 1 by omega, show i + 1 ≤ d by omega, h7⟩, show (o'.length : Int) = i + 1 by omega⟩, fun l hl => ?_⟩
      have hl : Gr ps (d - (i + 1)).toNat a' l := hl
      have hc := Gr.cons hg hl
      rw [show (d - (i + 1)).toNat + 1 = (d - i).toNat by omega] at hc
      have := hQ _ hc
      rw [show o ++ (r : Int) :: l = o' ++ l by rw [r6, List.append_assoc]; rfl] at this
      exact this
    · exact absurd ⟨b0, g.nx, g.ev⟩ (r1 r0 (show (0 : Int) ≤ (r0 : Int) by omega) g.lt)
  · have hi : ¬ i < d := of_decide_eq_false hi
    refine req_iff.2 ⟨by simp, ?_⟩
    rw [seg_self]
    have := hQ [] (by rw [show (d - i).toNat = 0 by omega]; exact .nil a)
    rw [List.append_nil] at this
    exact this
theorem ok44L : Lp2Ok Try.prog 44 0 lc44 := lp2_of (n := 5) (ex := fun _ => some (sh44e, 4)) (m := fun (_, _, _, _, _, d, i, _) => (d - i).toNat) ((good2_nilN _).addL2 ok44R) fun (ps, qs, kl, o, a, d, i, ()) Q hx => by
  obtain ⟨⟨h0, hq, h1, h2, h3, h4, h5, h8⟩, hQ⟩ := hx
  have hq : qs = ps := hq
  subst hq
  exact h44L qs kl o a d i Q h0 h1 h2 h3 h4 h5.1 h5.2.1 h5.2.2 h8 hQ
theorem ok44 : FnOk Try.prog 44 fcTurns := fn1_of (n := 5) ((((good2_nilN _).addL2 ok44L).addF2 ok85).addF ok72F99) fun (ps, d, ()) K hx => by
  obtain ⟨hl, hK⟩ := hx
  have hK : ∀ l e, TurnsR ps d l e → K (l, e, ()) := hK
  rw [v44]
  refine fork_ps hl (fun hp => hK [] 105 (.inl ⟨hp, rfl, rfl⟩)) fun hp => ?_
  have rangeE : ¬ (0 ≤ d ∧ d ≤ 64) → K ([], 7, ()) := fun hd => hK [] 7 (.inr (.inl ⟨hp, hd, rfl, rfl⟩))
  refine fork_iff.2 ⟨fun hd0 => fork_iff.2 ⟨fun hd1 => rangeE ?_, fun hd1 => ⟨hp, fun kl hkl => ?_⟩⟩, fun hd0 => rangeE ?_⟩
  · simp only [Bool.not_eq_true', decide_eq_false_iff_not, ge_iff_le, decide_eq_true_eq] at hd0 hd1; exact fun h => hd1 h.2
  · simp only [Bool.not_eq_false', ge_iff_le, decide_eq_true_eq] at hd0 hd1
    have hV := evR_V hkl
    obtain ⟨v, hv, h1, h2⟩ := hV zA .zero
    rw [hv]
    refine fork_iff.2 ⟨fun h => ?_, fun h => ?_⟩
    · have h : (0 : Int) ≤ v := of_decide_eq_true h
      exact hK [] 4 (.inr (.inr (.inl ⟨hp, ⟨hd0, hd1⟩, fun he => by have := h1.2 he; omega, rfl, rfl⟩)))
    · have h : ¬ (0 : Int) ≤ v := of_decide_eq_false h
      have hev := h1.1 (by omega)
      refine ⟨⟨hp, rfl, hV, .zero, valid_zero hp, hev, ⟨Int.le_refl 0, hd0, hd1⟩, rfl⟩, fun l hl => ?_⟩
      rw [Int.sub_zero] at hl
      rw [List.nil_append]
      refine req_iff.2 ⟨by simp, ?_⟩
      rw [seg_self]
      exact hK l 0 (.inr (.inr (.inr ⟨hp, ⟨hd0, hd1⟩, hev, hl, rfl⟩)))
  · simp only [decide_eq_false_iff_not] at hd0; exact fun h => hd0 h.1
end Go.P10
