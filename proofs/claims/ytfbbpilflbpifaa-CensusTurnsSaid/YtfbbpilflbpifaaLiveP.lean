/- Turns: the reference keeps the contracts: a day, Keeps, numbers of ages. No conditions. -/
import Derived.Test.YtfbbpilflbpifaaLiveL
import Derived.Test.YtfbbpilflbpifaaOrdP
set_option linter.constructorNameAsVariable false
set_option linter.unusedVariables false
set_option linter.unusedSimpArgs false
set_option maxRecDepth 100000
set_option maxHeartbeats 4000000
namespace Go.P10
open Go.Lom Go.Proofs Go
theorem okP8_and {n : Int} (h : 1 ≤ n) : decide (n ≤ 8) = okP8 n := by
  unfold okP8
  by_cases d : n ≤ 8
  · rw [decide_eq_true d, decide_eq_true ⟨h, d⟩]
  · rw [decide_eq_false d, decide_eq_false fun q => d q.2]
theorem h83L (l : List Int) (ok : Bool) (i : Int) (Q : LQ) (h1 : l.length ≤ big) (h2 : 0 ≤ i ∧ i ≤ l.length) (hQ : ∀ b : Bool, b = (ok && (l.drop i.toNat).all okP8) → Q (.exit 0) (stS 0 (S [(3, .v .b)]) (b, ()))) :
    xloop2 Try.prog { nm := true } 5 83 0 lc83 (fun _ => some (S [(3, .v .b)], 0)) (fun (l, _, i, _) => mL l i) (l, ok, i, ()) Q := by
  rw [v83L]
  have hbig : (big : Int) = 9223372036854775807 := rfl
  refine fork_iff.2 ⟨fun hi => ?_, fun hi => ?_⟩
  · have hi : i < l.length := of_decide_eq_true hi
    rw [drop_step 0 h2.1 hi, List.all_cons] at hQ
    have nx : ∀ b : Bool, b = (ok && okP8 (l.getD i.toNat 0)) → req (inR .i64 (i + 1)) (mL l (i + 1) < mL l i ∧ lc83.spec (l, b, i + 1, ()) Q) := fun b hb =>
      req_iff.2 ⟨inR_i64.2 (by omega), mL_lt hi, ⟨h1, show (0 : Int) ≤ i + 1 by omega, show i + 1 ≤ (l.length : Int) by omega⟩, fun r hr => hQ r (by rw [hr, hb, Bool.and_assoc])⟩
    refine fork_iff.2 ⟨fun ho => req_iff.2 ⟨decide_eq_true ⟨h2.1, hi⟩, fork_iff.2 ⟨fun c => nx _ ?_, fun c => nx _ ?_⟩⟩, fun ho => nx _ (by rw [ho]; rfl)⟩
    · rw [ho, Bool.true_and, okP8_and (of_decide_eq_true c)]
    · have c := of_decide_eq_false c
      unfold okP8
      rw [decide_eq_false fun q => c q.1, Bool.and_false]
  · have hi : ¬ i < l.length := of_decide_eq_false hi
    rw [drop_end hi] at hQ
    exact hQ ok (by simp)
theorem ok83L : Lp2Ok Try.prog 83 0 lc83 := lp2_of (n := 5) (ex := fun _ => some (S [(3, .v .b)], 0)) (m := fun (l, _, i, _) => mL l i) (good2_nilN _) fun (l, ok, i, ()) Q hx => by
  obtain ⟨⟨h1, h2⟩, hQ⟩ := hx
  exact h83L l ok i Q h1 h2 hQ
theorem h83 (l : List Int) (K : dens [.b] → Prop) (h1 : l.length ≤ big) (hK : ∀ b : Bool, b = decide (okPs l) → K (b, ())) : xfn1 Try.prog { nm := true, l2 := [(83, 0, lc83)] } 5 83 fc83 (l, ()) K := by
  rw [v83F]
  have pre : l.length ≤ 9223372036854775807 ∧ (0 : Int) ≤ 0 ∧ (0 : Int) ≤ (l.length : Int) := ⟨h1, Int.le_refl 0, by omega⟩
  have hall : l.all okP8 = true ↔ ∀ n ∈ l, 1 ≤ n ∧ n ≤ 8 := by simp [okP8, List.all_eq_true]
  refine fork_iff.2 ⟨fun a => ⟨pre, fun b hb => hK b ?_⟩, fun a => ⟨pre, fun b hb => hK b ?_⟩⟩
  · have a : (1 : Int) ≤ (l.length : Int) := of_decide_eq_true a
    rw [List.drop_zero] at hb
    rw [hb]
    by_cases h : okPs l
    · rw [decide_eq_true h, hall.2 h.2, decide_eq_true (show (l.length : Int) ≤ 5 by have := h.1.2; omega)]; rfl
    · rw [decide_eq_false h]
      by_cases h5 : (l.length : Int) ≤ 5
      · rw [decide_eq_true h5, Bool.true_and, Bool.eq_false_iff]
        intro ha
        exact h ⟨⟨by omega, by omega⟩, hall.1 ha⟩
      · rw [decide_eq_false h5]; rfl
  · have a : ¬ (1 : Int) ≤ (l.length : Int) := of_decide_eq_false a
    rw [hb, Bool.false_and, decide_eq_false fun h => by have := h.1.1; omega]
theorem ok83 : FnOk Try.prog 83 fc83 := fn1_of (n := 5) ((good2_nilN _).addL2 ok83L) fun (l, ()) K hx => h83 l K hx.1 hx.2
theorem h84L (ps xs : List Int) (r : Int) (o : List Int) (i : Int) (Q : LQ) (h1 : ps.length = xs.length) (h2 : smX xs) (h3 : 0 ≤ i ∧ i ≤ xs.length) (h4 : (o.length : Int) = i) (hQ : ∀ y, y = afterL r (ps.drop i.toNat) (xs.drop i.toNat) i → (∀ ys, y = some ys → Q (.exit 0) (stS 1 (S [(8, .own 0 I)]) (o ++ ys, ()))) ∧ (y = none → Q .ret (stS 0 (S [(6, .v L), (7, .v .b)]) ([], false, ())))) :
    xloop2 Try.prog { nm := true } 5 84 0 lc84 ex84 (fun (_, xs, _, _, i, _) => mL xs i) (ps, xs, r, o, i, ()) Q := by
  rw [v84L]
  have hl := h2.1
  have t0 : decide (0 + o.length ≤ o.length) = true := decide_eq_true (by omega)
  refine fork_iff.2 ⟨fun hi => ?_, fun hi => ?_⟩
  · have hi : i < xs.length := of_decide_eq_true hi
    have hx := h2.2 _ (getD_mem (show i.toNat < xs.length by omega) 0)
    rw [drop_step 0 h3.1 (show i < ps.length by omega), drop_step 0 h3.1 hi, afterL] at hQ
    have hin : decide (0 ≤ i ∧ i < (ps.length : Int)) = true := decide_eq_true ⟨h3.1, by omega⟩
    have nx : ∀ v : Int, stepI (xs.getD i.toNat 0) i r = v → fork (decide (v ≥ ps.getD i.toNat 0)) (Q .ret (stS 0 (S [(6, .v L), (7, .v .b)]) ([], false, ()))) (req (decide (0 + o.length ≤ o.length)) (req (fitsN (o.length + 1) 8) (∀ ys : List Int, ys = seg 0 o.length o ++ [v] → req (inR .i64 (i + 1)) (req (decide (0 + (o.length + 1) ≤ ys.length)) (mL xs (i + 1) < mL xs i ∧ lc84.spec (ps, xs, r, seg 0 (o.length + 1) ys, i + 1, ()) Q))))) := fun v hv => by
      rw [hv] at hQ
      refine fork_iff.2 ⟨fun c => ?_, fun c => ?_⟩
      · rw [if_pos (of_decide_eq_true c)] at hQ
        exact (hQ _ rfl).2 rfl
      · rw [if_neg (of_decide_eq_false c)] at hQ
        refine req_iff.2 ⟨t0, req_iff.2 ⟨fitsM (by omega), fun ys hys => req_iff.2 ⟨inR_i64.2 (by omega), ?_⟩⟩⟩
        rw [seg_self] at hys
        have hyl : ys.length = o.length + 1 := by rw [hys]; simp
        have hsg : seg 0 (o.length + 1) ys = ys := by rw [← hyl]; exact seg_self ys
        rw [hsg]
        refine req_iff.2 ⟨decide_eq_true (by omega), mL_lt hi, ⟨h1, h2, ⟨show (0 : Int) ≤ i + 1 by omega, show i + 1 ≤ (xs.length : Int) by omega⟩, show (ys.length : Int) = i + 1 by omega⟩, fun y hy => ?_⟩
        have := hQ _ rfl
        rw [← hy] at this
        refine ⟨fun zs hz => ?_, fun hz => this.2 (by rw [hz]; rfl)⟩
        have q := this.1 (v :: zs) (by rw [hz]; rfl)
        rw [hys, List.append_assoc]
        exact q
    refine req_iff.2 ⟨decide_eq_true ⟨h3.1, hi⟩, req_iff.2 ⟨inR_i64.2 (by omega), fork_iff.2 ⟨fun c => ?_, fun c => ?_⟩⟩⟩
    · have c : i = r := by simpa using c
      exact req_iff.2 ⟨hin, nx 0 (by unfold stepI; rw [if_pos c])⟩
    · have c : ¬ i = r := by simpa using c
      exact req_iff.2 ⟨hin, nx _ (by unfold stepI; rw [if_neg c])⟩
  · have hi : ¬ i < xs.length := of_decide_eq_false hi
    rw [drop_end (l := ps) (by omega), drop_end hi] at hQ
    have := (hQ _ rfl).1 [] rfl
    rw [List.append_nil] at this
    rw [seg_self]
    exact req_iff.2 ⟨t0, this⟩
theorem ok84L : Lp2Ok Try.prog 84 0 lc84 := lp2_of (n := 5) (ex := ex84) (m := fun (_, xs, _, _, i, _) => mL xs i) (good2_nilN _) fun (ps, xs, r, o, i, ()) Q hx => by
  obtain ⟨⟨h1, h2, h3, h4⟩, hQ⟩ := hx
  exact h84L ps xs r o i Q h1 h2 h3 h4 hQ
theorem ok84 : FnOk Try.prog 84 fc84 := fn1_of (n := 5) ((good2_nilN _).addL2 ok84L) fun (ps, xs, r, ()) K hx => by
  obtain ⟨⟨h1, h2⟩, hK⟩ := hx
  have hK : ∀ (l : List Int) (b : Bool), (if b = true then some l else none) = afterL r ps xs 0 → (b = false → l = []) → K (l, b, ()) := hK
  rw [v84F]
  refine ⟨⟨h1, h2, ⟨Int.le_refl 0, show (0 : Int) ≤ (xs.length : Int) by omega⟩, rfl⟩, fun y hy => ?_⟩
  rw [List.drop_zero, List.drop_zero] at hy
  refine ⟨fun ys hys => ?_, fun hn => hK [] false (by rw [← hy, hn]; rfl) fun _ => rfl⟩
  rw [List.nil_append, seg_self]
  exact req_iff.2 ⟨decide_eq_true (by omega), hK ys true (by rw [← hy, hys]; rfl) fun h => by cases h⟩
theorem any_stepT {p : Int → Bool} {d : List Int} {i : Int} (h0 : 0 ≤ i) (h1 : i < d.length) : (d.drop i.toNat).any p = (p (d.getD i.toNat 0) || (d.drop (i + 1).toNat).any p) := by
  rw [drop_step 0 h0 h1, List.any_cons]
theorem h43A (ps ts : List Int) (ok : Bool) (i : Int) (Q : LQ) (h1 : ps.length ≤ big) (h1' : ts.length ≤ big) (h2 : 0 ≤ i ∧ i ≤ ts.length) (hQ : ∀ b : Bool, b = (ok && !(ts.drop i.toNat).any (roomB ps)) → Q (.exit 0) (stS 0 sh43ae (ps, ts, b, ()))) :
    xloop2 Try.prog { nm := true } 5 43 0 lc43a (fun _ => some (sh43ae, 0)) (fun (_, ts, _, i, _) => mL ts i) (ps, ts, ok, i, ()) Q := by
  rw [v43A]
  have hbig : (big : Int) = 9223372036854775807 := rfl
  refine fork_iff.2 ⟨fun hi => ?_, fun hi => ?_⟩
  · have hi : i < ts.length := of_decide_eq_true hi
    rw [any_stepT h2.1 hi, Bool.not_or] at hQ
    have nx : ∀ b : Bool, b = (ok && !roomB ps (ts.getD i.toNat 0)) → req (inR .i64 (i + 1)) (mL ts (i + 1) < mL ts i ∧ lc43a.spec (ps, ts, b, i + 1, ()) Q) := fun b hb =>
      req_iff.2 ⟨inR_i64.2 (by omega), mL_lt hi, ⟨⟨h1, h1'⟩, show (0 : Int) ≤ i + 1 by omega, show i + 1 ≤ (ts.length : Int) by omega⟩, fun r hr => hQ r (by rw [hr, hb, Bool.and_assoc])⟩
    refine fork_iff.2 ⟨fun ho => req_iff.2 ⟨decide_eq_true ⟨h2.1, hi⟩, req_iff.2 ⟨inR_i64.2 (by omega), fork_iff.2 ⟨fun c => nx _ ?_, fun c => nx _ ?_⟩⟩⟩, fun ho => nx _ (by rw [ho]; rfl)⟩
    · have c := of_decide_eq_true c
      rw [ho, Bool.true_and]
      unfold roomB
      rw [Bool.not_not]
      by_cases d : ts.getD i.toNat 0 ≤ (ps.length : Int) - 1
      · rw [decide_eq_true d, decide_eq_true ⟨c, d⟩]
      · rw [decide_eq_false d, decide_eq_false fun q => d q.2]
    · have c := of_decide_eq_false c
      unfold roomB
      rw [decide_eq_false fun q => c q.1, Bool.not_false, Bool.not_true, Bool.and_false]
  · have hi : ¬ i < ts.length := of_decide_eq_false hi
    rw [drop_end hi] at hQ
    exact hQ ok (by simp)
theorem ok43A : Lp2Ok Try.prog 43 0 lc43a := lp2_of (n := 5) (ex := fun _ => some (sh43ae, 0)) (m := fun (_, ts, _, i, _) => mL ts i) (good2_nilN _) fun (ps, ts, ok, i, ()) Q hx => by
  obtain ⟨⟨h1, h2⟩, hQ⟩ := hx
  exact h43A ps ts ok i Q h1.1 h1.2 h2 hQ
theorem h43B (ps ts xs : List Int) (i : Int) (Q : LQ) (h1 : okPs ps) (h2 : vldL ps xs) (h3 : ts.length ≤ 64) (h4 : 0 ≤ i ∧ i ≤ ts.length) (q1 : walkL ps xs (ts.drop i.toNat) = true → Q (.exit 2) (stS 0 .nil ())) (q2 : walkL ps xs (ts.drop i.toNat) = false → Q .ret (stS 0 (S [(4, .v .b), (5, .v I)]) (false, 0, ()))) :
    xloop2 Try.prog { nm := true, f := [(84, fc84)] } 5 43 1 lc43b ex43b (fun (_, ts, _, i, _) => mL ts i) (ps, ts, xs, i, ()) Q := by
  rw [v43B]
  refine fork_iff.2 ⟨fun hi => ?_, fun hi => ?_⟩
  · have hi : i < ts.length := of_decide_eq_true hi
    rw [drop_step 0 h4.1 hi, walkL] at q1 q2
    refine req_iff.2 ⟨decide_eq_true ⟨h4.1, hi⟩, ⟨h2.1.symm, vld_sm h1 h2⟩, fun l b hb _ => ?_⟩
    rw [← hb] at q1 q2
    cases b with
    | false => exact fork_iff.2 ⟨fun _ => q2 rfl, fun c => absurd c (by decide)⟩
    | true => exact fork_iff.2 ⟨fun c => absurd c (by decide), fun _ => req_iff.2 ⟨inR_i64.2 (by omega), mL_lt hi, ⟨h1, after_vld h1 h2 hb.symm, h3, ⟨show (0 : Int) ≤ i + 1 by omega, show i + 1 ≤ (ts.length : Int) by omega⟩⟩, q1, q2⟩⟩
  · have hi : ¬ i < ts.length := of_decide_eq_false hi
    rw [drop_end hi] at q1
    exact q1 rfl
theorem ok43B : Lp2Ok Try.prog 43 1 lc43b := lp2_of (n := 5) (ex := ex43b) (m := fun (_, ts, _, i, _) => mL ts i) ((good2_nilN _).addF ok84) fun (ps, ts, xs, i, ()) Q hx => by
  obtain ⟨⟨h1, h2, h3, h4⟩, q1, q2⟩ := hx
  exact h43B ps ts xs i Q h1 h2 h3 h4 q1 q2
theorem mk_ok5 {n : Nat} (h : n ≤ 5) : decide (0 ≤ (n : Int) ∧ (n : Int) ≤ (n : Int) ∧ 8 * (n : Int) ≤ 281474976710656 ∧ (n : Int) ≤ 281474976710656) = true := decide_eq_true (by omega)
theorem seg_rep {n : Nat} : seg 0 n (List.replicate n (0 : Int)) = List.replicate n 0 := seg_len0' (by simp)
where
  seg_len0' {l : List Int} (h : l.length = n) : seg 0 n l = l := by rw [← h]; exact seg_self l
theorem h43 (ps ts : List Int) (K : dens [.b, E] → Prop) (h1 : ps.length ≤ big) (h2 : ts.length ≤ big) (hK : ∀ b e, (b, e) = keepsV ps ts → K (b, e, ())) : xfn1 Try.prog { nm := true, f := [(83, fc83)], l2 := [(43, 0, lc43a), (43, 1, lc43b)] } 5 43 fc42 (ps, ts, ()) K := by
  rw [v43F]
  have bad : ¬ okTs ps ts → K (false, (105 : Int), ()) := fun h => hK _ _ (by rw [keepsV, if_neg h])
  have pre : (ps.length ≤ 9223372036854775807 ∧ ts.length ≤ 9223372036854775807) ∧ (0 : Int) ≤ 0 ∧ (0 : Int) ≤ (ts.length : Int) := ⟨⟨h1, h2⟩, Int.le_refl 0, by omega⟩
  rw [seg_rep]
  refine ⟨h1, fun b hb => fork_iff.2 ⟨fun c => ⟨pre, fun b2 hb2 => fork_not (fun d => bad fun h => ?_) fun d => ?_⟩, fun c => ⟨pre, fun b2 hb2 => fork_not (fun d => bad fun h => ?_) fun d => ?_⟩⟩⟩
  · rw [List.drop_zero, h.2.2, decide_eq_true (show (ts.length : Int) ≤ 64 by have := h.2.1; omega)] at hb2
    rw [hb2] at d; cases d
  · rw [c] at hb
    have hp := of_decide_eq_true hb.symm
    rw [d] at hb2
    have hb2 := hb2.symm
    rw [List.drop_zero, Bool.and_eq_true, Bool.not_eq_true'] at hb2
    obtain ⟨t1, t2⟩ := hb2
    have t1 : (ts.length : Int) ≤ 64 := of_decide_eq_true t1
    have hw : ∀ x ∈ ts, 0 ≤ x := fun x hx => (room_range t2 x hx).1
    have he := walk_eq hp (ts := ts) (vld_zero hp) hw
    rw [zero_toA] at he
    have hv : keepsV ps ts = (walkB ps zA ts, 0) := by rw [keepsV, if_pos ⟨hp, by omega, t2⟩]
    rw [← he] at hv
    refine req_iff.2 ⟨mk_ok5 hp.1.2, req_iff.2 ⟨decide_eq_true (by simp), ⟨hp, vld_zero hp, by omega, Int.le_refl 0, show (0 : Int) ≤ (ts.length : Int) by omega⟩, fun g => hK _ _ ?_, fun g => hK _ _ ?_⟩⟩
    · rw [List.drop_zero] at g; rw [hv, g]
    · rw [List.drop_zero] at g; rw [hv, g]
  · rw [hb, decide_eq_true h.1] at c; cases c
  · rw [Bool.false_and] at hb2
    rw [hb2] at d; cases d
theorem ok43 : FnOk Try.prog 43 fc42 := fn1_of (n := 5) ((((good2_nilN _).addL2 ok43B).addL2 ok43A).addF ok83) fun (ps, ts, ()) K hx => h43 ps ts K hx.1.1 hx.1.2 hx.2
theorem h88L (ps xs : List Int) (n i : Int) (Q : LQ) (h1 : okPs ps) (h2 : vldL ps xs) (h3 : 0 ≤ i ∧ i ≤ ps.length) (h4 : 0 ≤ n ∧ n < 8 ^ i.toNat) (hQ : ∀ r : Int, r = numL n (ps.drop i.toNat) (xs.drop i.toNat) → Q (.exit 0) (stS 0 (S [(5, .v I)]) (r, ()))) :
    xloop2 Try.prog { nm := true } 5 88 0 lc88 (fun _ => some (S [(5, .v I)], 0)) (fun (_, xs, _, i, _) => mL xs i) (ps, xs, n, i, ()) Q := by
  rw [v88L]
  have h5 := h1.1.2
  have hl := h2.1
  refine fork_iff.2 ⟨fun hi => ?_, fun hi => ?_⟩
  · have hi : i < xs.length := of_decide_eq_true hi
    have hq := h1.2 _ (getD_mem (show i.toNat < ps.length by omega) 0)
    have hx := h2.2 i.toNat (by omega)
    rw [drop_step 0 h3.1 (show i < ps.length by omega), drop_step 0 h3.1 hi, numL] at hQ
    have hp := pow5 (show i.toNat ≤ 5 by omega)
    have hp1 : (8 : Int) ^ (i + 1).toNat = 8 ^ i.toNat * 8 := by rw [show (i + 1).toNat = i.toNat + 1 by omega, Int.pow_succ]
    generalize ps.getD i.toNat 0 = p at *
    generalize xs.getD i.toNat 0 = x at *
    have m0 := Int.mul_nonneg h4.1 (show 0 ≤ p by omega)
    have m1 : (n + 1) * p ≤ 8 ^ i.toNat * 8 := Int.mul_le_mul (by omega) hq.2 (by omega) (by omega)
    rw [Int.add_mul, Int.one_mul] at m1
    refine req_iff.2 ⟨decide_eq_true ⟨h3.1, by omega⟩, req_iff.2 ⟨inR_i64.2 (by omega), req_iff.2 ⟨decide_eq_true ⟨h3.1, hi⟩, req_iff.2 ⟨inR_i64.2 (by omega), req_iff.2 ⟨inR_i64.2 (by omega), mL_lt hi, ⟨h1, h2, ⟨show (0 : Int) ≤ i + 1 by omega, show i + 1 ≤ (ps.length : Int) by omega⟩, show 0 ≤ n * p + x by omega, ?_⟩, hQ⟩⟩⟩⟩⟩
    show n * p + x < 8 ^ (i + 1).toNat
    rw [hp1]; omega
  · have hi : ¬ i < xs.length := of_decide_eq_false hi
    rw [drop_end (l := ps) (by omega), drop_end hi] at hQ
    exact hQ n rfl
theorem ok88L : Lp2Ok Try.prog 88 0 lc88 := lp2_of (n := 5) (ex := fun _ => some (S [(5, .v I)], 0)) (m := fun (_, xs, _, i, _) => mL xs i) (good2_nilN _) fun (ps, xs, n, i, ()) Q hx => by
  obtain ⟨⟨h1, h2, h3, h4⟩, hQ⟩ := hx
  exact h88L ps xs n i Q h1 h2 h3 h4 hQ
theorem ok88 : FnOk Try.prog 88 fc88 := fn1_of (n := 5) ((good2_nilN _).addL2 ok88L) fun (ps, xs, ()) K hx => by
  obtain ⟨⟨h1, h2⟩, hK⟩ := hx
  have hK : ∀ r : Int, r = numL 0 ps xs → K (r, ()) := hK
  rw [v88F]
  refine ⟨⟨h1, h2, ⟨Int.le_refl 0, show (0 : Int) ≤ (ps.length : Int) by omega⟩, Int.le_refl 0, show (0 : Int) < 1 by decide⟩, fun r hr => hK r ?_⟩
  rw [hr, List.drop_zero, List.drop_zero]
theorem h101L (ps : List Int) (n : Int) (o : List Int) (i : Int) (Q : LQ) (h1 : okPs ps) (h2 : o.length = ps.length) (h3 : 0 ≤ n) (hn : n ≤ 40000) (h4 : -1 ≤ i ∧ i < ps.length) (hQ : ∀ r : List Int, r = agesR ps o n (i + 1).toNat → Q (.exit 0) (stS 1 (S [(5, .own 0 I)]) (r, ()))) :
    xloop2 Try.prog { nm := true } 5 101 0 lc101 (fun _ => some (S [(5, .own 0 I)], 1)) (fun (_, _, _, i, _) => (i + 1).toNat) (ps, n, o, i, ()) Q := by
  rw [v101L]
  have h5 := h1.1.2
  refine fork_iff.2 ⟨fun hi => ?_, fun hi => ?_⟩
  · have hi : i ≥ 0 := of_decide_eq_true hi
    have hq := h1.2 _ (getD_mem (show i.toNat < ps.length by omega) 0)
    have e2 : Int.tdiv n (ps.getD i.toNat 0) = n / ps.getD i.toNat 0 := Int.tdiv_eq_ediv_of_nonneg h3
    have d0 : 0 ≤ n / ps.getD i.toNat 0 := Int.ediv_nonneg h3 (by omega)
    have d1 : n / ps.getD i.toNat 0 ≤ n := Int.ediv_le_self _ h3
    rw [show (i + 1).toNat = i.toNat + 1 by omega, agesR] at hQ
    have d : decide (ps.getD i.toNat 0 ≠ 0) = true := decide_eq_true (by omega)
    have hin : decide (0 ≤ i ∧ i < (ps.length : Int)) = true := decide_eq_true ⟨hi, h4.2⟩
    simp only [Nat.add_zero]
    refine req_iff.2 ⟨hin, req_iff.2 ⟨d, req_iff.2 ⟨decide_eq_true ⟨hi, by omega⟩, req_iff.2 ⟨decide_eq_true (by omega), fun ys hys => req_iff.2 ⟨hin, req_iff.2 ⟨d, req_iff.2 ⟨inR_i64.2 (by rw [e2]; omega), req_iff.2 ⟨inR_i64.2 (by omega), ?_⟩⟩⟩⟩⟩⟩⟩⟩
    have hyl : ys.length = o.length := by rw [hys]; simp
    have hsg : seg 0 o.length ys = ys := by rw [← hyl]; exact seg_self ys
    rw [hsg]
    refine req_iff.2 ⟨decide_eq_true (by omega), by omega, ⟨h1, by rw [hyl]; exact h2, ⟨by rw [e2]; exact d0, show Int.tdiv n (ps.getD i.toNat 0) ≤ (40000 : Int) by rw [e2]; omega⟩, show (-1 : Int) ≤ i - 1 by omega, show i - 1 < (ps.length : Int) by omega⟩, fun r hr => hQ r ?_⟩
    have hr : r = agesR ps ys (Int.tdiv n (ps.getD i.toNat 0)) (i - 1 + 1).toNat := hr
    rw [hr, hys, show i - 1 + 1 = i by omega]
  · have hi : ¬ i ≥ 0 := of_decide_eq_false hi
    rw [show (i + 1).toNat = 0 by omega] at hQ
    rw [seg_self]
    exact req_iff.2 ⟨decide_eq_true (by omega), hQ o rfl⟩
theorem ok101L : Lp2Ok Try.prog 101 0 lc101 := lp2_of (n := 5) (ex := fun _ => some (S [(5, .own 0 I)], 1)) (m := fun (_, _, _, i, _) => (i + 1).toNat) (good2_nilN _) fun (ps, n, o, i, ()) Q hx => by
  obtain ⟨⟨h1, h2, h3, h4⟩, hQ⟩ := hx
  exact h101L ps n o i Q h1 h2 h3.1 h3.2 h4 hQ
theorem h101 (ps : List Int) (n : Int) (K : dens [L] → Prop) (h1 : okPs ps) (h2 : 0 ≤ n) (h3 : n ≤ 40000) (hK : ∀ r : List Int, r = agesN ps n → K (r, ())) : xfn1 Try.prog { nm := true, l2 := [(101, 0, lc101)] } 5 101 fc101 (ps, n, ()) K := by
  rw [v101F]
  have hl := h1.1
  rw [seg_rep]
  refine req_iff.2 ⟨mk_ok5 hl.2, req_iff.2 ⟨inR_i64.2 (by omega), req_iff.2 ⟨decide_eq_true (by simp), ⟨h1, List.length_replicate, ⟨h2, h3⟩, show (-1 : Int) ≤ (ps.length : Int) - 1 by omega, show (ps.length : Int) - 1 < (ps.length : Int) by omega⟩, fun r hr => ?_⟩⟩⟩
  rw [seg_self]
  refine req_iff.2 ⟨decide_eq_true (by omega), hK r ?_⟩
  rw [hr, show ((ps.length : Int) - 1 + 1).toNat = ps.length by omega]; rfl
theorem ok101 : FnOk Try.prog 101 fc101 := fn1_of (n := 5) ((good2_nilN _).addL2 ok101L) fun (ps, n, ()) K hx => h101 ps n K hx.1.1 hx.1.2.1 hx.1.2.2 hx.2
theorem upTo_get {n i : Nat} (h : i < n) : (upTo n).getD i 0 = (i : Int) := by
  unfold upTo
  rw [List.getD_eq_getElem?_getD, List.getElem?_map, List.getElem?_range h]; rfl
theorem h100L (xs : List Int) (t : Int) (x : Lv) (i : Int) (Q : LQ) (h1 : okLv x) (h2 : vldL x.1 xs) (h3 : 0 ≤ i ∧ i ≤ x.1.length) (q1 : ((upTo x.1.length).drop i.toNat).any (goodN x xs t) = false → Q (.exit 0) (stS 0 .nil ())) (q2 : ((upTo x.1.length).drop i.toNat).any (goodN x xs t) = true → Q .ret (stS 0 (S [(6, .v .b)]) (true, ()))) :
    xloop2 Try.prog { nm := true, f := [(84, fc84), (88, fc88)] } 5 100 0 lc100 ex100 (fun (_, _, x, i, _) => mL x.1 i) (xs, t, x, i, ()) Q := by
  rw [v100L]
  have hp := h1.1
  have h5 := hp.1.2
  have hul := upTo_len x.1.length
  refine fork_iff.2 ⟨fun hi => ?_, fun hi => ?_⟩
  · have hi : i < x.1.length := of_decide_eq_true hi
    rw [any_stepT h3.1 (by omega), upTo_get (by omega), show ((i.toNat : Nat) : Int) = i by omega] at q1 q2
    have nx : goodN x xs t i = false → req (inR .i64 (i + 1)) (mL x.1 (i + 1) < mL x.1 i ∧ lc100.spec (xs, t, x, i + 1, ()) Q) := fun hg => by
      rw [hg, Bool.false_or] at q1 q2
      exact req_iff.2 ⟨inR_i64.2 (by omega), mL_lt hi, ⟨h1, h2, ⟨show (0 : Int) ≤ i + 1 by omega, show i + 1 ≤ (x.1.length : Int) by omega⟩⟩, q1, q2⟩
    refine ⟨⟨h2.1.symm, vld_sm hp h2⟩, fun l b hb _ => ?_⟩
    cases b with
    | false =>
      have hb : none = afterL i x.1 xs 0 := hb
      exact fork_iff.2 ⟨fun c => absurd c (by decide), fun _ => nx (by rw [goodN, ← hb])⟩
    | true =>
      have hb : some l = afterL i x.1 xs 0 := hb
      have hv := after_vld hp h2 hb.symm
      have hbd := num_bd hv
      have hlen := h1.2
      refine fork_iff.2 ⟨fun _ => ⟨⟨hp, hv⟩, fun r hr => ⟨rfl, ?_⟩⟩, fun c => absurd c (by decide)⟩
      have hg : goodN x xs t i = decide (x.2.getD r.toNat 0 ≥ t) := by rw [goodN, ← hb, hr]
      refine req_iff.2 ⟨decide_eq_true (by rw [hr, hlen]; exact hbd), fork_iff.2 ⟨fun c => ?_, fun c => nx (by rw [hg]; exact c)⟩⟩
      refine q2 ?_
      rw [hg, c]; rfl
  · have hi : ¬ i < x.1.length := of_decide_eq_false hi
    rw [drop_end (by omega)] at q1
    exact q1 rfl
theorem ok100L : Lp2Ok Try.prog 100 0 lc100 := lp2_of (n := 5) (ex := ex100) (m := fun (_, _, x, i, _) => mL x.1 i) (((good2_nilN _).addF ok88).addF ok84) fun (xs, t, x, i, ()) Q hx => by
  obtain ⟨⟨h1, h2, h3⟩, q1, q2⟩ := hx
  exact h100L xs t x i Q h1 h2 h3 q1 q2
theorem ok100 : FnOk Try.prog 100 fc100 := fn1_of (n := 5) ((good2_nilN _).addL2 ok100L) fun (x, xs, t, ()) K hx => by
  obtain ⟨⟨h1, h2⟩, hK⟩ := hx
  have hK : ∀ b : Bool, b = goesB x xs t → K (b, ()) := hK
  rw [v100F]
  refine ⟨⟨h1, h2, Int.le_refl 0, show (0 : Int) ≤ (x.1.length : Int) by omega⟩, fun g => hK _ ?_, fun g => hK _ ?_⟩
  · rw [List.drop_zero] at g; exact g.symm
  · rw [List.drop_zero] at g; exact g.symm
end Go.P10
