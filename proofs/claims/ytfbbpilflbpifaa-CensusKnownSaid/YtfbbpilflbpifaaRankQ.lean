/- The rank of an order: the code keeps its contract. No conditions. -/
import Derived.Test.YtfbbpilflbpifaaRankP
set_option linter.constructorNameAsVariable false
set_option linter.unusedVariables false
set_option linter.unusedSimpArgs false
set_option maxRecDepth 100000
set_option maxHeartbeats 4000000
namespace Go.P10
open Go.Lom Go.Proofs Go
theorem lessN_cons (x a : Int) (l : List Int) : (lessN x (a :: l) : Int) = (if a < x then 1 else 0) + lessN x l := by
  unfold lessN
  rw [List.countP_cons]
  by_cases h : a < x
  · rw [if_pos h, if_pos (decide_eq_true h)]; omega
  · rw [if_neg h, if_neg (by rw [decide_eq_false h]; simp)]; omega
theorem lessN_le (x : Int) (l : List Int) : lessN x l ≤ l.length := List.countP_le_length
theorem rankL_bd : ∀ l : List Int, 0 ≤ rankL l ∧ rankL l < facI l.length
  | [] => ⟨by decide, by decide⟩
  | x :: l => by
    have ih := rankL_bd l
    have hf := fac_pos l.length
    have h1 : (lessN x l : Int) * facI l.length ≤ (l.length : Int) * facI l.length := Int.mul_le_mul_of_nonneg_right (by have := lessN_le x l; omega) (by omega)
    have h2 : 0 ≤ (lessN x l : Int) * facI l.length := Int.mul_nonneg (by omega) (by omega)
    rw [rankL, List.length_cons, facI, Int.add_mul, Int.one_mul]
    exact ⟨by omega, by omega⟩
theorem sorted_at : ∀ {s : List Int} {x : Int}, s.Pairwise (· < ·) → x ∈ s → s[lessN x s]? = some x
  | [], x, _, h => by simp at h
  | y :: s, x, hs, h => by
    rw [List.pairwise_cons] at hs
    by_cases e : x = y
    · subst e
      have h0 : lessN x (x :: s) = 0 := by
        unfold lessN
        rw [List.countP_eq_zero]
        intro z hz
        rcases List.mem_cons.1 hz with rfl | hz
        · simp
        · have := hs.1 z hz; simp; omega
      rw [h0]; rfl
    · have hx : x ∈ s := by rcases List.mem_cons.1 h with h | h; exact absurd h e; exact h
      have hy := hs.1 x hx
      have h1 : lessN x (y :: s) = lessN x s + 1 := by
        have := lessN_cons x y s
        rw [if_pos hy] at this; omega
      rw [h1, List.getElem?_cons_succ]
      exact sorted_at hs.2 hx
theorem perm_at {s : List Int} {c : Nat} {x : Int} (h : s[c]? = some x) : (x :: s.eraseIdx c).Perm s := by
  obtain ⟨hlt, hx⟩ := List.getElem?_eq_some_iff.1 h
  rw [List.eraseIdx_eq_take_drop_succ]
  refine List.perm_middle.symm.trans (List.Perm.of_eq ?_)
  rw [← hx, ← List.drop_eq_getElem_cons hlt, List.take_append_drop]
theorem take_rank : ∀ (l s : List Int), s.Pairwise (· < ·) → l.Perm s → takeR l.length s (rankL l) = l
  | [], s, _, _ => rfl
  | x :: l, s, hs, hp => by
    have hb := rankL_bd l
    have hf := fac_pos l.length
    have hx : x ∈ s := hp.mem_iff.1 List.mem_cons_self
    have hc : lessN x s = lessN x l := by
      have h1 : lessN x s = lessN x (x :: l) := (hp.countP_eq _).symm
      have := lessN_cons x x l
      rw [if_neg (by omega)] at this; omega
    have hat := sorted_at hs hx
    rw [hc] at hat
    have hdiv : ((lessN x l : Int) * facI l.length + rankL l) / facI l.length = lessN x l := by
      rw [Int.add_comm, Int.add_mul_ediv_right _ _ (by omega), Int.ediv_eq_zero_of_lt hb.1 hb.2, Int.zero_add]
    have hmod : ((lessN x l : Int) * facI l.length + rankL l) % facI l.length = rankL l := by
      rw [Int.add_comm, Int.add_mul_emod_self_right, Int.emod_eq_of_lt hb.1 hb.2]
    rw [List.length_cons, rankL, takeR, hdiv, hmod, Int.toNat_natCast]
    have hpe : (x :: s.eraseIdx (lessN x l)).Perm s := perm_at hat
    have hl : l.Perm (s.eraseIdx (lessN x l)) := List.Perm.cons_inv (hp.trans hpe.symm)
    rw [List.getD_eq_getElem?_getD, hat, take_rank l _ (hs.sublist (List.eraseIdx_sublist ..)) hl]; rfl
theorem perm_of : ∀ (l s : List Int), l.Nodup → (∀ x ∈ l, x ∈ s) → l.length = s.length → l.Perm s
  | [], s, _, _, h => by rw [List.eq_nil_of_length_eq_zero h.symm]
  | x :: l, s, hn, hm, h => by
    rw [List.nodup_cons] at hn
    have hx := hm x List.mem_cons_self
    have h1 := List.perm_cons_erase hx
    refine (List.Perm.cons x (perm_of l (s.erase x) hn.2 (fun y hy => ?_) ?_)).trans h1.symm
    · exact (List.mem_erase_of_ne (by intro e; subst e; exact hn.1 hy)).2 (hm y (List.mem_cons_of_mem _ hy))
    · rw [List.length_erase_of_mem hx]; simp at h; omega
theorem goR_iff {n : Int} : ∀ {l pre : List Int}, goR n pre l = true ↔ (∀ x ∈ l, 0 ≤ x ∧ x ≤ n - 1) ∧ l.Nodup ∧ ∀ x ∈ l, x ∉ pre
  | [], pre => by simp [goR]
  | x :: l, pre => by
    simp only [goR, Bool.and_eq_true, decide_eq_true_eq, goR_iff, Bool.not_eq_true', List.any_eq_false, beq_iff_eq, List.nodup_cons, List.mem_cons, List.mem_append, List.not_mem_nil, or_false, forall_eq_or_imp]
    constructor
    · rintro ⟨⟨h1, h2⟩, h3, h4, h5⟩
      exact ⟨⟨h1, h3⟩, ⟨fun h => h5 x h (.inr rfl), h4⟩, fun h => h2 x h rfl, fun y hy h => h5 y hy (.inl h)⟩
    · rintro ⟨⟨h1, h3⟩, ⟨h4, h5⟩, h6, h7⟩
      exact ⟨⟨h1, fun y hy e => h6 (e ▸ hy)⟩, h3, h5, fun y hy h => h.elim (h7 y hy) fun e => h4 (e ▸ hy)⟩
theorem upTo_sorted (n : Nat) : (upTo n).Pairwise (· < ·) := by
  unfold upTo
  rw [List.pairwise_map]
  exact List.pairwise_lt_range.imp fun h => by omega
theorem mem_upTo {n : Nat} {x : Int} : x ∈ upTo n ↔ 0 ≤ x ∧ x < n := by
  unfold upTo
  rw [List.mem_map]
  constructor
  · rintro ⟨k, hk, rfl⟩; have := List.mem_range.1 hk; exact ⟨by omega, by omega⟩
  · rintro ⟨h1, h2⟩; exact ⟨x.toNat, List.mem_range.2 (by omega), by omega⟩
theorem ord_rank {l : List Int} (h : goR l.length [] l = true) : ordF l.length (rankL l) = l := by
  obtain ⟨h1, h2, _⟩ := goR_iff.1 h
  unfold ordF
  rw [Int.toNat_natCast]
  exact take_rank l _ (upTo_sorted _) (perm_of l _ h2 (fun x hx => mem_upTo.2 (by have := h1 x hx; omega)) (by rw [upTo_len]))
theorem h97L (l : List Int) (v i : Int) (Q : LQ) (h0 : 0 ≤ i) (h1 : i ≤ l.length) (h2 : l.length ≤ big) (q1 : idxF (· == v) (l.drop i.toNat) i < 0 → Q (.exit 0) (stS 0 .nil ())) (q2 : 0 ≤ idxF (· == v) (l.drop i.toNat) i → Q .ret (stS 0 shR4i (idxF (· == v) (l.drop i.toNat) i, ()))) :
    xloop2 Try.prog {} 5 97 0 lc97 ex96 (fun (l, _, m, i, _) => mL l i) (l, v, (l.length : Int), i, ()) Q := by
  rw [v97L]
  refine fork_iff.2 ⟨fun hi => ?_, fun hi => ?_⟩
  · have hi : i < l.length := of_decide_eq_true hi
    rw [drop_step 0 h0 hi, idxF] at q1 q2
    refine req_iff.2 ⟨decide_eq_true ⟨h0, hi⟩, fork_iff.2 ⟨fun hp => ?_, fun hp => ?_⟩⟩
    · have e : (l.getD i.toNat 0 == v) = true := by rw [beq_iff_eq] at hp ⊢; exact hp.symm
      rw [if_pos e] at q2
      exact q2 h0
    · have e : ¬ (l.getD i.toNat 0 == v) = true := fun h => by rw [beq_iff_eq] at h; rw [h] at hp; simp at hp
      rw [if_neg e] at q1 q2
      exact req_iff.2 ⟨inR_i64.2 (by unfold big at h2; omega), mL_lt hi, ⟨show (0 : Int) ≤ i + 1 by omega, show i + 1 ≤ (l.length : Int) by omega, rfl, h2⟩, q1, q2⟩
  · have hi : ¬ i < l.length := of_decide_eq_false hi
    rw [drop_end hi] at q1
    exact q1 (show (-1 : Int) < 0 by decide)
theorem ok97L : Lp2Ok Try.prog 97 0 lc97 := lp2_of (n := 5) (ex := ex96) (m := fun (l, _, m, i, _) => mL l i) (good2_nil _) fun (l, v, m, i, ()) Q hx => by
  obtain ⟨⟨h0, h1, hm, h2⟩, q1, q2⟩ := hx
  have hm : m = (l.length : Int) := hm
  subst hm
  exact h97L l v i Q h0 h1 h2 q1 q2
theorem ok97 : FnOk Try.prog 97 fc97 := fn1_of (n := 5) ((good2_nil _).addL2 ok97L) fun (l, v, ()) K hx => by
  obtain ⟨h1, hK⟩ := hx
  rw [v97F]
  refine ⟨⟨Int.le_refl 0, show (0 : Int) ≤ (l.length : Int) by omega, rfl, h1⟩, ?_⟩
  rw [List.drop_zero]
  have hK : K (idxF (fun x => x == v) l 0, ()) := hK
  refine ⟨fun h => ?_, fun _ => hK⟩
  rw [← idxF_neg (fun x => x == v) l 0 (Int.le_refl 0) h]; exact hK
theorem ok75 : FnOk Try.prog 75 fc75 := fn1_of (n := 5) ((good2_nil _).addF ok97) fun (l, v, ()) K hx => by
  obtain ⟨h1, hK⟩ := hx
  rw [v75F]
  exact ⟨h1, hK _ idx_any⟩
theorem h35B (l : List Int) (r i x : Int) (l2 : List Int) (m i2 : Int) (t : List Int) (k : Int) (Q : LQ) (h1 : l.length ≤ 8) (h2 : 0 ≤ i) (h3 : i < l.length) (h4 : i + 1 + t.length = l.length) (h5 : 0 ≤ k) (h6 : k ≤ t.length) (h7 : 0 ≤ r) (h8 : r ≤ 40320 * (8 * i + k))
    (hQ : ∀ r' : Int, r' = r + lessN x (t.drop k.toNat) * facI t.length → Q (.exit 2) (stS 0 sh35a (l, r', l2, m, i2, ()))) :
    xloop2 Try.prog { nm := true, f := [(76, fc76)] } 5 35 1 lc35b (fun _ => some (sh35a, 0)) (fun (_, _, _, _, _, _, _, t, _, k, _) => mL t k) (l, r, i, x, l2, m, i2, t, (t.length : Int), k, ()) Q := by
  rw [v35B]
  have hf := fac8 (show t.length ≤ 8 by omega)
  have hp := fac_pos t.length
  refine fork_iff.2 ⟨fun hk => ?_, fun hk => ?_⟩
  · have hk : k < t.length := of_decide_eq_true hk
    rw [drop_step 0 h5 hk, lessN_cons] at hQ
    refine req_iff.2 ⟨decide_eq_true ⟨h5, hk⟩, fork_iff.2 ⟨fun hc => ?_, fun hc => ?_⟩⟩
    · rw [if_pos (of_decide_eq_true hc), Int.add_mul, Int.one_mul] at hQ
      refine req_iff.2 ⟨inR_i64.2 (by omega), req_iff.2 ⟨inR_i64.2 (by omega), show (l.length : Int) - 1 - i ≤ 8 by omega, fun f hfe => ?_⟩⟩
      rw [show ((l.length : Int) - 1 - i).toNat = t.length by omega] at hfe
      rw [← hfe] at hQ hf hp
      refine req_iff.2 ⟨inR_i64.2 (by omega), req_iff.2 ⟨inR_i64.2 (by omega), mL_lt hk, ⟨h1, ⟨h2, h3⟩, h4, rfl, ⟨show (0 : Int) ≤ k + 1 by omega, show k + 1 ≤ (t.length : Int) by omega⟩, show (0 : Int) ≤ r + f by omega, show r + f ≤ 40320 * (8 * i + (k + 1)) by omega⟩, fun r' hr' => hQ r' ?_⟩⟩
      have hr' : r' = r + f + lessN x (t.drop (k + 1).toNat) * facI t.length := hr'
      rw [hr', ← hfe]; omega
    · rw [if_neg (of_decide_eq_false hc), Int.zero_add] at hQ
      exact req_iff.2 ⟨inR_i64.2 (by omega), mL_lt hk, ⟨h1, ⟨h2, h3⟩, h4, rfl, ⟨show (0 : Int) ≤ k + 1 by omega, show k + 1 ≤ (t.length : Int) by omega⟩, h7, show r ≤ 40320 * (8 * i + (k + 1)) by omega⟩, hQ⟩
  · have hk : ¬ k < t.length := of_decide_eq_false hk
    rw [drop_end hk] at hQ
    exact hQ r (by simp [lessN])
theorem ok35B : Lp2Ok Try.prog 35 1 lc35b := lp2_of (n := 5) (ex := fun _ => some (sh35a, 0)) (m := fun (_, _, _, _, _, _, _, t, _, k, _) => mL t k) ((good2_nilN _).addF ok76) fun (l, r, i, x, l2, m, i2, t, m2, k, ()) Q hx => by
  obtain ⟨⟨h1, h2, h3, hm, h4, h5⟩, hQ⟩ := hx
  have hm : m2 = (t.length : Int) := hm
  subst hm
  exact h35B l r i x l2 m i2 t k Q h1 h2.1 h2.2 h3 h4.1 h4.2 h5.1 h5.2 hQ
theorem h35A (l : List Int) (r i : Int) (Q : LQ) (h1 : 1 ≤ l.length) (h2 : l.length ≤ 8) (h3 : 0 ≤ i) (h4 : i ≤ l.length) (h5 : 0 ≤ r) (h6 : r ≤ 40320 * (8 * i))
    (q1 : goR l.length (l.take i.toNat) (l.drop i.toNat) = true → ∀ r' : Int, r' = r + rankL (l.drop i.toNat) → Q (.exit 0) (stS 0 sh35e (l, r', ()))) (q2 : goR l.length (l.take i.toNat) (l.drop i.toNat) = false → Q .ret (stS 0 sh35r (0, 104, ()))) :
    xloop2 Try.prog { nm := true, f := [(75, fc75), (76, fc76)], l2 := [(35, 1, lc35b)] } 5 35 0 lc35a ex35 (fun (l, _, _, _, i, _) => mL l i) (l, r, l, (l.length : Int), i, ()) Q := by
  rw [v35A]
  refine fork_iff.2 ⟨fun hi => ?_, fun hi => ?_⟩
  · have hi : i < l.length := of_decide_eq_true hi
    rw [drop_step 0 h3 hi] at q1 q2
    rw [goR] at q1 q2
    rw [rankL] at q1
    have htk : l.take i.toNat ++ [l.getD i.toNat 0] = l.take (i + 1).toNat := by
      rw [show (i + 1).toNat = i.toNat + 1 by omega, List.take_add_one, List.getD_eq_getElem?_getD, List.getElem?_eq_getElem (by omega)]; rfl
    rw [htk] at q1 q2
    have hb : ∀ b, b = goR l.length (l.take (i + 1).toNat) (l.drop (i + 1).toNat) → True := fun _ _ => trivial
    have bad1 : ¬ (0 ≤ l.getD i.toNat 0 ∧ l.getD i.toNat 0 ≤ (l.length : Int) - 1) → Q .ret (stS 0 sh35r (0, 104, ())) := fun h => q2 (by rw [decide_eq_false h]; rfl)
    refine req_iff.2 ⟨decide_eq_true ⟨h3, hi⟩, req_iff.2 ⟨inR_i64.2 (by omega), fork_iff.2 ⟨fun c => fork_iff.2 ⟨fun d => bad1 fun h => ?_, fun d => ?_⟩, fun c => bad1 fun h => (of_decide_eq_false c) h.1⟩⟩⟩
    · simp only [Bool.not_eq_true', decide_eq_false_iff_not] at d; exact d h.2
    · have hin : 0 ≤ l.getD i.toNat 0 ∧ l.getD i.toNat 0 ≤ (l.length : Int) - 1 := ⟨of_decide_eq_true c, by simpa using d⟩
      rw [decide_eq_true hin, Bool.true_and] at q1 q2
      rw [List.drop_zero]
      refine req_iff.2 ⟨decide_eq_true ⟨by omega, h3, h4⟩, by rw [List.length_take]; omega, fun b hb => ?_⟩
      rw [← hb] at q1 q2
      refine fork_iff.2 ⟨fun hbt => q2 (by rw [hbt]; rfl), fun hbf => ?_⟩
      rw [hbf, Bool.not_false, Bool.true_and] at q1 q2
      rw [List.take_length]
      have hdl : (l.drop (i + 1).toNat).length = l.length - (i + 1).toNat := List.length_drop
      refine req_iff.2 ⟨inR_i64.2 (by omega), req_iff.2 ⟨decide_eq_true ⟨by omega, by omega, by omega⟩, ⟨h2, ⟨h3, hi⟩, show i + 1 + ((l.drop (i + 1).toNat).length : Int) = (l.length : Int) by omega, rfl, ⟨Int.le_refl 0, show (0 : Int) ≤ ((l.drop (i + 1).toNat).length : Int) by omega⟩, h5, show r ≤ 40320 * (8 * i + 0) by omega⟩, fun (r' : Int) hr' => ?_⟩⟩
      have hr' : r' = r + lessN (l.getD i.toNat 0) ((l.drop (i + 1).toNat).drop 0) * facI (l.drop (i + 1).toNat).length := hr'
      rw [List.drop_zero] at hr'
      have hfp := fac_pos (l.drop (i + 1).toNat).length
      have hf8 := fac8 (show (l.drop (i + 1).toNat).length ≤ 8 by omega)
      have hle := lessN_le (l.getD i.toNat 0) (l.drop (i + 1).toNat)
      have hm := mul_bd (show (0 : Int) ≤ (lessN (l.getD i.toNat 0) (l.drop (i + 1).toNat) : Int) by omega) (show (lessN (l.getD i.toNat 0) (l.drop (i + 1).toNat) : Int) ≤ 8 by omega) (show 0 ≤ facI (l.drop (i + 1).toNat).length by omega) hf8
      refine req_iff.2 ⟨inR_i64.2 (by omega), mL_lt hi, ⟨rfl, rfl, ⟨h1, h2⟩, ⟨show (0 : Int) ≤ i + 1 by omega, show i + 1 ≤ (l.length : Int) by omega⟩, show (0 : Int) ≤ r' by omega, show r' ≤ 40320 * (8 * (i + 1)) by omega⟩, fun hg r2 hr2 => q1 hg r2 ?_, q2⟩
      have hr2 : r2 = r' + rankL (l.drop (i + 1).toNat) := hr2
      rw [hr2, hr', Int.add_assoc]
  · have hi : ¬ i < l.length := of_decide_eq_false hi
    rw [drop_end hi] at q1
    exact q1 rfl r (by simp [rankL])
theorem ok35A : Lp2Ok Try.prog 35 0 lc35a := lp2_of (n := 5) (ex := ex35) (m := fun (l, _, _, _, i, _) => mL l i) ((((good2_nilN _).addL2 ok35B).addF ok76).addF ok75) fun (l, r, l2, m, i, ()) Q hx => by
  obtain ⟨⟨hl, hm, h1, h2, h3⟩, q1, q2⟩ := hx
  have hl : l2 = l := hl
  have hm : m = (l.length : Int) := hm
  subst hl hm
  exact h35A l2 r i Q h1.1 h1.2 h2.1 h2.2 h3.1 h3.2 q1 q2
theorem h35F (l : List Int) (K : dens [I, E] → Prop) (hK : ∀ r e, (r, e) = rankV l → K (r, e, ())) : xfn1 Try.prog { nm := true, ip := true, f := [(77, fc77)], l2 := [(35, 0, lc35a)] } 5 35 fc35 (l, ()) K := by
  rw [v35F]
  have bad : ¬ ((1 ≤ l.length ∧ l.length ≤ 8) ∧ goR l.length [] l = true) → K ((0 : Int), (104 : Int), ()) := fun h => hK _ _ (by rw [rankV, if_neg h])
  refine fork_iff.2 ⟨fun a => fork_iff.2 ⟨fun b => bad fun h => ?_, fun b => ?_⟩, fun a => bad fun h => (of_decide_eq_false a) (by have := h.1.1; omega)⟩
  · simp only [Bool.not_eq_true', decide_eq_false_iff_not] at b; have := h.1.2; omega
  have a : (l.length : Int) ≥ 1 := of_decide_eq_true a
  have b : (l.length : Int) ≤ 8 := by simpa using b
  have hl : 1 ≤ l.length ∧ l.length ≤ 8 := ⟨by omega, by omega⟩
  rw [List.take_zero, List.drop_zero]
  refine ⟨⟨rfl, rfl, hl, ⟨Int.le_refl 0, show (0 : Int) ≤ (l.length : Int) by omega⟩, Int.le_refl 0, Int.le_refl 0⟩, fun hg r' hr' => ?_, fun hg => bad fun h => by rw [h.2] at hg; cases hg⟩
  have hr' : r' = 0 + rankL l := hr'
  rw [Int.zero_add] at hr'
  have hb := rankL_bd l
  rw [← hr'] at hb
  have hd : ([] : List Int) ++ l ++ [(0 : Int), 0, 0, 0, 0, 0, 0, 0].drop (0 + l.length) = pad8 l := by
    rw [List.nil_append, Nat.zero_add, show [(0 : Int), 0, 0, 0, 0, 0, 0, 0] = List.replicate 8 0 from rfl, List.drop_replicate]; rfl
  rw [List.take_zero, hd]
  have hp8 : (pad8 l).length = 8 := pad8_len hl.2
  refine req_iff.2 ⟨decide_eq_true hl.2, req_iff.2 ⟨by simp [Nat.blt]; omega, req_iff.2 ⟨decide_eq_true hp8, ⟨show (1 : Int) ≤ (l.length : Int) by omega, b, hb.1, by rw [Int.toNat_natCast]; exact hb.2⟩, fun o ho => ⟨req_iff.2 ⟨decide_eq_true hp8, rfl⟩, ?_⟩⟩⟩⟩
  rw [hr', ord_rank hg] at ho
  have ho8 : o.length = 8 := by rw [ho]; exact hp8
  refine req_iff.2 ⟨decide_eq_true hp8, req_iff.2 ⟨decide_eq_true ho8, fork_iff.2 ⟨fun h => ?_, fun _ => ?_⟩⟩⟩
  · rw [ho] at h; simp at h
  · exact hK r' 0 (by rw [rankV, if_pos ⟨hl, hg⟩, hr'])
theorem ok35 : FnOk Try.prog 35 fc35 := fn1_of (n := 5) (((good2_nilI _).addL2 ok35A).addF ok77) fun (l, ()) K hx => h35F l K hx.2
end Go.P10
