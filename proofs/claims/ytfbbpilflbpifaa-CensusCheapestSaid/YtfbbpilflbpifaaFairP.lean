/- CensusFair returns true. No conditions. -/
import Derived.Test.YtfbbpilflbpifaaFairS
import Derived.Test.YtfbbpilflbpifaaFairTP
set_option linter.constructorNameAsVariable false
set_option linter.unusedVariables false
set_option linter.unusedSimpArgs false
set_option maxRecDepth 100000
set_option maxHeartbeats 4000000
namespace Go.P10
open Go.Lom Go.Proofs Go

theorem h25 (n m : Int) (K : dens [I] → Prop) (h1 : 1 ≤ m) (h2 : m ≤ 1000000) (hK : ∀ r : Int, r = n % m → K (r, ())) : xfn1 Try.prog {} 5 25 fc25 (n, m, ()) K := by
  rw [v25F]
  have a1 := Int.lt_tmod_of_pos n (show 0 < m by omega)
  have a2 := Int.tmod_lt_of_pos n (show 0 < m by omega)
  have e : Int.tmod (Int.tmod n m + m) m = n % m := by
    rw [Int.tmod_eq_emod_of_nonneg (by omega), Int.add_emod_right]
    have := Int.tmod_add_mul_tdiv n m
    generalize n.tdiv m = q at this
    rw [show Int.tmod n m = n - m * q by omega, Int.sub_mul_emod_self_left]
  exact fork_iff.2 ⟨fun c => absurd (of_decide_eq_true c) (by omega), fun _ => req_iff.2 ⟨decide_eq_true (by omega), req_iff.2 ⟨inR_i64.2 (by omega), req_iff.2 ⟨decide_eq_true (by omega), hK _ e⟩⟩⟩⟩
theorem ok25 : FnOk Try.prog 25 fc25 := fn1_of (n := 5) (good2_nil _) fun (n, m, ()) K hx => h25 n m K hx.1.2.1 hx.1.2.2 hx.2
theorem ok26 : F2Ok Try.prog 26 fc26 := fn2_of (n := 5) (good2_nil _) fun (l, ()) K hx => by
  obtain ⟨h1, hK⟩ := hx
  have hK : ∀ r : List Int, r = l → K ((), r, ()) := hK
  rw [v26F]
  simp only [Nat.zero_add, List.nil_append]
  exact req_iff.2 ⟨fitsM (by have h1 : l.length ≤ 1000 := h1; omega), req_iff.2 ⟨by simp, hK _ (seg_self l)⟩⟩
theorem h41L (l : List Int) (v i : Int) (Q : LQ) (h0 : 0 ≤ i) (h1 : i ≤ l.length) (h2 : l.length ≤ big) (q1 : idxF (· == v) (l.drop i.toNat) i < 0 → Q (.exit 0) (stS 0 .nil ())) (q2 : 0 ≤ idxF (· == v) (l.drop i.toNat) i → Q .ret (stS 0 shR4i (idxF (· == v) (l.drop i.toNat) i, ()))) :
    xloop2 Try.prog {} 5 41 0 lc41 ex96 (fun (l, _, i, _) => mL l i) (l, v, i, ()) Q := by
  rw [v41L]
  refine fork_iff.2 ⟨fun hi => ?_, fun hi => ?_⟩
  · have hi : i < l.length := of_decide_eq_true hi
    rw [drop_step 0 h0 hi, idxF] at q1 q2
    refine req_iff.2 ⟨decide_eq_true ⟨h0, hi⟩, fork_iff.2 ⟨fun e => ?_, fun e => ?_⟩⟩
    · rw [if_pos e] at q2
      exact q2 h0
    · rw [if_neg (by rw [e]; decide)] at q1 q2
      exact req_iff.2 ⟨inR_i64.2 (by unfold big at h2; omega), mL_lt hi, ⟨show (0 : Int) ≤ i + 1 by omega, show i + 1 ≤ (l.length : Int) by omega, h2⟩, q1, q2⟩
  · have hi : ¬ i < l.length := of_decide_eq_false hi
    rw [drop_end hi] at q1
    exact q1 (show (-1 : Int) < 0 by decide)
theorem ok41L : Lp2Ok Try.prog 41 0 lc41 := lp2_of (n := 5) (ex := ex96) (m := fun (l, _, i, _) => mL l i) (good2_nil _) fun (l, v, i, ()) Q hx => by
  obtain ⟨⟨h0, h1, h2⟩, q1, q2⟩ := hx
  exact h41L l v i Q h0 h1 h2 q1 q2
theorem ok41 : FnOk Try.prog 41 fc41 := fn1_of (n := 5) ((good2_nil _).addL2 ok41L) fun (l, v, ()) K hx => by
  obtain ⟨h1, hK⟩ := hx
  rw [v41F]
  refine ⟨⟨Int.le_refl 0, show (0 : Int) ≤ (l.length : Int) by omega, h1⟩, ?_⟩
  rw [List.drop_zero]
  have hK : K (idxF (fun x => x == v) l 0, ()) := hK
  refine ⟨fun h => ?_, fun _ => hK⟩
  rw [← idxF_neg (fun x => x == v) l 0 (Int.le_refl 0) h]; exact hK
/-! plain facts -/
theorem set_sum (l : List Int) (i : Nat) (x : Int) (h : i < l.length) : (l.set i x).sum = l.sum - l.getD i 0 + x := by
  induction l generalizing i with
  | nil => simp at h
  | cons a l ih =>
    cases i with
    | zero => simp; omega
    | succ i =>
      rw [List.set_cons_succ, List.sum_cons, List.sum_cons, ih i (by simpa using h), List.getD_cons_succ]; omega
theorem metL_succ (s f : Int) (k : Nat) : metL s f (k + 1) = metL s f k ++ [(s + k) % f] := by simp [metL, List.range_succ]
theorem metL_len (s f : Int) (k : Nat) : (metL s f k).length = k := by simp [metL]
theorem metL_new {s f : Int} {k : Nat} (hk : (k : Int) < f) : idxF (fun x => x == (s + k) % f) (metL s f k) 0 < 0 := by
  rcases idxF_cases (fun x => x == (s + k) % f) (metL s f k) 0 (Int.le_refl 0) with h | h
  · exact h.1
  · exfalso
    obtain ⟨_, h⟩ := h
    rw [List.any_eq_true] at h
    obtain ⟨x, hx, he⟩ := h
    unfold metL at hx
    obtain ⟨j, hj, rfl⟩ := List.mem_map.1 hx
    have hj := List.mem_range.1 hj
    have he : (s + j) % f = (s + k) % f := by simpa using he
    have h1 := Int.mul_ediv_add_emod (s + j) f
    have h2 := Int.mul_ediv_add_emod (s + k) f
    rw [he] at h1
    have h3 : f * ((s + k) / f - (s + j) / f) = k - j := by rw [Int.mul_sub]; omega
    generalize (s + k) / f - (s + j) / f = d at h3
    by_cases hd : d ≤ 0
    · have := Int.mul_nonneg (show 0 ≤ f by omega) (show 0 ≤ -d by omega)
      rw [Int.mul_neg] at this; omega
    · have : f * 1 ≤ f * d := Int.mul_le_mul_of_nonneg_left (by omega) (by omega)
      omega
theorem h8A (n : Int) (l : List Int) (w i : Int) (Q : LQ) (h1 : 1 ≤ n ∧ n ≤ 5) (h2 : 2 ≤ i ∧ i ≤ n + 1 ∨ n = 1 ∧ i = 2) (hQ : ∀ x : Int, x = facI n.toNat → Q (.exit 0) (stS 0 sh8ae (n, l, w, x, ()))) :
    xloop2 Try.prog {} 5 8 0 lc8a (fun _ => some (sh8ae, 0)) (fun (n, _, _, _, i, _) => (n + 1 - i).toNat) (n, l, w, facI (i - 1).toNat, i, ()) Q := by
  rw [v8A]
  have hf := fac8 (show (i - 1).toNat ≤ 8 by omega)
  have hp := fac_pos (i - 1).toNat
  refine fork_iff.2 ⟨fun hi => ?_, fun hi => ?_⟩
  · have hi : i ≤ n := of_decide_eq_true hi
    have e : facI (i - 1).toNat * i = facI (i + 1 - 1).toNat := by
      rw [show (i + 1 - 1).toNat = (i - 1).toNat + 1 by omega, facI, Int.mul_comm]
      congr 1; omega
    have hf2 := fac8 (show (i + 1 - 1).toNat ≤ 8 by omega)
    have hp2 := fac_pos (i + 1 - 1).toNat
    rw [e]
    exact req_iff.2 ⟨inR_i64.2 (by omega), req_iff.2 ⟨inR_i64.2 (by omega), show (n + 1 - (i + 1)).toNat < (n + 1 - i).toNat by omega, ⟨h1, show 2 ≤ i + 1 ∧ i + 1 ≤ n + 1 ∨ n = 1 ∧ i + 1 = 2 from .inl ⟨by omega, by omega⟩, rfl⟩, hQ⟩⟩
  · have hi : ¬ i ≤ n := of_decide_eq_false hi
    have : (i - 1).toNat = n.toNat := by omega
    rw [this]; exact hQ _ rfl
theorem ok8A : Lp2Ok Try.prog 8 0 lc8a := lp2_of (n := 5) (ex := fun _ => some (sh8ae, 0)) (m := fun (n, _, _, _, i, _) => (n + 1 - i).toNat) (good2_nil _) fun (n, l, w, a, i, ()) Q hx => by
  obtain ⟨⟨h1, h2, ha⟩, hQ⟩ := hx
  have ha : a = facI (i - 1).toNat := ha
  subst ha
  exact h8A n l w i Q h1 h2 hQ
theorem fac5 {n : Nat} (h : n ≤ 5) : facI n ≤ 120 := by
  have : n = 0 ∨ n = 1 ∨ n = 2 ∨ n = 3 ∨ n = 4 ∨ n = 5 := by omega
  rcases this with h | h | h | h | h | h <;> rw [h] <;> decide
theorem h8B (n : Int) (l : List Int) (w k : Int) (Q : LQ) (h1 : 1 ≤ n ∧ n ≤ 5) (h2 : 1 ≤ l.length ∧ l.length ≤ 16) (h3 : l.all (inF n) = true) (h4 : inR .i64 w = true) (h5 : 0 ≤ k ∧ k ≤ facI n.toNat) (hQ : Q (.exit 2) (stS 0 .nil ())) :
    xloop2 Try.prog { nm := true, f := [(39, fc39), (35, fc35), (37, fc37), (41, fc41), (25, fc25), (18, fcSame)], f2 := [(26, fc26), (39, fc39k)] } 5 8 1 lc8b (fun _ => some (.nil, 0)) (fun (_, _, _, a, _, _, k, _) => (a - k).toNat) (n, l, w, facI n.toNat, metL (oth l w) (facI n.toNat) k.toNat, k - 1, k, ()) Q := by
  rw [v8B]
  have hf := fac5 (show n.toNat ≤ 5 by omega)
  have hp := fac_pos n.toNat
  refine fork_iff.2 ⟨fun hk => ?_, fun _ => hQ⟩
  have hk : k < facI n.toNat := of_decide_eq_true hk
  generalize hF : facI n.toNat = F at *
  refine ⟨by omega, fun r hr => ?_⟩
  subst hr
  refine ⟨⟨h4, show (1 : Int) ≤ (r.length : Int) by omega, show (r.length : Int) ≤ 1000000 by omega⟩, fun (q : Int) hq => ?_⟩
  have hq : q = w % (r.length : Int) := hq
  have q0 : 0 ≤ q := by rw [hq]; exact Int.emod_nonneg _ (by omega)
  have q1 : q < r.length := by rw [hq]; exact Int.emod_lt_of_pos _ (show (0 : Int) < (r.length : Int) by omega)
  refine req_iff.2 ⟨decide_eq_true ⟨q0, q1⟩, req_iff.2 ⟨decide_eq_true (by omega), fun ys hys => ?_⟩⟩
  rw [Nat.add_zero] at hys
  have hyl : ys.length = r.length := by rw [hys]; simp
  have hya : ys.all (inF n) = true := by
    rw [List.all_eq_true] at h3 ⊢
    intro x hx
    rw [hys] at hx
    rcases List.mem_or_eq_of_mem_set hx with hx | hx
    · exact h3 x hx
    · rw [hx]; exact decide_eq_true ⟨h5.1, by omega⟩
  have hsum : ys.sum = oth r w + k := by
    rw [hys, set_sum _ _ _ (by omega)]; unfold oth; rw [hq]
  have hs0 : 0 ≤ ys.sum := sum_nonneg fun x hx => (of_decide_eq_true (List.all_eq_true.1 hya x hx) : 0 ≤ x ∧ x ≤ _).1
  have hok : (1 ≤ n ∧ n ≤ 8) ∧ (1 ≤ ys.length ∧ ys.length ≤ 16) ∧ ys.all (inF n) = true := ⟨⟨h1.1, by omega⟩, by omega, hya⟩
  have t0 := Int.emod_nonneg ys.sum (show F ≠ 0 by omega)
  have t1 := Int.emod_lt_of_pos ys.sum (show 0 < F by omega)
  have hlen := ordF_len n (ys.sum % F)
  have hlenk := ordF_len n k
  have hdr : drawV n n ys = (ordF n (ys.sum % F), 0) := by
    rw [drawV, if_pos hok, if_pos ⟨by omega, Int.le_refl n⟩, hF, List.take_of_length_le (by omega)]
  have hrk : rankV (ordF n (ys.sum % F)) = (ys.sum % F, 0) := rank_ord ⟨h1.1, by omega⟩ t0 (by rw [hF]; exact t1)
  have hun : unrankV n k = (ordF n k, 0) := by rw [unrankV, if_pos ⟨h1.1, by omega⟩, if_pos ⟨h5.1, by rw [hF]; exact hk⟩]
  have hrk2 : rankV (ordF n k) = (k, 0) := rank_ord ⟨h1.1, by omega⟩ h5.1 (by rw [hF]; exact hk)
  have tr : ∀ {P : Prop}, P → req (decide (r.length = ys.length)) P := fun h => req_iff.2 ⟨decide_eq_true hyl.symm, h⟩
  have nz : ∀ {A B : Prop}, B → fork ((0 : Int) != 0) A B := fun h => fork_iff.2 ⟨fun c => absurd c (by decide), fun _ => h⟩
  refine tr ⟨by omega, fun x e hx => ?_⟩
  rw [hdr] at hx
  injection hx with hx1 hx2
  subst hx1 hx2
  refine ⟨by omega, fun rk e1 hrk' => ?_⟩
  rw [hrk] at hrk'
  injection hrk' with g1 g2
  subst g1 g2
  refine nz (nz ?_)
  have hml := metL_len (oth r w) F k.toNat
  have hkt : ((k.toNat : Nat) : Int) = k := by omega
  have hnew := metL_new (s := oth r w) (f := F) (k := k.toNat) (by omega)
  rw [hkt, ← hsum] at hnew
  generalize hM : metL (oth r w) F k.toNat = M at *
  refine req_iff.2 ⟨decide_eq_true (by omega), by rw [seg_self]; omega, ?_⟩
  rw [seg_self]
  refine fork_iff.2 ⟨fun c => absurd (of_decide_eq_true c) (by omega), fun _ => req_iff.2 ⟨inR_i64.2 (by omega), fork_iff.2 ⟨fun _ => fork_iff.2 ⟨fun c => ?_, fun _ => ?_⟩, fun c => absurd t0 (of_decide_eq_false c)⟩⟩⟩
  · simp only [Bool.not_eq_true', decide_eq_false_iff_not] at c; omega
  refine req_iff.2 ⟨decide_eq_true (by omega), req_iff.2 ⟨fitsM (by omega), fun ys1 hys1 => ?_⟩⟩
  refine ⟨inR_i64.2 (by omega), fun o e hx => ?_⟩
  rw [hun] at hx
  injection hx with hx1 hx2
  subst hx1 hx2
  refine ⟨by omega, fun rk2 e2 hrk' => ?_⟩
  rw [hrk2] at hrk'
  injection hrk' with g1 g2
  have g1 := g1.symm
  subst g1 g2
  refine nz (nz (fork_iff.2 ⟨fun c => by simp at c, fun _ => fork_iff.2 ⟨fun c => absurd (of_decide_eq_true c) (by omega), fun _ => ?_⟩⟩))
  have ed : Int.tdiv n 2 = n / 2 := Int.tdiv_eq_ediv_of_nonneg (by omega)
  rw [ed]
  refine req_iff.2 ⟨inR_i64.2 (by omega), tr ⟨by omega, fun o2 e hx => ?_⟩⟩
  rw [drawV, if_pos hok, if_pos ⟨by omega, by omega⟩, hF] at hx
  injection hx with hx1 hx2
  subst hx2
  refine nz (fork_iff.2 ⟨fun c => ?_, fun _ => req_iff.2 ⟨inR_i64.2 (by omega), req_iff.2 ⟨decide_eq_true ⟨Int.le_refl 0, by omega, by omega⟩, ?_, fun b hb => ?_⟩⟩⟩)
  · have : ((ordF n (ys.sum % F)).length : Int) = n := by omega
    rw [this] at c; simp at c
  · rw [hx1, List.length_take]; omega
  · rw [List.drop_zero, hx1, decide_eq_true rfl] at hb
    subst hb
    refine fork_iff.2 ⟨fun c => absurd c (by decide), fun _ => req_iff.2 ⟨inR_i64.2 (by omega), ?_⟩⟩
    have hl1 : ys1.length = M.length + 1 := by rw [hys1]; simp [seg_self]
    refine req_iff.2 ⟨decide_eq_true (by omega), show (F - (k + 1)).toNat < (F - k).toNat by omega, ⟨h1, h2, h3, h4, hF.symm, ⟨show (0 : Int) ≤ k + 1 by omega, show k + 1 ≤ F by omega⟩, show k = k + 1 - 1 by omega, ?_⟩, hQ⟩
    show seg (0 + 0) (M.length + 1) ys1 = metL (oth r w) F (k + 1).toNat
    rw [Nat.zero_add, show M.length + 1 = ys1.length from hl1.symm, seg_self, hys1, show (k + 1).toNat = k.toNat + 1 by omega, metL_succ, hM, hkt, ← hsum]
theorem ok8B : Lp2Ok Try.prog 8 1 lc8b := lp2_of (n := 5) (ex := fun _ => some (.nil, 0)) (m := fun (_, _, _, a, _, _, k, _) => (a - k).toNat) ((((((((((good2_nilN _).addF2 ok39k).addF2 ok26).addF ok18).addF ok25).addF ok41).addF ok37).addF ok35).addF ok39)) fun (n, l, w, a, m, t, k, ()) Q hx => by
  obtain ⟨⟨h1, h2, h3, h4, ha, h5, ht, hm⟩, hQ⟩ := hx
  have ha : a = facI n.toNat := ha
  have ht : t = k - 1 := ht
  have hm : m = metL (oth l w) a k.toNat := hm
  subst ht hm ha
  exact h8B n l w k Q h1 h2 h3 h4 h5 hQ
theorem ok8 : FnOk Try.prog 8 fc8 := fn1_of (n := 5) ((((((good2_nilN _).addL2 ok8B).addL2 ok8A).addF okWorks).addF ok25).addF ok39) fun (n, l, w, ()) K hx => by
  obtain ⟨⟨hn, hw, hl⟩, hK⟩ := hx
  have hK : K (true, ()) := hK
  have hl : l.length ≤ big := hl
  rw [v8F]
  refine ⟨⟨hn, show (1 : Int) ≤ 5 by decide, show (5 : Int) ≤ 1000000 by decide⟩, fun (r : Int) hr => ?_⟩
  have hr : r = n % 5 := hr
  have h0 := Int.emod_nonneg n (show (5 : Int) ≠ 0 by decide)
  have h1 := Int.emod_lt_of_pos n (show (0 : Int) < 5 by decide)
  rw [← hr] at h0 h1
  clear hr hn
  refine req_iff.2 ⟨inR_i64.2 (by omega), ⟨⟨show 1 ≤ 1 + r by omega, show 1 + r ≤ 5 by omega⟩, ?_, rfl⟩, fun x hx => ?_⟩
  · show (2 : Int) ≤ 2 ∧ (2 : Int) ≤ 1 + r + 1 ∨ 1 + r = 1 ∧ (2 : Int) = 2
    omega
  have m1 : 1 ≤ 1 + r := by omega
  have m5 : 1 + r ≤ 5 := by omega
  generalize 1 + r = m at *
  have hp := fac_pos m.toNat
  refine ⟨hl, fun o e hoe => ?_⟩
  unfold drawV at hoe
  split at hoe
  · rename_i hok
    rw [if_pos ⟨by omega, Int.le_refl _⟩] at hoe
    injection hoe with g1 g2
    subst g2
    refine fork_iff.2 ⟨fun c => absurd c (by decide), fun _ => fork_iff.2 ⟨fun c => ?_, fun _ => ⟨⟨⟨show 1 ≤ m by omega, show m ≤ 5 by omega⟩, hok.2.1, hok.2.2, hw, hx, ⟨Int.le_refl 0, ?_⟩, rfl, rfl⟩, hK⟩⟩⟩
    · have c : (l.length : Int) = 0 := by simpa using c
      have := hok.2.1.1; omega
    · show 0 ≤ x
      have hx : x = facI m.toNat := hx
      omega
  · injection hoe with g1 g2
    subst g2
    exact fork_iff.2 ⟨fun _ => fork_iff.2 ⟨fun _ => hK, fun c => absurd c (by decide)⟩, fun c => absurd c (by decide)⟩
end Go.P10
