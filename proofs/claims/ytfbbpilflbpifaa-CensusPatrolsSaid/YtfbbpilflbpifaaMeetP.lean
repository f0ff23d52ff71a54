/- CensusMeets: the code keeps its contract. No conditions. -/
import Derived.Test.YtfbbpilflbpifaaMeetS
set_option linter.constructorNameAsVariable false
set_option linter.unusedVariables false
set_option linter.unusedSimpArgs false
set_option maxRecDepth 100000
set_option maxHeartbeats 4000000
namespace Go.P10
open Go.Lom Go.Proofs Go

theorem maxR_le {x : Int} : ∀ {l ws : List Int} {m : Int}, ws.length = l.length → (maxR l ws m ≤ x ↔ m ≤ x ∧ ∀ k : Nat, k < l.length → l.getD k 0 * (64 - ws.getD k 0) ≤ x)
  | [], [], m, _ => by simp [maxR]
  | [], _ :: _, m, h => by simp at h
  | _ :: _, [], m, h => by simp at h
  | n :: l, w :: ws, m, h => by
    rw [maxR, maxR_le (by simpa using h)]
    constructor
    · rintro ⟨h1, h2⟩
      refine ⟨by omega, fun k hk => ?_⟩
      cases k with
      | zero => show n * (64 - w) ≤ x; omega
      | succ k => exact h2 k (by simpa using hk)
    · rintro ⟨h1, h2⟩
      have h0 : n * (64 - w) ≤ x := h2 0 (by simp)
      exact ⟨by omega, fun k hk => h2 (k + 1) (by simpa using hk)⟩
theorem need_of {x : Int} (hx : 0 ≤ x) : ∀ {l ws : List Int}, (∀ n ∈ l, 1 ≤ n ∧ n ≤ 10000) → ws.length = l.length → (∀ k : Nat, k < l.length → (0 ≤ ws.getD k 0 ∧ ws.getD k 0 ≤ 64) ∧ l.getD k 0 * (64 - ws.getD k 0) ≤ x) → needN l x ≤ ws.sum
  | [], [], _, _, _ => Int.le_refl _
  | [], _ :: _, _, h, _ => by simp at h
  | _ :: _, [], _, h, _ => by simp at h
  | n :: l, w :: ws, h1, h2, h3 => by
    rw [needN_cons, List.sum_cons]
    have ih := need_of hx (fun y hy => h1 y (List.mem_cons_of_mem _ hy)) (by simpa using h2) fun k hk => h3 (k + 1) (by simpa using hk)
    have hn := h1 n List.mem_cons_self
    have h0 : (0 ≤ w ∧ w ≤ 64) ∧ n * (64 - w) ≤ x := h3 0 (by simp)
    have : 64 - w ≤ x / n := by
      rw [Int.le_ediv_iff_mul_le (by omega), Int.mul_comm]; exact h0.2
    unfold wI; omega
theorem wI_fit {r n : Int} (hr : 0 ≤ r) (hn : 1 ≤ n) : n * (64 - wI r n) ≤ r := by
  have h0 := Int.ediv_nonneg hr (show 0 ≤ n by omega)
  have h1 : n * (r / n) ≤ r := Int.mul_ediv_self_le (by omega)
  have h2 : 64 - wI r n ≤ r / n := by unfold wI; omega
  have h3 := Int.mul_le_mul_of_nonneg_left h2 (show 0 ≤ n by omega)
  omega
theorem getD_cons_le : ∀ {l : List Int} {r : Int}, 0 ≤ r → (∀ n ∈ l, 1 ≤ n ∧ n ≤ 10000) → (needW l r).getD 0 0 ≤ needN l r
  | [], _, _, _ => Int.le_refl _
  | n :: l, r, hr, h => by
    rw [needN_cons]
    have := (needN_bd hr fun x hx => h x (List.mem_cons_of_mem _ hx)).1
    show wI r n ≤ _
    omega
theorem addH_sum {d : Int} : ∀ {l : List Int}, 0 < l.length → (addH d l).sum = l.sum + d
  | x :: l, _ => by simp only [addH, List.sum_cons]; omega
theorem addH_len {d : Int} : ∀ {l : List Int}, (addH d l).length = l.length
  | [] => rfl
  | _ :: _ => rfl
theorem addH_getD {d : Int} {l : List Int} (h : 0 < l.length) : ∀ k : Nat, (addH d l).getD k 0 = if k = 0 then l.getD 0 0 + d else l.getD k 0 := by
  intro k
  match l, h with
  | x :: l, _ => cases k <;> rfl
theorem needW_getD {l : List Int} {r : Int} {k : Nat} (h : k < l.length) : (needW l r).getD k 0 = wI r (l.getD k 0) := by
  unfold needW
  rw [List.getD_eq_getElem?_getD, List.getElem?_map, List.getD_eq_getElem?_getD, List.getElem?_eq_getElem h]; rfl
theorem pat_fit {l : List Int} {r : Int} (h : okW l) (hr : leastR l r) : fitW l (addH (64 - needN l r) (needW l r)) r ∧ (addH (64 - needN l r) (needW l r)).sum = 64 := by
  have hl := h.1.1
  have hpos : 0 < (needW l r).length := by rw [needW_len]; omega
  refine ⟨⟨by rw [addH_len, needW_len], fun k hk => ?_⟩, ?_⟩
  · have hn := h.2 _ (getD_mem hk 0)
    have hw := wI_bd hr.1.1 hn.1
    have hf := wI_fit hr.1.1 hn.1
    rw [addH_getD hpos]
    by_cases e : k = 0
    · subst e
      rw [if_pos rfl]
      have h1 := getD_cons_le hr.1.1 h.2
      have h2 := hr.2.1
      rw [needW_getD hk] at h1 ⊢
      generalize wI r (l.getD 0 0) = w at *
      generalize l.getD 0 0 = n at *
      refine ⟨⟨by omega, by omega⟩, ?_⟩
      have := Int.mul_le_mul_of_nonneg_left (show 64 - (w + (64 - needN l r)) ≤ 64 - w by omega) (show 0 ≤ n by omega)
      omega
    · rw [if_neg e, needW_getD hk]
      exact ⟨hw, hf⟩
  · rw [addH_sum hpos]
    show needN l r + _ = _
    omega
theorem fit_all {l w : List Int} {r : Int} (h : fitW l w r) : w.all inW = true := by
  rw [List.all_eq_true]
  intro x hx
  obtain ⟨k, hk, rfl⟩ := List.mem_iff_getElem.1 hx
  have := (h.2 k (by rw [← h.1]; exact hk)).1
  rw [List.getD_eq_getElem?_getD, List.getElem?_eq_getElem hk] at this
  exact inW_iff.2 this
/-- No weights have less than the least risk. -/
theorem least_le {l ws : List Int} {r : Int} (h : okW l) (hr : leastR l r) (hl : ws.length = l.length) (hw : ws.all inW = true) (hs : ws.sum = 64) : r ≤ maxR l ws 0 := by
  by_cases e : r = 0
  · subst e
    exact ((maxR_le hl).1 (Int.le_refl _)).1
  · have h2 : needN l (r - 1) > 64 := by rcases hr.2.2 with h | h; exact absurd h e; exact h
    by_cases hm : maxR l ws 0 ≤ r - 1
    · have h3 := (maxR_le hl).1 hm
      have := need_of (show 0 ≤ r - 1 by have := hr.1.1; omega) h.2 hl fun k hk => ⟨inW_iff.1 (List.all_eq_true.1 hw _ (getD_mem (by omega) 0)), h3.2 k hk⟩
      omega
    · omega
theorem pat_risk {l : List Int} {r : Int} (h : okW l) (hr : leastR l r) : riskV l (addH (64 - needN l r) (needW l r)) = (r, 0) := by
  obtain ⟨hf, hs⟩ := pat_fit h hr
  have ha := fit_all hf
  rw [riskV, if_pos ⟨h, hf.1, ha, hs⟩]
  have h1 := least_le h hr hf.1 ha hs
  have h2 := (maxR_le (x := r) hf.1).2 ⟨hr.1.1, fun k hk => (hf.2 k hk).2⟩
  have : maxR l (addH (64 - needN l r) (needW l r)) 0 = r := by omega
  rw [this]
theorem h14L (l o w : List Int) (r i : Int) (Q : LQ) (h1 : okW l) (h2 : fitW l w r) (h3 : 0 ≤ i) (h4 : i ≤ l.length) (hQ : Q (.exit 0) (stS 0 sh14e (l, o, r, ()))) :
    xloop2 Try.prog {} 5 14 0 lc14 (fun _ => some (sh14e, 0)) (fun (l, _, _, _, i, _) => mL l i) (l, o, w, r, i, ()) Q := by
  rw [v14L]
  have hl := h1.1.2
  have hw := h2.1
  refine fork_iff.2 ⟨fun hi => ?_, fun _ => hQ⟩
  have hi : i < l.length := of_decide_eq_true hi
  obtain ⟨a1, a2⟩ := h2.2 i.toNat (by omega)
  have hn := h1.2 _ (getD_mem (show i.toNat < l.length by omega) 0)
  generalize l.getD i.toNat 0 = n at *
  generalize w.getD i.toNat 0 = v at *
  have hm := mul_bd (show 0 ≤ n by omega) hn.2 (show 0 ≤ 64 - v by omega) (show 64 - v ≤ 64 by omega)
  refine req_iff.2 ⟨decide_eq_true ⟨h3, by omega⟩, fork_iff.2 ⟨fun _ => fork_iff.2 ⟨fun c => ?_, fun _ => req_iff.2 ⟨decide_eq_true ⟨h3, hi⟩, fork_iff.2 ⟨fun _ => fork_iff.2 ⟨fun c => ?_, fun _ => ?_⟩, fun c => absurd hn.1 (of_decide_eq_false c)⟩⟩⟩, fun c => absurd a1.1 (of_decide_eq_false c)⟩⟩
  · simp only [Bool.not_eq_true', decide_eq_false_iff_not] at c; exact absurd a1.2 c
  · simp only [Bool.not_eq_true', decide_eq_false_iff_not] at c; exact absurd hn.2 c
  · refine req_iff.2 ⟨decide_eq_true ⟨h3, hi⟩, req_iff.2 ⟨decide_eq_true ⟨h3, by omega⟩, req_iff.2 ⟨inR_i64.2 (by omega), req_iff.2 ⟨inR_i64.2 (by omega), fork_iff.2 ⟨fun c => absurd (of_decide_eq_true c) (by omega), fun _ => ?_⟩⟩⟩⟩⟩
    exact req_iff.2 ⟨inR_i64.2 (by omega), mL_lt hi, ⟨h1, h2, show (0 : Int) ≤ i + 1 by omega, show i + 1 ≤ (l.length : Int) by omega⟩, hQ⟩
theorem ok14L : Lp2Ok Try.prog 14 0 lc14 := lp2_of (n := 5) (ex := fun _ => some (sh14e, 0)) (m := fun (l, _, _, _, i, _) => mL l i) (good2_nil _) fun (l, o, w, r, i, ()) Q hx => by
  obtain ⟨⟨h1, h2, h3, h4⟩, hQ⟩ := hx
  exact h14L l o w r i Q h1 h2 h3 h4 hQ
theorem h14 (l o : List Int) (K : dens [.b] → Prop) (h1 : l.length ≤ big) (h2 : o.length ≤ big) (hK : K (true, ())) : xfn1 Try.prog { f := [(52, fc52), (48, fc48), (50, fc50), (19, fcWorks)], l2 := [(14, 0, lc14)] } 5 14 fc14 (l, o, ()) K := by
  rw [v14F]
  refine ⟨h1, fun w r e hp => ?_⟩
  rcases hp with ⟨_, rfl, rfl, rfl⟩ | ⟨h, hr, hw, rfl⟩
  · exact fork_iff.2 ⟨fun _ => fork_iff.2 ⟨fun _ => fork_iff.2 ⟨fun _ => hK, fun c => absurd c (by decide)⟩, fun c => absurd c (by decide)⟩, fun c => absurd c (by decide)⟩
  · refine fork_iff.2 ⟨fun c => absurd c (by decide), fun _ => ?_⟩
    obtain ⟨hf, hs⟩ := pat_fit h hr
    have hrk := pat_risk h hr
    rw [← hw] at hf hs hrk
    have hwl := hf.1
    have hl6 := h.1.2
    have hr0 := hr.1.1
    have hr1 := hr.1.2
    have hnd : needV l r = (needN l r, 0) := by rw [needV, if_pos h, if_neg (by omega)]
    -- what comes behind the other weights
    have tail : (l.length ≤ 9223372036854775807 ∧ r ≤ (9223372036854775807 : Int)) ∧ ∀ (n e : Int), (n, e) = needV l r → fork (e != 0) (K (false, ())) (fork (decide (n > 64)) (K (false, ())) (fork (r == 0) (K (true, ())) (req (inR .i64 (r - 1)) ((l.length ≤ 9223372036854775807 ∧ r - 1 ≤ (9223372036854775807 : Int)) ∧ ∀ (n e : Int), (n, e) = needV l (r - 1) → fork (e == 0) (fork (decide (n > 64)) (K (true, ())) (K (false, ()))) (K (false, ())))))) := by
      refine ⟨⟨h1, by omega⟩, fun n e hn => ?_⟩
      rw [hnd] at hn
      injection hn with hn1 hn2
      subst hn1 hn2
      refine fork_iff.2 ⟨fun c => absurd c (by decide), fun _ => fork_iff.2 ⟨fun c => absurd (of_decide_eq_true c) (by have := hr.2.1; omega), fun _ => fork_iff.2 ⟨fun _ => hK, fun c => ?_⟩⟩⟩
      have hne : r ≠ 0 := fun e => by rw [e] at c; simp at c
      have h64 : needN l (r - 1) > 64 := by rcases hr.2.2 with h | h; exact absurd h hne; exact h
      refine req_iff.2 ⟨inR_i64.2 (by omega), ⟨h1, by omega⟩, fun n e hn => ?_⟩
      rw [needV, if_pos h, if_neg (by omega)] at hn
      injection hn with hn1 hn2
      subst hn1 hn2
      exact fork_iff.2 ⟨fun _ => fork_iff.2 ⟨fun _ => hK, fun c => absurd h64 (of_decide_eq_false c)⟩, fun c => absurd c (by decide)⟩
    refine ⟨⟨h1, by unfold big at *; omega⟩, fun n e hn => ?_⟩
    rw [hrk] at hn
    injection hn with hn1 hn2
    subst hn1 hn2
    refine fork_iff.2 ⟨fun c => absurd c (by decide), fun _ => fork_iff.2 ⟨fun c => by simp at c, fun _ => fork_iff.2 ⟨fun c => by rw [hwl] at c; simp at c, fun _ => ⟨⟨h, hf, Int.le_refl 0, show (0 : Int) ≤ (l.length : Int) by omega⟩, ⟨h1, h2⟩, fun n2 e2 hn2 => fork_iff.2 ⟨fun c => fork_iff.2 ⟨fun d => ?_, fun _ => tail⟩, fun _ => tail⟩⟩⟩⟩⟩
    exfalso
    have d : n2 < n := of_decide_eq_true d
    unfold riskV at hn2
    split at hn2
    · rename_i hk
      injection hn2 with g1 g2
      have := least_le h hr hk.2.1 hk.2.2.1 hk.2.2.2
      omega
    · injection hn2 with g1 g2
      rw [g2] at c; simp at c
theorem ok14 : FnOk Try.prog 14 fc14 := fn1_of (n := 5) ((((((good2_nil _).addL2 ok14L).addF okWorks).addF ok50).addF ok48).addF ok52) fun (l, o, ()) K hx => by
  obtain ⟨⟨h1, h2⟩, hK⟩ := hx
  exact h14 l o K h1 h2 hK
end Go.P10
