/- Turns: the reference's lives: the code keeps its contract. No conditions. -/
import Derived.Test.YtfbbpilflbpifaaLiveP
set_option linter.constructorNameAsVariable false
set_option linter.unusedVariables false
set_option linter.unusedSimpArgs false
set_option maxRecDepth 100000
set_option maxHeartbeats 4000000
namespace Go.P10
open Go.Lom Go.Proofs Go
theorem count_range (L : List Int) (v : Int) : L.countP (· == v) = (List.range L.length).countP fun k => L.getD k 0 == v := by
  have e : L = (List.range L.length).map fun k => L.getD k 0 := by
    refine List.ext_getElem (by simp) fun i h1 h2 => ?_
    simp [List.getD_eq_getElem?_getD, List.getElem?_eq_getElem h1]
  have h := congrArg (List.countP (· == v)) e
  rw [List.countP_map] at h
  exact h
theorem count_le {p q : Nat → Bool} : ∀ {l : List Nat}, (∀ x ∈ l, p x = true → q x = true) → l.countP p ≤ l.countP q
  | [], _ => Nat.le_refl _
  | x :: l, h => by
    have ih := count_le (p := p) (q := q) (l := l) fun y hy => h y (List.mem_cons_of_mem _ hy)
    have hx := h x List.mem_cons_self
    rw [List.countP_cons, List.countP_cons]
    by_cases c : p x = true
    · rw [if_pos c, if_pos (hx c)]; omega
    · rw [if_neg c]; omega
theorem count_same {p q : Nat → Bool} : ∀ {l : List Nat}, (∀ x ∈ l, p x = true → q x = true) → l.countP p = l.countP q → ∀ x ∈ l, q x = true → p x = true
  | [], _, _, x, hx, _ => by cases hx
  | y :: l, h, he, x, hx, hq => by
    have hl := count_le (p := p) (q := q) (l := l) fun z hz => h z (List.mem_cons_of_mem _ hz)
    have hy := h y List.mem_cons_self
    rw [List.countP_cons, List.countP_cons] at he
    by_cases c : p y = true
    · rw [if_pos c, if_pos (hy c)] at he
      rcases List.mem_cons.1 hx with rfl | hx
      · exact c
      · exact count_same (fun z hz => h z (List.mem_cons_of_mem _ hz)) (by omega) x hx hq
    · rw [if_neg c] at he
      by_cases c2 : q y = true
      · rw [if_pos c2] at he; omega
      · rw [if_neg c2] at he
        rcases List.mem_cons.1 hx with rfl | hx
        · exact absurd hq c2
        · exact count_same (fun z hz => h z (List.mem_cons_of_mem _ hz)) (by omega) x hx hq
theorem count_eq {p q : Nat → Bool} {l : List Nat} (h : ∀ x ∈ l, p x = q x) : l.countP p = l.countP q :=
  Nat.le_antisymm (count_le fun x hx e => by rw [← h x hx]; exact e) (count_le fun x hx e => by rw [h x hx]; exact e)
theorem set_all {v : Int} : ∀ {o : List Int} {L : List Int}, (∀ n ∈ o, 0 ≤ n ∧ n < L.length) → (o.foldl (fun l n => l.set n.toNat v) L).length = L.length ∧ ∀ k : Nat, (o.foldl (fun l n => l.set n.toNat v) L).getD k 0 = if (k : Int) ∈ o then v else L.getD k 0
  | [], L, _ => ⟨rfl, fun k => by simp⟩
  | n :: o, L, h => by
    have hn := h n List.mem_cons_self
    obtain ⟨g1, g2⟩ := set_all (v := v) (o := o) (L := L.set n.toNat v) fun x hx => by rw [List.length_set]; exact h x (List.mem_cons_of_mem _ hx)
    rw [List.foldl_cons]
    refine ⟨by rw [g1, List.length_set], fun k => ?_⟩
    rw [g2 k]
    by_cases c : (k : Int) ∈ o
    · rw [if_pos c, if_pos (List.mem_cons_of_mem _ c)]
    · rw [if_neg c, getD_set (by omega)]
      by_cases e : n.toNat = k
      · rw [if_pos e, if_pos (List.mem_cons.2 (.inl (by omega)))]
      · rw [if_neg e, if_neg (fun hm => by rcases List.mem_cons.1 hm with h | h; omega; exact c h)]
theorem mem_some {ps L : List Int} {t : Int} {n k : Nat} {j : Nat} : (j : Int) ∈ someL ps L t n k ↔ (n ≤ j ∧ j < n + k) ∧ moreB ps L t j = true := by
  unfold someL
  rw [List.mem_map]
  constructor
  · rintro ⟨i, hi, he⟩
    have e : i = j := by omega
    subst e
    obtain ⟨h1, h2⟩ := List.mem_filter.1 hi
    have := List.mem_range'_1.1 h1
    exact ⟨this, h2⟩
  · rintro ⟨h1, h2⟩
    exact ⟨j, List.mem_filter.2 ⟨List.mem_range'_1.2 h1, h2⟩, rfl⟩
theorem some_len {ps L : List Int} {t : Int} {k : Nat} : (someL ps L t 0 k).length = (List.range k).countP (moreB ps L t) := by
  unfold someL
  rw [List.length_map, List.countP_eq_length_filter, List.range_eq_range']
theorem some_step {ps L : List Int} {t : Int} {n k : Nat} : someL ps L t n (k + 1) = (if moreB ps L t n = true then [(n : Int)] else []) ++ someL ps L t (n + 1) k := by
  unfold someL
  rw [List.range'_succ, List.filter_cons]
  split <;> rfl
theorem some_le {ps L : List Int} {t : Int} (n k : Nat) : (someL ps L t n k).length ≤ k := by
  unfold someL
  rw [List.length_map]
  exact Nat.le_trans (List.length_filter_le ..) (by rw [List.length_range']; exact Nat.le_refl _)
section
variable {ps L : List Int} {t : Nat}
theorem ages_ok (hp : okPs ps) (h : LiI ps L t) {n : Nat} (hn : n < L.length) : vldL ps (agesN ps n) ∧ numL 0 ps (agesN ps n) = n := ages_vld hp (by omega) (by have := h.len; omega)
theorem goes_alive (hp : okPs ps) (h : LiI ps L t) {n : Nat} (hn : n < L.length) : goesB (ps, L) (agesN ps n) t = true ↔ aliveB ps (t + 1) (toA (agesN ps n)) = true := by
  obtain ⟨hv, _⟩ := ages_ok hp h hn
  have hva := vld_toA hp hv
  have key : ∀ k : Nat, k < ps.length → (goodN (ps, L) (agesN ps n) t k = true ↔ ∃ b, nextR ps (toA (agesN ps n)) k = some b ∧ aliveB ps t b = true) := fun k hk => by
    have ha := after_next hp hv (show (0 : Int) ≤ (k : Int) by omega)
    rw [Int.toNat_natCast] at ha
    unfold goodN
    cases hx : nextR ps (toA (agesN ps n)) k with
    | none =>
      rw [hx] at ha
      rw [show afterL (k : Int) (ps, L).1 (agesN ps n) 0 = none from ha]
      exact ⟨fun h => (by cases h), fun ⟨b, h, _⟩ => (by cases h)⟩
    | some b =>
      rw [hx] at ha
      rw [show afterL (k : Int) (ps, L).1 (agesN ps n) 0 = some (agL ps b) from ha]
      have hb := nextR_valid hp hva hx
      have hbl := vld_agL hp hb
      obtain ⟨n0, n1⟩ := num_bd hbl
      have hlen := h.len
      have hi := (h.at' (numL 0 ps (agL ps b)).toNat (by omega)).2.2 t (Nat.le_refl _)
      rw [show (((numL 0 ps (agL ps b)).toNat : Nat) : Int) = numL 0 ps (agL ps b) by omega, ages_num hp hbl, toA_agL hp hb] at hi
      constructor
      · intro g
        exact ⟨b, rfl, hi.2 (of_decide_eq_true g)⟩
      · rintro ⟨c, hc, g⟩
        injection hc with hc
        subst hc
        exact decide_eq_true (hi.1 g)
  unfold goesB
  rw [List.any_eq_true]
  show _ ↔ (sucL ps (toA (agesN ps n)) 0).any (aliveB ps t) = true
  rw [List.any_eq_true]
  constructor
  · rintro ⟨r, hr, hg⟩
    have hr := mem_upTo.1 hr
    obtain ⟨k, rfl⟩ : ∃ k : Nat, r = k := ⟨r.toNat, by omega⟩
    have hk : k < ps.length := by have := hr.2; dsimp only at this; omega
    obtain ⟨b, h1, h2⟩ := (key k hk).1 hg
    exact ⟨b, sucL_mem.2 ⟨k, Nat.zero_le _, hk, h1⟩, h2⟩
  · rintro ⟨b, hb, h2⟩
    obtain ⟨k, _, hk, h1⟩ := sucL_mem.1 hb
    exact ⟨k, mem_upTo.2 ⟨by omega, by dsimp only; omega⟩, (key k hk).2 ⟨b, h1, h2⟩⟩
theorem more_alive (hp : okPs ps) (h : LiI ps L t) {n : Nat} (hn : n < L.length) : moreB ps L t n = true ↔ aliveB ps (t + 1) (toA (agesN ps n)) = true := by
  unfold moreB
  rw [Bool.and_eq_true, goes_alive hp h hn]
  constructor
  · exact fun g => g.2
  · intro g
    obtain ⟨_, h1, h2⟩ := h.at' n hn
    have := (h2 t (Nat.le_refl _)).1 (alive_mono g)
    refine ⟨?_, g⟩
    rw [beq_iff_eq]; omega
theorem round_at (hp : okPs ps) (h : LiI ps L t) {L' : List Int} (hL : L' = (someL ps L t 0 L.length).foldl (fun l n => l.set n.toNat ((t : Int) + 1)) L) :
    L'.length = L.length ∧ ∀ n : Nat, n < L.length → L'.getD n 0 = if moreB ps L t n = true then (t : Int) + 1 else L.getD n 0 := by
  obtain ⟨g1, g2⟩ := set_all (v := (t : Int) + 1) (o := someL ps L t 0 L.length) (L := L) fun n hn => by
    unfold someL at hn
    obtain ⟨j, hj, rfl⟩ := List.mem_map.1 hn
    have := List.mem_range'_1.1 (List.mem_filter.1 hj).1
    omega
  rw [← hL] at g1 g2
  refine ⟨g1, fun n hn => ?_⟩
  rw [g2 n]
  by_cases c : moreB ps L t n = true
  · rw [if_pos c, if_pos (mem_some.2 ⟨⟨by omega, by omega⟩, c⟩)]
  · rw [if_neg c, if_neg fun hm => c (mem_some.1 hm).2]
theorem round_next (hp : okPs ps) (h : LiI ps L t) {L' : List Int} (hL : L' = (someL ps L t 0 L.length).foldl (fun l n => l.set n.toNat ((t : Int) + 1)) L) (hne : (someL ps L t 0 L.length).length ≠ L.countP (· == (t : Int))) :
    LiI ps L' (t + 1) ∧ t < L.length := by
  obtain ⟨g1, g2⟩ := round_at hp h hL
  have hsub : ∀ x ∈ List.range L.length, moreB ps L t x = true → (L.getD x 0 == (t : Int)) = true := fun x _ hm => by
    unfold moreB at hm
    rw [Bool.and_eq_true] at hm
    exact hm.1
  have hle := count_le hsub
  rw [some_len, count_range] at hne
  have hfew := h.few
  rw [count_range] at hfew
  have hcnt : L'.countP (· == (((t + 1 : Nat)) : Int)) = (List.range L.length).countP (moreB ps L t) := by
    rw [count_range, g1]
    refine count_eq fun n hn => ?_
    have hn := List.mem_range.1 hn
    rw [g2 n hn]
    have := (h.at' n hn).2.1
    by_cases c : moreB ps L t n = true
    · rw [if_pos c, c, beq_iff_eq]; omega
    · rw [if_neg c, (by simpa using c : moreB ps L t n = false), beq_eq_false_iff_ne]; omega
  refine ⟨⟨by rw [g1]; exact h.len, fun n hn => ?_, ?_⟩, by omega⟩
  · rw [g1] at hn
    obtain ⟨a1, a2, a3⟩ := h.at' n hn
    have hm := more_alive hp h hn
    rw [g2 n hn]
    by_cases c : moreB ps L t n = true
    · rw [if_pos c]
      have ha := hm.1 c
      exact ⟨by omega, by omega, fun k hk => ⟨fun _ => by omega, fun _ => alive_le hk ha⟩⟩
    · rw [if_neg c]
      refine ⟨a1, by omega, fun k hk => ?_⟩
      by_cases e : k = t + 1
      · subst e
        exact ⟨fun g => absurd (hm.2 g) c, fun g => by omega⟩
      · exact a3 k (by omega)
  · rw [hcnt, g1]; omega
theorem round_end (hp : okPs ps) (h : LiI ps L t) {L' : List Int} (hL : L' = (someL ps L t 0 L.length).foldl (fun l n => l.set n.toNat ((t : Int) + 1)) L) (he : (someL ps L t 0 L.length).length = L.countP (· == (t : Int))) :
    LiF ps L' t := by
  obtain ⟨g1, g2⟩ := round_at hp h hL
  have hsub : ∀ x ∈ List.range L.length, moreB ps L t x = true → (L.getD x 0 == (t : Int)) = true := fun x _ hm => by
    unfold moreB at hm
    rw [Bool.and_eq_true] at hm
    exact hm.1
  rw [some_len, count_range] at he
  have hall := count_same hsub he
  have hone : ∀ n : Nat, n < L.length → aliveB ps t (toA (agesN ps n)) = true → aliveB ps (t + 1) (toA (agesN ps n)) = true := fun n hn ha => by
    obtain ⟨_, a2, a3⟩ := h.at' n hn
    have := (a3 t (Nat.le_refl _)).1 ha
    exact (more_alive hp h hn).1 (hall n (List.mem_range.2 hn) (by rw [beq_iff_eq]; omega))
  have hev : ∀ k : Nat, ∀ n : Nat, n < L.length → aliveB ps t (toA (agesN ps n)) = true → aliveB ps k (toA (agesN ps n)) = true := fun k => by
    induction k with
    | zero => intro n _ _; rfl
    | succ k ih =>
      intro n hn ha
      obtain ⟨b, hb, hb2⟩ := List.any_eq_true.1 (hone n hn ha)
      obtain ⟨r, _, hr, hx⟩ := sucL_mem.1 hb
      have hbv := nextR_valid hp (vld_toA hp (ages_ok hp h hn).1) hx
      have hbl := vld_agL hp hbv
      obtain ⟨n0, n1⟩ := num_bd hbl
      have hlen := h.len
      have := ih (numL 0 ps (agL ps b)).toNat (by omega)
      rw [show (((numL 0 ps (agL ps b)).toNat : Nat) : Int) = numL 0 ps (agL ps b) by omega, ages_num hp hbl, toA_agL hp hbv] at this
      exact List.any_eq_true.2 ⟨b, hb, this hb2⟩
  refine ⟨by rw [g1]; exact h.len, fun n hn hE => ?_, fun n hn hE => ?_⟩
  · rw [g1] at hn
    rw [g2 n hn, if_pos ((more_alive hp h hn).2 (hE _))]
  · rw [g1] at hn
    obtain ⟨a1, a2, a3⟩ := h.at' n hn
    have hna : ¬ aliveB ps t (toA (agesN ps n)) = true := fun ha => hE fun k => hev k n hn ha
    have hlt : L.getD n 0 < t := by
      have := a3 t (Nat.le_refl _)
      by_cases c : (t : Int) ≤ L.getD n 0
      · exact absurd (this.2 c) hna
      · omega
    rw [g2 n hn, if_neg fun c => hna (alive_mono ((more_alive hp h hn).1 c))]
    refine ⟨a1, hlt, fun k => ?_⟩
    by_cases c : k ≤ t
    · exact a3 k c
    · exact ⟨fun g => absurd (alive_le (by omega) g) hna, fun g => by omega⟩
end
theorem live_init {ps : List Int} (hp : okPs ps) : LiI ps (List.replicate (prodP ps).toNat 0) 0 := by
  have hb := prod_bd hp
  refine ⟨by rw [List.length_replicate]; omega, fun n hn => ?_, ?_⟩
  · have e : (List.replicate (prodP ps).toNat (0 : Int)).getD n 0 = 0 := by
      rw [List.getD_eq_getElem?_getD, List.getElem?_replicate]; split <;> rfl
    rw [e]
    refine ⟨Int.le_refl 0, Int.le_refl 0, fun k hk => ?_⟩
    have e : k = 0 := by omega
    subst e
    exact ⟨fun _ => Int.le_refl 0, fun _ => rfl⟩
  · have := List.countP_le_length (p := fun x : Int => x == ((0 : Nat) : Int)) (l := List.replicate (prodP ps).toNat (0 : Int))
    omega
theorem h86A (ps : List Int) (z : Lv) (i : Int) (Q : LQ) (h1 : okPs ps) (h2 : 0 ≤ i ∧ i ≤ ps.length) (hQ : ∀ m' : Int, m' = prodP ps → Q (.exit 0) (stS 1 sh86ae (ps, z, m', ()))) :
    xloop2 Try.prog { nm := true } 5 86 0 lc86a (fun _ => some (sh86ae, 1)) (fun (ps, _, _, i, _) => mL ps i) (ps, z, prodP (ps.take i.toNat), i, ()) Q := by
  rw [v86A]
  have h5 := h1.1.2
  refine fork_iff.2 ⟨fun hi => ?_, fun hi => ?_⟩
  · have hi : i < ps.length := of_decide_eq_true hi
    have hb := prod_pos h1 (i := (i + 1).toNat) (by omega)
    have hp8 := pow5 (show (i + 1).toNat ≤ 5 by omega)
    have e : prodP (ps.take i.toNat) * ps.getD i.toNat 0 = prodP (ps.take (i + 1).toNat) := by
      rw [show (i + 1).toNat = i.toNat + 1 by omega, take_snoc (by omega), prod_snoc]
    rw [e]
    exact req_iff.2 ⟨decide_eq_true ⟨h2.1, hi⟩, req_iff.2 ⟨inR_i64.2 (by omega), req_iff.2 ⟨inR_i64.2 (by omega), mL_lt hi, ⟨h1, ⟨show (0 : Int) ≤ i + 1 by omega, show i + 1 ≤ (ps.length : Int) by omega⟩, rfl⟩, hQ⟩⟩⟩
  · have hi : ¬ i < ps.length := of_decide_eq_false hi
    rw [List.take_of_length_le (by omega)]
    exact hQ _ rfl
theorem ok86A : Lp2Ok Try.prog 86 0 lc86a := lp2_of (n := 5) (ex := fun _ => some (sh86ae, 1)) (m := fun (ps, _, _, i, _) => mL ps i) (good2_nilN _) fun (ps, z, m, i, ()) Q hx => by
  obtain ⟨⟨h1, h2, hm⟩, hQ⟩ := hx
  have hm : m = prodP (ps.take i.toNat) := hm
  subst hm
  exact h86A ps z i Q h1 h2 hQ
theorem h86B (ps : List Int) (z : Lv) (L : List Int) (t : Int) (o : List Int) (n : Int) (Q : LQ) (h1 : okPs ps) (h2 : (L.length : Int) = prodP ps) (h3 : 0 ≤ t ∧ t ≤ 40000) (h4 : 0 ≤ n ∧ n ≤ prodP ps) (h5 : (o.length : Int) ≤ n)
    (hQ : ∀ o' : List Int, o' = o ++ someL ps L t n.toNat (prodP ps - n).toNat → Q (.exit 4) (stS 4 sh86be (ps, z, prodP ps, (ps, L, ()), t, L.length, o', ()))) :
    xloop2 Try.prog { nm := true, f := [(100, fc100), (101, fc101)] } 5 86 2 lc86b (fun _ => some (sh86be, 4)) (fun (_, _, m, _, _, _, _, n, _) => (m - n).toNat) (ps, z, prodP ps, (ps, L, ()), t, L.length, o, n, ()) Q := by
  rw [v86B]
  have hb := prod_bd h1
  have t0 : decide (0 + o.length ≤ o.length) = true := decide_eq_true (by omega)
  rw [seg_self, seg_self]
  rw [Nat.add_zero]
  refine fork_iff.2 ⟨fun hi => ?_, fun hi => ?_⟩
  · have hi : n < prodP ps := of_decide_eq_true hi
    rw [show (prodP ps - n).toNat = (prodP ps - (n + 1)).toNat + 1 by omega, some_step, show n.toNat + 1 = (n + 1).toNat by omega, show ((n.toNat : Nat) : Int) = n by omega] at hQ
    have ms : (prodP ps - (n + 1)).toNat < (prodP ps - n).toNat := by omega
    have n1 : inR .i64 (n + 1) = true := inR_i64.2 (by omega)
    have hin : decide (0 ≤ n ∧ n < (L.length : Int)) = true := decide_eq_true ⟨h4.1, by omega⟩
    have nx : moreB ps L t n.toNat = false → req (inR .i64 (n + 1)) (req (decide (L.length = L.length)) (req (decide (0 + o.length ≤ o.length)) ((prodP ps - (n + 1)).toNat < (prodP ps - n).toNat ∧ lc86b.spec (ps, z, prodP ps, (ps, L, ()), t, L.length, o, n + 1, ()) Q))) := fun hm => by
      rw [if_neg (by rw [hm]; decide), List.nil_append] at hQ
      exact req_iff.2 ⟨n1, req_iff.2 ⟨decide_eq_true rfl, req_iff.2 ⟨t0, ms, ⟨⟨h1, rfl, rfl, h2, rfl⟩, h3, ⟨show (0 : Int) ≤ n + 1 by omega, show n + 1 ≤ prodP ps by omega⟩, show (o.length : Int) ≤ n + 1 by omega⟩, hQ⟩⟩⟩
    refine req_iff.2 ⟨hin, req_iff.2 ⟨decide_eq_true (by omega), fork_iff.2 ⟨fun c => ?_, fun c => nx (by rw [moreB, c]; rfl)⟩⟩⟩
    refine ⟨⟨h1, h4.1, show n ≤ 40000 by omega⟩, fun r hr => ⟨rfl, req_iff.2 ⟨decide_eq_true (by omega), ?_⟩⟩⟩
    have hr : r = agesN ps n := hr
    obtain ⟨hv, _⟩ := ages_vld h1 h4.1 hi
    refine ⟨⟨⟨h1, h2⟩, by rw [hr]; exact hv⟩, fun b hb => ?_⟩
    have hg : moreB ps L t n.toNat = b := by
      rw [moreB, c, Bool.true_and, show ((n.toNat : Nat) : Int) = n by omega, hb, hr]
    refine fork_iff.2 ⟨fun d => ?_, fun d => nx (by rw [hg, d])⟩
    rw [if_pos (by rw [hg, d])] at hQ
    refine req_iff.2 ⟨t0, req_iff.2 ⟨fitsM (by omega), fun ys hys => req_iff.2 ⟨n1, ?_⟩⟩⟩
    have hyl : ys.length = o.length + 1 := by rw [hys]; simp
    have hsg : seg 0 (o.length + 1) ys = ys := by rw [← hyl]; exact seg_self ys
    rw [hsg]
    refine req_iff.2 ⟨decide_eq_true rfl, req_iff.2 ⟨decide_eq_true (by omega), ms, ⟨⟨h1, rfl, rfl, h2, rfl⟩, h3, ⟨show (0 : Int) ≤ n + 1 by omega, show n + 1 ≤ prodP ps by omega⟩, show (ys.length : Int) ≤ n + 1 by omega⟩, fun q hq => hQ q ?_⟩⟩
    rw [hq, hys, List.append_assoc]
  · have hi : ¬ n < prodP ps := of_decide_eq_false hi
    rw [show (prodP ps - n).toNat = 0 by omega] at hQ
    exact req_iff.2 ⟨decide_eq_true rfl, req_iff.2 ⟨t0, hQ o (by simp [someL])⟩⟩
theorem ok86B : Lp2Ok Try.prog 86 2 lc86b := lp2_of (n := 5) (ex := fun _ => some (sh86be, 4)) (m := fun (_, _, m, _, _, _, _, n, _) => (m - n).toNat) (((good2_nilN _).addF ok101).addF ok100) fun (ps, z, m, (qs, L, ()), t, k, o, n, ()) Q hx => by
  obtain ⟨⟨⟨h1, hm, hq, h2, hk⟩, h3, h4, h5⟩, hQ⟩ := hx
  have hm : m = prodP ps := hm
  have hq : qs = ps := hq
  have hk : k = L.length := hk
  subst hm hq hk
  exact h86B qs z L t o n Q h1 h2 h3 h4 h5 hQ
theorem h86C (ps : List Int) (z : Lv) (L : List Int) (t : Int) (o : List Int) (c n : Int) (Q : LQ) (h1 : okPs ps) (h2 : (L.length : Int) = prodP ps) (h3 : 0 ≤ n ∧ n ≤ prodP ps) (h4 : 0 ≤ c ∧ c ≤ n)
    (hQ : ∀ c' : Int, c' = c + ((L.drop n.toNat).countP (· == t) : Nat) → Q (.exit 6) (stS 4 sh86ce (ps, z, prodP ps, (ps, L, ()), t, L.length, o, c', ()))) :
    xloop2 Try.prog { nm := true } 5 86 3 lc86c (fun _ => some (sh86ce, 4)) (fun (_, _, m, _, _, _, _, _, n, _) => (m - n).toNat) (ps, z, prodP ps, (ps, L, ()), t, L.length, o, c, n, ()) Q := by
  rw [v86C]
  have hb := prod_bd h1
  have t0 : decide (0 + o.length ≤ o.length) = true := decide_eq_true (by omega)
  rw [seg_self]
  rw [Nat.add_zero]
  refine fork_iff.2 ⟨fun hi => ?_, fun hi => ?_⟩
  · have hi : n < prodP ps := of_decide_eq_true hi
    rw [drop_step 0 h3.1 (show n < (L.length : Int) by omega), List.countP_cons] at hQ
    have ms : (prodP ps - (n + 1)).toNat < (prodP ps - n).toNat := by omega
    have n1 : inR .i64 (n + 1) = true := inR_i64.2 (by omega)
    refine req_iff.2 ⟨decide_eq_true ⟨h3.1, by omega⟩, req_iff.2 ⟨decide_eq_true (by omega), fork_iff.2 ⟨fun d => ?_, fun d => ?_⟩⟩⟩
    · rw [if_pos d] at hQ
      exact req_iff.2 ⟨inR_i64.2 (by omega), req_iff.2 ⟨n1, req_iff.2 ⟨decide_eq_true rfl, req_iff.2 ⟨t0, ms, ⟨⟨h1, rfl, rfl, h2, rfl⟩, ⟨show (0 : Int) ≤ n + 1 by omega, show n + 1 ≤ prodP ps by omega⟩, show (0 : Int) ≤ c + 1 by omega, show c + 1 ≤ n + 1 by omega⟩, fun (q : Int) hq => hQ q (by have hq : q = c + 1 + ((L.drop (n + 1).toNat).countP (· == t) : Nat) := hq; rw [hq]; omega)⟩⟩⟩⟩
    · rw [if_neg (by rw [d]; decide), Nat.add_zero] at hQ
      exact req_iff.2 ⟨n1, req_iff.2 ⟨decide_eq_true rfl, req_iff.2 ⟨t0, ms, ⟨⟨h1, rfl, rfl, h2, rfl⟩, ⟨show (0 : Int) ≤ n + 1 by omega, show n + 1 ≤ prodP ps by omega⟩, h4.1, show c ≤ n + 1 by omega⟩, hQ⟩⟩⟩
  · have hi : ¬ n < prodP ps := of_decide_eq_false hi
    rw [drop_end (by omega)] at hQ
    exact req_iff.2 ⟨decide_eq_true rfl, req_iff.2 ⟨t0, hQ c (by simp)⟩⟩
theorem ok86C : Lp2Ok Try.prog 86 3 lc86c := lp2_of (n := 5) (ex := fun _ => some (sh86ce, 4)) (m := fun (_, _, m, _, _, _, _, _, n, _) => (m - n).toNat) (good2_nilN _) fun (ps, z, m, (qs, L, ()), t, k, o, c, n, ()) Q hx => by
  obtain ⟨⟨⟨h1, hm, hq, h2, hk⟩, h3, h4⟩, hQ⟩ := hx
  have hm : m = prodP ps := hm
  have hq : qs = ps := hq
  have hk : k = L.length := hk
  subst hm hq hk
  exact h86C qs z L t o c n Q h1 h2 h3 h4 hQ
theorem h86D (ps : List Int) (z : Lv) (L : List Int) (t : Int) (o : List Int) (c i : Int) (Q : LQ) (h1 : okPs ps) (h2 : (L.length : Int) = prodP ps) (h3 : 0 ≤ t ∧ t ≤ 40000) (h4 : 0 ≤ i ∧ i ≤ o.length) (h5 : o.length ≤ 40000) (h6 : ∀ n ∈ o, 0 ≤ n ∧ n < prodP ps)
    (hQ : ∀ L' : List Int, L' = (o.drop i.toNat).foldl (fun l n => l.set n.toNat (t + 1)) L → Q (.exit 8) (stS 4 sh86ce (ps, z, prodP ps, (ps, L', ()), t, L.length, o, c, ()))) :
    xloop2 Try.prog { nm := true } 5 86 4 lc86d (fun _ => some (sh86ce, 4)) (fun (_, _, _, _, _, _, o, _, i, _) => mL o i) (ps, z, prodP ps, (ps, L, ()), t, L.length, o, c, i, ()) Q := by
  rw [v86D]
  have t0 : decide (0 + o.length ≤ o.length) = true := decide_eq_true (by omega)
  rw [seg_self]
  rw [Nat.add_zero, Nat.add_zero]
  refine fork_iff.2 ⟨fun hi => ?_, fun hi => ?_⟩
  · have hi : i < o.length := of_decide_eq_true hi
    have hn := h6 _ (getD_mem (show i.toNat < o.length by omega) 0)
    rw [drop_step 0 h4.1 hi, List.foldl_cons] at hQ
    refine req_iff.2 ⟨decide_eq_true ⟨h4.1, hi⟩, req_iff.2 ⟨decide_eq_true (by omega), req_iff.2 ⟨inR_i64.2 (by omega), req_iff.2 ⟨decide_eq_true ⟨hn.1, by omega⟩, req_iff.2 ⟨decide_eq_true (by omega), fun ys hys => req_iff.2 ⟨inR_i64.2 (by omega), ?_⟩⟩⟩⟩⟩⟩
    have hyl : ys.length = L.length := by rw [hys]; simp
    refine req_iff.2 ⟨decide_eq_true hyl.symm, req_iff.2 ⟨t0, mL_lt hi, ⟨⟨h1, rfl, rfl, by rw [← h2, ← hyl], hyl.symm⟩, h3, ⟨show (0 : Int) ≤ i + 1 by omega, show i + 1 ≤ (o.length : Int) by omega⟩, h5, h6⟩, fun q hq => hQ q ?_⟩⟩
    rw [hq, hys]
  · have hi : ¬ i < o.length := of_decide_eq_false hi
    rw [drop_end hi] at hQ
    exact req_iff.2 ⟨decide_eq_true rfl, req_iff.2 ⟨t0, hQ L rfl⟩⟩
theorem ok86D : Lp2Ok Try.prog 86 4 lc86d := lp2_of (n := 5) (ex := fun _ => some (sh86ce, 4)) (m := fun (_, _, _, _, _, _, o, _, i, _) => mL o i) (good2_nilN _) fun (ps, z, m, (qs, L, ()), t, k, o, c, i, ()) Q hx => by
  obtain ⟨⟨⟨h1, hm, hq, h2, hk⟩, h3, h4, h5, h6⟩, hQ⟩ := hx
  have hm : m = prodP ps := hm
  have hq : qs = ps := hq
  have hk : k = L.length := hk
  subst hm hq hk
  exact h86D qs z L t o c i Q h1 h2 h3 h4 h5 h6 hQ
theorem h86M (ps : List Int) (z : Lv) (L : List Int) (t : Int) (Q : LQ) (h1 : okPs ps) (h2 : 0 ≤ t) (h3 : LiI ps L t.toNat) (hQ : ∀ L' t', LiF ps L' t' → Q .ret (stS 2 sh86r ((ps, L', ()), ()))) :
    xloop2 Try.prog { nm := true, l2 := [(86, 2, lc86b), (86, 3, lc86c), (86, 4, lc86d)] } 5 86 1 lc86 ex86 (fun (_, _, _, x, t, _) => x.2.1.length - t.toNat) (ps, z, prodP ps, (ps, L, ()), t, ()) Q := by
  rw [v86M]
  have hb := prod_bd h1
  have hlen := h3.len
  have hfew := h3.few
  have ht : ((t.toNat : Nat) : Int) = t := by omega
  have hox : okL86 ps (prodP ps) (ps, L, ()) L.length := ⟨h1, rfl, rfl, hlen, rfl⟩
  have hsm : ∀ k, (someL ps L t 0 k).length ≤ k := fun k => some_le 0 k
  have tb : 0 ≤ t ∧ t ≤ 40000 := by omega
  refine req_iff.2 ⟨decide_eq_true rfl, ⟨hox, tb, ⟨Int.le_refl 0, show (0 : Int) ≤ prodP ps by omega⟩, Int.le_refl 0⟩, fun o ho => ?_⟩
  rw [List.nil_append, Int.sub_zero, show (prodP ps).toNat = L.length by omega] at ho
  have hol := hsm L.length
  rw [← ho] at hol
  repeat rw [seg_self]
  refine req_iff.2 ⟨decide_eq_true rfl, req_iff.2 ⟨decide_eq_true (by omega), ⟨hox, ⟨Int.le_refl 0, show (0 : Int) ≤ prodP ps by omega⟩, Int.le_refl 0, Int.le_refl 0⟩, fun (c : Int) hc => ?_⟩⟩
  have hc : c = 0 + ((L.drop 0).countP (· == t) : Nat) := hc
  rw [List.drop_zero, Int.zero_add] at hc
  have hmem : ∀ n ∈ o, 0 ≤ n ∧ n < prodP ps := fun n hn => by
    rw [ho] at hn
    unfold someL at hn
    obtain ⟨j, hj, rfl⟩ := List.mem_map.1 hn
    have := List.mem_range'_1.1 (List.mem_filter.1 hj).1
    omega
  refine req_iff.2 ⟨decide_eq_true rfl, req_iff.2 ⟨decide_eq_true (by omega), ⟨hox, tb, ⟨Int.le_refl 0, show (0 : Int) ≤ (o.length : Int) by omega⟩, by omega, hmem⟩, fun L' hL' => ?_⟩⟩
  rw [List.drop_zero] at hL'
  have hL2 : L' = (someL ps L t.toNat 0 L.length).foldl (fun l n => l.set n.toNat ((t.toNat : Int) + 1)) L := by rw [ht, ← ho]; exact hL'
  have hcc : c = (L.countP (· == ((t.toNat : Nat) : Int)) : Nat) := by rw [ht]; exact hc
  have hoo : o = someL ps L ((t.toNat : Nat) : Int) 0 L.length := by rw [ht]; exact ho
  have hl' := (round_at h1 h3 hL2).1
  refine fork_iff.2 ⟨fun d => req_iff.2 ⟨decide_eq_true rfl, ?_⟩, fun d => ?_⟩
  · have d : (o.length : Int) = c := by simpa using d
    exact hQ L' _ (round_end h1 h3 hL2 (by rw [← hoo]; omega))
  · have d : ¬ (o.length : Int) = c := by simpa using d
    obtain ⟨g1, g2⟩ := round_next h1 h3 hL2 (by rw [← hoo]; omega)
    refine req_iff.2 ⟨inR_i64.2 (by omega), req_iff.2 ⟨decide_eq_true rfl, by rw [hl', show (t + 1).toNat = t.toNat + 1 by omega]; omega, ⟨h1, rfl, rfl, show (0 : Int) ≤ t + 1 by omega, ?_⟩, hQ⟩⟩
    show LiI ps L' (t + 1).toNat
    rw [show (t + 1).toNat = t.toNat + 1 by omega]
    exact g1
theorem ok86M : Lp2Ok Try.prog 86 1 lc86 := lp2_of (n := 5) (ex := ex86) (m := fun (_, _, _, x, t, _) => x.2.1.length - t.toNat) ((((good2_nilN _).addL2 ok86D).addL2 ok86C).addL2 ok86B) fun (ps, z, m, (qs, L, ()), t, ()) Q hx => by
  obtain ⟨⟨h1, hm, hq, h2, h3⟩, hQ⟩ := hx
  have hm : m = prodP ps := hm
  have hq : qs = ps := hq
  subst hm hq
  exact h86M qs z L t Q h1 h2 h3 hQ
theorem ok86 : FnOk Try.prog 86 fc86 := fn1_of (n := 5) (((good2_nilN _).addL2 ok86M).addL2 ok86A) fun (ps, ()) K hx => by
  obtain ⟨h1, hK⟩ := hx
  have h1 : okPs ps := h1
  have hK : ∀ L' t', LiF ps L' t' → K ((ps, L'), ()) := hK
  rw [v86F]
  have hb := prod_bd h1
  refine ⟨⟨h1, ⟨Int.le_refl 0, show (0 : Int) ≤ (ps.length : Int) by omega⟩, rfl⟩, fun m hm => ?_⟩
  subst hm
  refine req_iff.2 ⟨decide_eq_true (by omega), req_iff.2 ⟨decide_eq_true (by simp), ⟨h1, rfl, rfl, Int.le_refl 0, live_init h1⟩, fun L' t' hF => req_iff.2 ⟨decide_eq_true (by omega), ?_⟩⟩⟩
  rw [seg_self]
  exact hK L' t' hF
end Go.P10
