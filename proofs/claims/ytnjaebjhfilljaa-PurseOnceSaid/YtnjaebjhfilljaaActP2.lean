/- Purses: what passes: the code keeps its contracts. No conditions. -/
import Derived.Test.YtnjaebjhfilljaaActP
set_option linter.constructorNameAsVariable false
set_option linter.unusedVariables false
set_option linter.unusedSimpArgs false
set_option maxRecDepth 100000
set_option maxHeartbeats 4000000
namespace Go.P7
open Go.Lom Go.Proofs Go

theorem chosenI_mem {α : Type} {f : α → Bool} : ∀ {l : List α} {i j : Int}, j ∈ chosenI f l i → i ≤ j ∧ j < i + l.length
  | [], _, _, h => by simp [chosenI] at h
  | x :: l, i, j, h => by
    simp only [chosenI] at h
    rw [List.length_cons]
    split at h
    · rcases List.mem_cons.1 h with rfl | h
      · omega
      · have := chosenI_mem h; omega
    · have := chosenI_mem h; omega
theorem chosenI_lt {α : Type} {f : α → Bool} {l : List α} {j : Int} (h : j ∈ chosenI f l 0) : 0 ≤ j ∧ j < (l.length : Int) := by
  have := chosenI_mem h; omega
theorem chosenI_len {α : Type} {f : α → Bool} : ∀ (l : List α) (i : Int), (chosenI f l i).length ≤ l.length
  | [], _ => by simp [chosenI]
  | x :: l, i => by
    have := chosenI_len (f := f) l (i + 1)
    simp only [chosenI]
    split <;> simp <;> omega
theorem goAll_cons (d : Int) (ss : List Su) (j : Int) (js : List Int) : goAll d ss (j :: js) = goAll d (ss.set j.toNat (overI (ss.getD j.toNat U0) 3 d)) js := rfl
theorem goAll_chosen (t d : Int) : ∀ (suf pre : List Su), goAll d (pre ++ suf) (chosenI (goB t d) suf pre.length) = pre ++ suf.map (passS t d)
  | [], pre => by simp [chosenI, goAll]
  | x :: suf, pre => by
    simp only [chosenI]
    have ih := goAll_chosen t d suf (pre ++ [passS t d x])
    rw [List.length_append, List.append_assoc, List.append_assoc] at ih
    simp only [List.length_cons, List.length_nil, List.singleton_append, Nat.zero_add] at ih
    push_cast at ih
    rw [List.map_cons]
    by_cases hg : goB t d x = true
    · rw [if_pos hg, goAll_cons, ← ih]
      have e : (pre ++ x :: suf).getD ((pre.length : Int)).toNat U0 = x := by simp [List.getD_eq_getElem?_getD]
      rw [e]
      have e2 : (pre ++ x :: suf).set ((pre.length : Int)).toNat (overI x 3 d) = pre ++ passS t d x :: suf := by
        rw [Int.toNat_natCast, List.set_append_right _ _ (Nat.le_refl _), Nat.sub_self, List.set_cons_zero]
        unfold passS; rw [if_pos hg]
      rw [e2]
    · rw [if_neg hg, ← ih]
      have : passS t d x = x := by unfold passS; rw [if_neg hg]
      rw [this]
theorem goSum_chosen (t d : Int) : ∀ (suf pre : List Su), goSum (pre ++ suf) (chosenI (goB t d) suf pre.length) = passN t d suf
  | [], pre => rfl
  | x :: suf, pre => by
    simp only [chosenI]
    have ih := goSum_chosen t d suf (pre ++ [x])
    rw [List.length_append, List.append_assoc] at ih
    simp only [List.length_cons, List.length_nil, List.singleton_append, Nat.zero_add] at ih
    push_cast at ih
    rw [passN_eq] at ih ⊢
    rw [sumB_cons]
    by_cases hg : goB t d x = true
    · rw [if_pos hg, if_pos hg, ← ih]
      have e : (pre ++ x :: suf).getD ((pre.length : Int)).toNat U0 = x := by simp [List.getD_eq_getElem?_getD]
      unfold goSum
      rw [List.map_cons, List.sum_cons, e]
    · rw [if_neg hg, if_neg hg, ← ih]; omega
theorem goSum_set (d : Int) (ss : List Su) (i : Nat) (js : List Int) : goSum (ss.set i (overI (ss.getD i U0) 3 d)) js = goSum ss js := by
  unfold goSum
  congr 1
  refine List.map_congr_left fun j _ => ?_
  rw [List.getD_eq_getElem?_getD, List.getElem?_set]
  split
  · rename_i h
    split
    · rw [← h]; rfl
    · rename_i h2
      rw [List.getD_eq_getElem?_getD, List.getElem?_eq_none (by omega)]
  · rw [List.getD_eq_getElem?_getD]
theorem goB_true {t d : Int} {x : Su} (h1 : x.2.2.2.1 = 1) (h2 : x.2.2.1 + t ≤ d) : goB t d x = true := by
  unfold goB heldB passB; rw [decide_eq_true h1, decide_eq_true h2]; rfl
theorem goB_false {t d : Int} {x : Su} (h : ¬ (x.2.2.2.1 = 1 ∧ x.2.2.1 + t ≤ d)) : goB t d x = false := by
  rw [Bool.eq_false_iff]; intro e
  unfold goB heldB passB at e
  simp only [Bool.and_eq_true, decide_eq_true_eq] at e
  exact h e
theorem h78L (ss : List Su) (ns : List Nt) (dy wf t : Int) (m : List (Tx × Int)) (b : Bool) (o : List Int) (i d z e : Int) (Q : AX → St → Prop) (h0 : 0 ≤ i) (h1 : i ≤ ss.length) (hl : ss.length ≤ 256) (ho : (o.length : Int) ≤ i) (ht : 0 ≤ t ∧ t ≤ 12000)
    (hx : ∀ x ∈ ss, 0 ≤ x.2.2.1 ∧ x.2.2.1 ≤ 36500) (hQ : ∀ r : List Int, r = o ++ chosenI (goB t d) (ss.drop i.toNat) i → Q (.exit 0) (stS 9 sh78e (r, (ss, ns, dy, wf, t, m, b, ()), ((), ()), (d, ()), (z, ()), (e, ()), ()))) :
    xloop2 Try.prog { nm := true } 5 78 0 lc78 (fun _ => some (sh78e, 9)) (fun (_, _, _, _, i, pu, _) => mL pu.1 i) (((), ((), (), ())), o, ss.length, (ss.length : Int), i, (ss, ns, dy, wf, t, m, b, ()), ((), ()), (d, ()), (z, ()), (e, ()), ()) Q := by
  rw [v78L]
  simp only [fork_iff, req_iff, decide_eq_true_eq, decide_eq_false_iff_not, beq_iff_eq, beq_eq_false_iff_ne, ne_eq, ge_iff_le, Nat.zero_add, seg_self, Nat.le_refl, true_and]
  refine ⟨fun hi => ⟨⟨h0, hi⟩, by omega, ?_⟩, fun hi => hQ _ (by rw [drop_end hi]; simp [chosenI])⟩
  rw [drop_step U0 h0 hi] at hQ
  simp only [chosenI] at hQ
  have hm := hx _ (getSu_mem (show i.toNat < ss.length by omega))
  rw [show (([], 0, 0, 0, 0) : Su) = U0 from rfl]
  generalize ss.getD i.toNat U0 = x at *
  have no : goB t d x = false → inR .i64 (i + 1) = true ∧ mL ss (i + 1) < mL ss i ∧ LC2.spec lc78 (((), (), (), ()), o, ss.length, (ss.length : Int), i + 1, (ss, ns, dy, wf, t, m, b, ()), ((), ()), (d, ()), (z, ()), (e, ()), ()) Q := fun hg => by
    rw [hg] at hQ
    simp only [Bool.false_eq_true, if_false] at hQ
    exact ⟨inR_i64.2 (by omega), mL_lt hi, ⟨⟨rfl, rfl, show (0 : Int) ≤ i + 1 by omega, show i + 1 ≤ (ss.length : Int) by omega, hl, show (o.length : Int) ≤ i + 1 by omega, ht, hx⟩, hQ⟩⟩
  have no := fun ha => (fun g => (⟨g.1, g.2.1, g.2.2.1.2.2, g.2.2.2⟩ : _ ∧ _ ∧ _ ∧ _)) (no ha)
  refine ⟨fun hs => ⟨inR_i64.2 (by omega), fun hp => ⟨fits100 (by omega), fun ys hys => ?_⟩, fun hp => no (goB_false fun e => hp e.2)⟩, fun hs => no (goB_false fun e => hs e.1)⟩
  have hg := goB_true hs hp
  rw [hg] at hQ
  simp only [if_true] at hQ
  have hyl : o.length + 1 = ys.length := by rw [hys]; simp
  rw [seg_exact hyl]
  exact ⟨inR_i64.2 (by omega), by omega, mL_lt hi, ⟨⟨show (0 : Int) ≤ i + 1 by omega, show i + 1 ≤ (ss.length : Int) by omega, hl, show (ys.length : Int) ≤ i + 1 by omega, ht, hx⟩, fun r hr => hQ r (by rw [hr, hys, List.append_assoc]; rfl)⟩⟩
theorem ok78L : Lp2Ok Try.prog 78 0 lc78 := lp2_of (n := 5) (ex := fun _ => some (sh78e, 9)) (m := fun (_, _, _, _, i, pu, _) => mL pu.1 i) (good2_nilN _) fun (((), ((), (), ())), o, n, k, i, (ss, ns, dy, wf, t, m, b, ()), ((), ()), (d, ()), (z, ()), (e, ()), ()) Q hx => by
  obtain ⟨⟨g1, g2, g3, g4, g5, g6, g7, g8⟩, hQ⟩ := hx
  have g1 : n = ss.length := g1
  have g2 : k = (ss.length : Int) := g2
  subst g1 g2
  exact h78L ss ns dy wf t m b o i d z e Q g3 g4 g5 g6 g7 g8 hQ
theorem set_bd {ss : List Su} {i : Nat} {st d : Int} (hx : ∀ x ∈ ss, 0 ≤ x.2.1 ∧ x.2.1 ≤ 67108864) (hi : i < ss.length) : ∀ x ∈ ss.set i (overI (ss.getD i U0) st d), 0 ≤ x.2.1 ∧ x.2.1 ≤ 67108864 := fun x h => by
  rcases List.mem_or_eq_of_mem_set h with h | rfl
  · exact hx x h
  · exact (show 0 ≤ (ss.getD i U0).2.1 ∧ (ss.getD i U0).2.1 ≤ 67108864 from hx _ (getSu_mem hi))
theorem h77L (ss : List Su) (ns : List Nt) (dy wf t : Int) (m : List (Tx × Int)) (b : Bool) (js : List Int) (i d z e : Int) (Q : AX → St → Prop) (h0 : 0 ≤ i) (h1 : i ≤ js.length) (hl : js.length ≤ 256) (hj : ∀ j ∈ js, 0 ≤ j ∧ j < ss.length)
    (hx : ∀ x ∈ ss, 0 ≤ x.2.1 ∧ x.2.1 ≤ 67108864) (z0 : 0 ≤ z) (z1 : z ≤ i * 67108864) (hQ : ∀ (s1 : List Su) (z1 : Int), s1 = goAll d ss (js.drop i.toNat) → z1 = z + goSum ss (js.drop i.toNat) → Q (.exit 0) (stS 9 sh77e ((), (), (), (s1, ns, dy, wf, t, m, b, ()), ((), ()), (d, ()), (z1, ()), (e, ()), ()))) :
    xloop2 Try.prog { nm := true, f := [(80, fcSum)] } 5 77 0 lc77 (fun _ => some (sh77e, 9)) (fun (_, _, _, js, _, i, _) => mL js i) ((), (), (), js, (js.length : Int), i, (ss, ns, dy, wf, t, m, b, ()), ((), ()), (d, ()), (z, ()), (e, ()), ()) Q := by
  rw [v77L]
  simp only [fork_iff, req_iff, decide_eq_true_eq, decide_eq_false_iff_not, Nat.add_zero, true_and]
  refine ⟨fun hi => ⟨⟨h0, hi⟩, by omega, ?_⟩, fun hi => hQ _ _ (by rw [drop_end hi]; rfl) (by rw [drop_end hi]; simp [goSum])⟩
  rw [drop_step 0 h0 hi] at hQ
  have hjm : js.getD i.toNat 0 ∈ js := by
    rw [List.getD_eq_getElem?_getD, List.getElem?_eq_getElem (show i.toNat < js.length by omega)]; exact List.getElem_mem _
  have hjb := hj _ hjm
  rw [show (([], 0, 0, 0, 0) : Su) = U0 from rfl]
  generalize js.getD i.toNat 0 = j at *
  have hlt : j.toNat < ss.length := by omega
  have hxj := hx _ (getSu_mem hlt)
  refine ⟨hjb, hlt, fun ys hys => ⟨by rw [hys, List.length_set]; exact hlt, fun ys1 hys1 => ?_⟩⟩
  obtain ⟨l1, l2, e1, e2⟩ := set_twice hlt hys hys1
  rw [e2, l2]
  have hb2 : z + (ss.getD j.toNat U0).2.1 ≤ (i + 1) * 67108864 := by omega
  have hzz : [z, (ss.getD j.toNat U0).2.1].sum = z + (ss.getD j.toNat U0).2.1 := by simp
  rw [hzz]
  refine ⟨hlt, ⟨by decide, ?_⟩, inR_i64.2 (by omega), rfl, mL_lt hi, ⟨⟨show (0 : Int) ≤ i + 1 by omega, show i + 1 ≤ (js.length : Int) by omega, hl, fun j hj2 => hj j hj2, ?_, show (0 : Int) ≤ z + (ss.getD j.toNat U0).2.1 by omega, hb2⟩, fun s1 z1 hs1 hz1 => hQ s1 z1 ?_ ?_⟩⟩
  · simp only [fitS]
    exact ⟨by decide, inR_i64.2 (by omega), inR_i64.2 (by omega)⟩
  · show ∀ x ∈ ys1, 0 ≤ x.2.1 ∧ x.2.1 ≤ 67108864
    rw [e1]; exact set_bd hx hlt
  · rw [goAll_cons, ← e1]; exact hs1
  · have hz1 : z1 = z + (ss.getD j.toNat U0).2.1 + goSum ys1 (js.drop (i + 1).toNat) := hz1
    rw [e1, goSum_set] at hz1
    rw [hz1]
    show z + (ss.getD j.toNat U0).2.1 + goSum ss (js.drop (i + 1).toNat) = z + ((ss.getD j.toNat U0).2.1 :: (js.drop (i + 1).toNat).map fun j => (ss.getD j.toNat U0).2.1).sum
    rw [List.sum_cons]; unfold goSum; omega
theorem ok77L : Lp2Ok Try.prog 77 0 lc77 := lp2_of (n := 5) (ex := fun _ => some (sh77e, 9)) (m := fun (_, _, _, js, _, i, _) => mL js i) ((good2_nilN _).addF okSum2) fun ((), (), (), js, k, i, (ss, ns, dy, wf, t, m, b, ()), ((), ()), (d, ()), (z, ()), (e, ()), ()) Q hx => by
  obtain ⟨⟨g1, g2, g3, g4, g5, g6, g7, g8⟩, hQ⟩ := hx
  have g1 : k = (js.length : Int) := g1
  subst g1
  exact h77L ss ns dy wf t m b js i d z e Q g2 g3 g4 g5 g6 g7 g8 hQ
section
variable {s : PS} {d : Int}
theorem pass34 (h : ¬ (0 ≤ d ∧ d ≤ 36500 ∧ s.1 ≤ d)) : passI s d = (s, 0, 34) := by unfold passI dayOk; rw [if_pos (decide_eq_false h)]
theorem pass0 (h : 0 ≤ d ∧ d ≤ 36500 ∧ s.1 ≤ d) : passI s d = (noted s 3 d (passN s.2.2.1 d s.2.2.2.1) (s.2.1 + passN s.2.2.1 d s.2.2.2.1) (s.2.2.2.1.map (passS s.2.2.1 d)), passN s.2.2.1 d s.2.2.2.1, 0) := by unfold passI dayOk; rw [if_neg (by rw [decide_eq_true h]; decide)]
end
theorem h46F (ss : List Su) (ns : List Nt) (dy wf t : Int) (m : List (Tx × Int)) (d : Int) (K : fcPass.post.den → Prop) (g1 : okP (dy, wf, t, ss, ns)) (g3 : ns.length ≤ 1000)
    (hK : ∀ (ss1 : List Su) (ns1 : List Nt) (dy1 wf1 : Int) (n e : Int), ((dy1, wf1, t, ss1, ns1), n, e) = passI (dy, wf, t, ss, ns) d → K ((ss1, ns1, dy1, wf1, t, m, true, ()), (), n, e, ())) :
    xfn2 Try.prog { nm := true, f := [(80, fcSum)], l2 := [(78, 0, lc78), (77, 0, lc77)] } 8 46 fcPass ((ss, ns, dy, wf, t, m, true, ()), d, ()) K := by
  obtain ⟨hb, -, hp⟩ := okP_bd g1
  have hp := hp t d
  have hr : ns.length ≤ 1000 := g3
  have ht := g1.term
  have hl := g1.len
  have hsu := g1.su
  have hdy := g1.day
  simp only at hb hp ht hl hsu hdy
  rw [v46F]
  have bad : (¬ (0 ≤ d ∧ d ≤ 36500 ∧ dy ≤ d)) → K ((ss, ns, dy, wf, t, m, true, ()), (), 0, 34, ()) := fun h => hK ss ns dy wf 0 34 (pass34 (s := (dy, wf, t, ss, ns)) h).symm
  simp only [fork_iff, req_iff, decide_eq_true_eq, decide_eq_false_iff_not, Bool.not_eq_true', Bool.not_eq_false', ge_iff_le, Nat.zero_add, seg_self, Nat.le_refl, true_and, List.drop_zero, List.nil_append, Int.zero_add]
  refine ⟨fun h0 => ⟨fun h1 => ⟨fun h2 => bad (by omega), fun h2 => ⟨⟨Int.le_refl (0 : Int), Int.natCast_nonneg _, hl, Int.le_refl 0, ht, fun x hx => ?_⟩, fun r hr1 => ⟨⟨Int.le_refl (0 : Int), Int.natCast_nonneg _, ?_, fun j hj => ?_, fun x hx => ?_, Int.le_refl (0 : Int), by decide⟩, fun s1 z1 hs1 hz1 => ?_⟩⟩⟩, fun h1 => bad (by omega)⟩, fun h0 => bad (by omega)⟩
  · have := (hsu x hx).day
    exact ⟨this.1, Int.le_trans this.2 hdy.2⟩
  · rw [hr1]; exact Nat.le_trans (chosenI_len _ _) hl
  · rw [hr1] at hj
    exact chosenI_lt hj
  · have := (hsu x hx).sum
    exact ⟨show (0 : Int) ≤ x.2.1 by omega, this.2⟩
  have e1 := goAll_chosen t d ss []
  have e2 := goSum_chosen t d ss []
  simp only [List.nil_append, List.length_nil, Int.natCast_zero] at e1 e2
  rw [hr1, show (0 : Int) = ((0 : Nat) : Int) from rfl] at hs1 hz1
  have hs1 : s1 = ss.map (passS t d) := hs1.trans e1
  have hz1 : z1 = passN t d ss := hz1.trans e2
  refine ⟨inR_i64.2 (by omega), fits100 (by omega), fun ys hys => ?_⟩
  have hyl : ns.length + 1 = ys.length := by rw [hys]; simp
  rw [seg_exact hyl]
  refine ⟨by omega, hK s1 ys d (wf + z1) z1 0 ?_⟩
  rw [pass0 (s := (dy, wf, t, ss, ns)) ⟨h0, h1, h2⟩]
  simp only [noted]
  rw [hys, hs1, hz1]
theorem ok46 : F2Ok Try.prog 46 fcPass := fn2_of (n := 8) ((((good2_nilN _).addF okSum2).addL2 ok77L).addL2 ok78L) fun ((ss, ns, dy, wf, t, m, rdy, ()), d, ()) K hx => by
  obtain ⟨⟨g1, g2, g3⟩, hK⟩ := hx
  have g2 : rdy = true := g2
  subst g2
  exact h46F ss ns dy wf t m d K g1 g3 hK
end Go.P7
