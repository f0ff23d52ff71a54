/- Purses: what can be asked, acts of the statements: the code keeps its contracts. No conditions. -/
import Derived.Test.YtnjaebjhfilljaaBookS
import Derived.Test.YtnjaebjhfilljaaActP3
set_option linter.constructorNameAsVariable false
set_option linter.unusedVariables false
set_option linter.unusedSimpArgs false
set_option maxRecDepth 100000
set_option maxHeartbeats 4000000
namespace Go.P7
open Go.Lom Go.Proofs Go

theorem ok62 : F2Ok Try.prog 62 fcClS := fn2_of (n := 5) (good2_nil _) fun (l, ()) K hx => by
  obtain ⟨h1, hK⟩ := hx
  have h1 : l.length ≤ 1000 := h1
  show xfn2 Try.prog {} 5 62 fcClS (l, ()) K
  rw [v62F]
  simp only [fork_iff, req_iff, decide_eq_true_eq, Nat.zero_add, seg_self, Nat.le_refl, true_and, List.nil_append]
  refine fun b hb => ⟨fun h => ?_, fun h => ⟨fits100 (by omega), hK⟩⟩
  have : l = [] := List.length_eq_zero_iff.1 (hb h)
  subst this; exact hK
theorem ok63 : F2Ok Try.prog 63 fcClN := fn2_of (n := 5) (good2_nil _) fun (l, ()) K hx => by
  obtain ⟨h1, hK⟩ := hx
  have h1 : l.length ≤ 1000 := h1
  show xfn2 Try.prog {} 5 63 fcClN (l, ()) K
  rw [v63F]
  simp only [fork_iff, req_iff, decide_eq_true_eq, Nat.zero_add, seg_self, Nat.le_refl, true_and, List.nil_append]
  refine fun b hb => ⟨fun h => ?_, fun h => ⟨fits100 (by omega), hK⟩⟩
  have : l = [] := List.length_eq_zero_iff.1 (hb h)
  subst this; exact hK
theorem ok31 : F2Ok Try.prog 31 fcSus := fn2_of (n := 5) ((good2_nil _).addF2 ok62) fun ((ss, ns, dy, wf, t, m, b, ()), ()) K hx => by
  obtain ⟨h1, hK⟩ := hx
  have h1 : ss.length ≤ 1000 := h1
  show xfn2 Try.prog { f2 := [(62, fcClS)] } 5 31 fcSus ((ss, ns, dy, wf, t, m, b, ()), ()) K
  rw [v31F]
  simp only [fork_iff, req_iff, decide_eq_true_eq, Nat.zero_add, seg_self, Nat.le_refl, true_and, List.nil_append]
  exact ⟨h1, hK ss rfl⟩
theorem ok34 : F2Ok Try.prog 34 fcNts := fn2_of (n := 5) ((good2_nil _).addF2 ok63) fun ((ss, ns, dy, wf, t, m, b, ()), ()) K hx => by
  obtain ⟨h1, hK⟩ := hx
  have h1 : ns.length ≤ 1000 := h1
  show xfn2 Try.prog { f2 := [(63, fcClN)] } 5 34 fcNts ((ss, ns, dy, wf, t, m, b, ()), ()) K
  rw [v34F]
  simp only [fork_iff, req_iff, decide_eq_true_eq, Nat.zero_add, seg_self, Nat.le_refl, true_and, List.nil_append]
  exact ⟨h1, hK ns rfl⟩
theorem h33L (ss : List Su) (ns : List Nt) (dy wf t : Int) (m : List (Tx × Int)) (b : Bool) (w i : Int) (Q : AX → St → Prop) (h0 : 0 ≤ i) (h1 : i ≤ ss.length) (hl : ss.length ≤ 256) (hx : ∀ x ∈ ss, 0 ≤ x.2.1 ∧ x.2.1 ≤ 67108864) (w0 : 0 ≤ w) (w1 : w ≤ i * 67108864)
    (hQ : ∀ r : Int, r = w + waitsN (ss.drop i.toNat) → Q (.exit 0) (stS 4 sh33e ((ss, ns, dy, wf, t, m, b, ()), r, ()))) :
    xloop2 Try.prog {} 5 33 0 lc33 (fun _ => some (sh33e, 4)) (fun (pu, _, _, _, i, _) => mL pu.1 i) ((ss, ns, dy, wf, t, m, b, ()), w, ss.length, (ss.length : Int), i, ()) Q := by
  rw [v33L]
  simp only [fork_iff, req_iff, decide_eq_true_eq, decide_eq_false_iff_not, beq_iff_eq, beq_eq_false_iff_ne, ne_eq, true_and]
  refine ⟨fun hi => ⟨⟨h0, hi⟩, by omega, ?_⟩, fun hi => hQ _ (by rw [drop_end hi]; simp [sumB_nil])⟩
  rw [drop_step U0 h0 hi] at hQ
  unfold waitsN at hQ
  rw [sumB_cons] at hQ
  have hm := hx _ (getSu_mem (show i.toNat < ss.length by omega))
  rw [show (([], 0, 0, 0, 0) : Su) = U0 from rfl]
  generalize ss.getD i.toNat U0 = x at *
  refine ⟨fun hs => ?_, fun hs => ?_⟩
  · rw [if_pos (show heldB x = true from decide_eq_true hs)] at hQ
    exact ⟨inR_i64.2 (by omega), inR_i64.2 (by omega), mL_lt hi, ⟨⟨show (0 : Int) ≤ i + 1 by omega, show i + 1 ≤ (ss.length : Int) by omega, hl, hx, show (0 : Int) ≤ w + x.2.1 by omega, show w + x.2.1 ≤ (i + 1) * 67108864 by omega⟩, fun r hr => hQ r (by have hr : r = _ + sumB heldB _ := hr; omega)⟩⟩
  · rw [if_neg (show ¬ heldB x = true from fun e => hs (of_decide_eq_true e))] at hQ
    exact ⟨inR_i64.2 (by omega), mL_lt hi, ⟨⟨show (0 : Int) ≤ i + 1 by omega, show i + 1 ≤ (ss.length : Int) by omega, hl, hx, w0, show w ≤ (i + 1) * 67108864 by omega⟩, fun r hr => hQ r (by have hr : r = _ + sumB heldB _ := hr; omega)⟩⟩
theorem ok33L : Lp2Ok Try.prog 33 0 lc33 := lp2_of (n := 5) (ex := fun _ => some (sh33e, 4)) (m := fun (pu, _, _, _, i, _) => mL pu.1 i) (good2_nil _) fun ((ss, ns, dy, wf, t, m, b, ()), w, n, k, i, ()) Q hx => by
  obtain ⟨⟨g1, g2, g3, g4, g5, g6, g7, g8⟩, hQ⟩ := hx
  have g1 : n = ss.length := g1
  have g2 : k = (ss.length : Int) := g2
  subst g1 g2
  exact h33L ss ns dy wf t m b w i Q g3 g4 g5 g6 g7 g8 hQ
theorem sum_mem {s : PS} (h : okP s) : ∀ x ∈ s.2.2.2.1, 0 ≤ x.2.1 ∧ x.2.1 ≤ 67108864 := fun x hx => ⟨by have := (h.su x hx).sum.1; omega, (h.su x hx).sum.2⟩
theorem ok33 : F2Ok Try.prog 33 fcHolds := fn2_of (n := 5) ((good2_nil _).addL2 ok33L) fun ((ss, ns, dy, wf, t, m, b, ()), ()) K hx => by
  obtain ⟨⟨g1, g2⟩, hK⟩ := hx
  have g2 : b = true := g2
  subst g2
  have hl := g1.len
  have hm := sum_mem g1
  simp only at hl hm
  show xfn2 Try.prog { l2 := [(33, 0, lc33)] } 5 33 fcHolds ((ss, ns, dy, wf, t, m, true, ()), ()) K
  rw [v33F]
  simp only [fork_iff, req_iff, decide_eq_true_eq, Nat.zero_add, seg_self, Nat.le_refl, true_and, List.nil_append, List.drop_zero, Int.zero_add]
  exact ⟨⟨Int.le_refl (0 : Int), Int.natCast_nonneg _, hl, hm, Int.le_refl (0 : Int), by decide⟩, fun r hr => hK r hr⟩
theorem ok39 : F2Ok Try.prog 39 fcOwed := fn2_of (n := 5) (good2_nil _) fun ((ss, ns, dy, wf, t, m, b, ()), p, ()) K hx => by
  obtain ⟨⟨g1, g2, g3⟩, hK⟩ := hx
  have g2 : b = true := g2
  subst g2
  show xfn2 Try.prog {} 5 39 fcOwed ((ss, ns, dy, wf, t, m, true, ()), p, ()) K
  rw [v39F]
  have g3 : mapS m ss := g3
  rw [g3 p]
  by_cases hi : ixS ss p < 0
  · rw [if_pos hi]
    simp only [fork_iff, req_iff, decide_eq_true_eq, Nat.zero_add, seg_self, Nat.le_refl, true_and, Option.isSome_none, Bool.not_eq_true', Bool.not_eq_false']
    refine ⟨fun _ => hK U0 73 (by unfold owedI; rw [if_pos hi]), fun h => by cases h⟩
  · rw [if_neg hi]
    obtain ⟨i0, i1, i2⟩ := ixS_at hi
    simp only [fork_iff, req_iff, decide_eq_true_eq, Nat.zero_add, seg_self, Nat.le_refl, true_and, Option.isSome_some, Option.getD_some, Bool.not_eq_true', Bool.not_eq_false']
    exact ⟨fun h => (by cases h), fun _ => ⟨⟨i0, i1⟩, by omega, hK _ _ (by unfold owedI; rw [if_neg hi]; rfl)⟩⟩

/-! acts of the statements -/
theorem pay_names (s : PS) (d : Int) (p : Tx) : (payI s d p).1.2.2.2.1.map (·.1) = s.2.2.2.1.map (·.1) := by
  unfold payI
  split
  · rfl
  split
  · rfl
  rename_i hi
  split
  · rfl
  obtain ⟨i0, i1, -⟩ := ixS_at hi
  exact names_set (by omega)
theorem pass_names (s : PS) (d : Int) : (passI s d).1.2.2.2.1.map (·.1) = s.2.2.2.1.map (·.1) := by
  unfold passI
  split
  · rfl
  exact names_pass _ _ _
theorem give_names (s : PS) (d : Int) (w : List Int) : (giveI s d w).1.2.2.2.1 = s.2.2.2.1 := by
  unfold giveI
  split
  · rfl
  split <;> rfl
theorem h30F (ss : List Su) (ns : List Nt) (dy wf t : Int) (m : List (Tx × Int)) (k d pr : Int) (ps : List Pa) (p : Tx) (w : List Int) (K : fcDone.post.den → Prop) (g1 : okP (dy, wf, t, ss, ns)) (g3 : ns.length ≤ 1000) (g4 : mapS m ss) (g5 : okA (k, d, pr, ps, p, w))
    (hK : ∀ (ss1 : List Su) (ns1 : List Nt) (dy1 wf1 : Int) (m1 : List (Tx × Int)) (os : List Po) (l : List Int) (e : Int), ((dy1, wf1, t, ss1, ns1), os, l, e) = actI (dy, wf, t, ss, ns) (k, d, pr, ps, p, w) → mapS m1 ss1 → K ((ss1, ns1, dy1, wf1, t, m1, true, ()), (), os, l, e, ())) :
    xfn2 Try.prog { nm := true, f2 := [(42, fcSell), (44, fcPay), (45, fcGive), (46, fcPass)] } 5 30 fcDone ((ss, ns, dy, wf, t, m, true, ()), (k, d, pr, ps, p, w), ()) K := by
  rw [v30F]
  simp only [fork_iff, req_iff, decide_eq_true_eq, beq_iff_eq, beq_eq_false_iff_ne, ne_eq, Nat.zero_add, seg_self, Nat.le_refl, true_and]
  refine ⟨fun h1 => ⟨⟨g1, g3, g4, g5.parts⟩, fun ss1 ns1 dy1 wf1 m1 os e he hm => ?_⟩, fun h1 => ⟨fun h2 => ⟨⟨g1, g3, g4⟩, fun ss1 ns1 dy1 wf1 n e he => ?_⟩, fun h2 => ⟨fun h3 => ⟨⟨g1, g3⟩, fun ss1 ns1 dy1 wf1 n e he => ?_⟩, fun h3 => ⟨⟨g1, g3, g5.weights⟩, fun ss1 ns1 dy1 wf1 l e he => ?_⟩⟩⟩⟩
  · refine hK ss1 ns1 dy1 wf1 m1 os [] e ?_ hm
    unfold actI; rw [if_pos h1]; simp only; rw [← he]
  · refine hK ss1 ns1 dy1 wf1 m [] [n] e ?_ (mapS_names ?_ g4)
    · unfold actI; rw [if_neg h1, if_pos h2]; simp only; rw [← he]
    · have := pay_names (dy, wf, t, ss, ns) d p; rw [← he] at this; exact this.symm
  · refine hK ss1 ns1 dy1 wf1 m [] [n] e ?_ (mapS_names ?_ g4)
    · unfold actI; rw [if_neg h1, if_neg h2, if_pos h3]; simp only; rw [← he]
    · have := pass_names (dy, wf, t, ss, ns) d; rw [← he] at this; exact this.symm
  · refine hK ss1 ns1 dy1 wf1 m [] l e ?_ ?_
    · unfold actI; rw [if_neg h1, if_neg h2, if_neg h3]; simp only; rw [← he]
    · have := give_names (dy, wf, t, ss, ns) d w; rw [← he] at this; simp only at this; rw [this]; exact g4
theorem ok30 : F2Ok Try.prog 30 fcDone := fn2_of (n := 5) (((((good2_nilN _).addF2 ok46).addF2 ok45).addF2 ok44).addF2 ok42) fun ((ss, ns, dy, wf, t, m, b, ()), (k, d, pr, ps, p, w), ()) K hx => by
  obtain ⟨⟨g1, g2, g3, g4, g5⟩, hK⟩ := hx
  have g2 : b = true := g2
  subst g2
  exact h30F ss ns dy wf t m k d pr ps p w K g1 g3 g4 g5 hK
end Go.P7
