/- The law of more: the code answers true. No conditions. -/
import Derived.Test.YtnjaebjhfilljaaMoreS
import Derived.Test.YtnjaebjhfilljaaRanksP
set_option linter.constructorNameAsVariable false
set_option linter.unusedVariables false
set_option linter.unusedSimpArgs false
set_option maxRecDepth 100000
namespace Go.P7
open Go.Lom Go.Proofs Go

theorem h6L (w l k : List Int) (i : Int) (m : List Int) (j : Int) (Q : LQ) : s6L w l k i m j Q → xloop Try.prog [] [] 5 6 0 lc6 ex6 (fun x => mLen x.1 x.2.2.2.2.2.1) (w, l, k, i, m, j, ()) Q := by
  intro ⟨⟨hp, h0, h1⟩, hQ⟩
  rw [v6L]
  obtain ⟨p1, p2, p3, p4, p5⟩ := id hp
  simp only [fork_iff, req_iff, decide_eq_true_eq, decide_eq_false_iff_not, bne_iff_ne, ne_eq, beq_iff_eq, bne_eq_false_iff_eq, beq_eq_false_iff_ne]
  refine ⟨fun hj => ?_, fun hj => hQ⟩
  have go : inR .i64 (j + 1) = true ∧ mLen w (j + 1) < mLen w j ∧ LC.spec lc6 (w, l, k, i, m, j + 1, ()) Q := ⟨inR_i64.2 (by omega), mLen_lt hj, show s6L w l k i m (j + 1) Q from ⟨⟨hp, by omega, by omega⟩, hQ⟩⟩
  obtain ⟨q1, q2, q3⟩ := p5 j.toNat (by omega)
  rw [show ((j.toNat : Nat) : Int) = j from by omega] at q2 q3
  refine ⟨by omega, by omega, fun h => by omega, fun _ => ⟨fun e => ⟨by omega, by omega, fun h => by have := q2 e; omega, fun _ => ⟨fun h => absurd e h, fun _ => go⟩⟩, fun e => ⟨fun _ => ⟨by omega, by omega, fun h => by have := q3 e; omega, fun _ => go⟩, fun h => absurd h e⟩⟩⟩
theorem ok6L : LpOk Try.prog 6 0 lc6 := lp_of (n := 5) (ex := ex6) (m := fun x => mLen x.1 x.2.2.2.2.2.1) (good_nil _) fun (w, l, k, i, m, j, ()) Q hx => h6L w l k i m j Q hx
theorem seg00 : seg 0 0 ([] : List Int) = [] := rfl
theorem h6F (w : List Int) (s a b c : Int) (K : dens [.b] → Prop) : sLaw6 w a b c (fun r => K (r, ())) → xfn Try.prog [(14, fcSh), (26, fcRing), (19, fcWorks)] [(6, 0, lc6)] 5 6 fc6 (w, s, (a, b, c), ()) K := by
  intro ⟨h1, hK⟩
  rw [v6F, show seg 0 0 ([] : List Int) ++ w = w from rfl, Nat.zero_add, Nat.zero_add]
  simp only [fork_iff, req_iff, decide_eq_true_eq, decide_eq_false_iff_not, bne_iff_ne, ne_eq, beq_iff_eq, bne_eq_false_iff_eq, beq_eq_false_iff_ne, seg00, List.nil_append, Nat.zero_add, List.length_set, true_and, and_true]
  refine ⟨h1, fun r e hre => ?_⟩
  rcases shareR_cases hre with ⟨rfl, hv, h2, h3, rfl⟩ | ⟨he, rfl⟩
  rotate_left
  · exact ⟨fun _ => ⟨fun _ => hK, fun h => absurd h he⟩, fun h => absurd h he⟩
  have w12 := validW_iff.1 hv
  obtain ⟨l1, l2, l3⟩ := share_law hv h2
  have w0 : ∀ k : Nat, 0 ≤ w.getD k 0 ∧ w.getD k 0 ≤ 67108864 := fun k => getD_all (p := fun x => 0 ≤ x ∧ x ≤ 67108864) w12.2.1 (by omega) k
  refine ⟨fun h => absurd rfl h, fun _ => ⟨fun h => absurd (by rw [l1.1]) h, fun _ => ⟨by omega, fun r1 hr1 => ?_⟩⟩⟩
  have g1 := ringI_range (n := a) (m := 1000) (by omega)
  rw [← hr1] at g1
  refine ⟨inR_i64.2 (by omega), h1, fun r2 e2 hre2 => ?_⟩
  generalize ht : (if s + r1 < 34359738368 then s + r1 else 34359738368) = t at hre2
  have ht2 : s ≤ t ∧ t ≤ 34359738368 := by subst ht; split <;> omega
  rw [shareR_ok hv ⟨by omega, ht2.2⟩] at hre2
  simp only [Prod.mk.injEq] at hre2
  obtain ⟨rfl, rfl⟩ := hre2
  obtain ⟨k1, k2, k3⟩ := share_law hv (by omega : 0 ≤ t)
  refine ⟨fun h => absurd rfl h, fun _ => ⟨fun h => absurd (by rw [k1.1]) h, fun _ => ⟨by omega, fun i hi => ?_⟩⟩⟩
  have g2 := ringI_range (n := b) (m := w.length) (by omega)
  rw [← hi] at g2
  have hd : i.toNat < w.length := by omega
  refine ⟨fits8 (by omega), g2, hd, by omega, fun r4 hr4 => ⟨hd, ?_⟩⟩
  have g3 := ringI_range (n := c) (m := 5000) (by omega)
  rw [← hr4] at g3
  have wi := w0 i.toNat
  refine ⟨inR_i64.2 (by omega), g2, hd, Nat.le_refl _, ?_⟩
  generalize hu : (if w.getD i.toNat 0 + r4 < 67108864 then w.getD i.toNat 0 + r4 else 67108864) = u
  have hu2 : w.getD i.toNat 0 ≤ u ∧ u ≤ 67108864 := by subst hu; split <;> omega
  rw [seg_len _ _ (by simp)]
  have vget : ∀ k : Nat, (w.set i.toNat u).getD k 0 = if i.toNat = k then u else w.getD k 0 := fun k => getD_set w i.toNat k u (by omega)
  have hvv : validW (w.set i.toNat u) = true := validW_iff.2 ⟨by simp; omega, fun x hx => by
    rcases mem_set_cases hx with rfl | hx
    · omega
    · exact w12.2.1 x hx, by
    have := sum_le_getD (w := w) (l := w.set i.toNat u) (by simp) fun k hk => by rw [vget]; split
                                                                                 · rename_i e; subst e; exact hu2.1
                                                                                 · exact Int.le_refl _
    omega⟩
  refine ⟨by simp; omega, fun r5 e5 hre5 => ?_⟩
  rw [shareR_ok hvv ⟨h2, h3⟩] at hre5
  simp only [Prod.mk.injEq] at hre5
  obtain ⟨rfl, rfl⟩ := hre5
  obtain ⟨m1, m2, m3⟩ := share_law hvv h2
  have ml : (shareL (w.set i.toNat u) s).length = w.length := by rw [m1.1, List.length_set]
  have mw := more_weight (i := i.toNat) l1 m1 (by simp) (fun k => (w0 k).1) (by omega) (by omega) (by rw [vget, if_pos rfl]; exact hu2.1) fun k hk => by rw [vget, if_neg (fun e => hk e.symm)]
  refine ⟨fun h => absurd rfl h, fun _ => ⟨fun h => absurd (by rw [ml]) h, fun _ => ⟨⟨⟨by omega, l1.1, k1.1, ml, fun j hj => ⟨more_sum l1 k1 (fun k => (w0 k).1) (by omega) j hj, fun e => ?_, fun e => mw.2 j hj (by omega)⟩⟩, by omega, by omega⟩, hK⟩⟩⟩
  rw [show j = i.toNat from by omega]; exact mw.1
theorem ok6 : FnOk Try.prog 6 fc6 := fn_of (n := 5) ((((good_nil _).addL ok6L).addF okWorks').addF ok26 |>.addF ok14) fun (w, s, (a, b, c), ()) K hx => h6F w s a b c K hx
end Go.P7
