/- Share of both sides; the law of the cents: the code answers true. No conditions. -/
import Derived.Test.YtnjaebjhfilljaaShareP3
import Derived.Test.YtnjaebjhfilljaaFairS
import Derived.Test.YtnjaebjhfilljaaFairL
import Derived.Test.YtnjaebjhfilljaaWorks
set_option linter.constructorNameAsVariable false
set_option linter.unusedVariables false
set_option linter.unusedSimpArgs false
set_option maxRecDepth 100000
namespace Go.P7
open Go.Lom Go.Proofs Go

theorem shareR_bad {w : List Int} {s : Int} (h : validW w = false) : shareR w s = ([], 70) := by unfold shareR; rw [if_neg (by rw [h]; simp)]
theorem shareR_out {w : List Int} {s : Int} (h : validW w = true) (h1 : ¬ (0 ≤ s ∧ s ≤ 34359738368)) : shareR w s = ([], 7) := by unfold shareR; rw [if_pos h, if_neg h1]
theorem shareR_ok {w : List Int} {s : Int} (h : validW w = true) (h1 : 0 ≤ s ∧ s ≤ 34359738368) : shareR w s = (shareL w s, 0) := by unfold shareR; rw [if_pos h, if_pos h1]
theorem shareR_cases {w : List Int} {s : Int} {r : List Int} {e : Int} (h : shareR w s = (r, e)) : (e = 0 ∧ validW w = true ∧ 0 ≤ s ∧ s ≤ 34359738368 ∧ r = shareL w s) ∨ (e ≠ 0 ∧ r = []) := by
  unfold shareR at h
  split at h
  · rename_i hv
    split at h
    · rename_i hs; injection h with h1 h2; exact .inl ⟨h2.symm, hv, hs.1, hs.2, h1.symm⟩
    · injection h with h1 h2; exact .inr ⟨by omega, h1.symm⟩
  · injection h with h1 h2; exact .inr ⟨by omega, h1.symm⟩

theorem h14F (w : List Int) (s : Int) (K : dens [L, E] → Prop) : sSh w s (fun r e => K (r, e, ())) → xfn Try.prog [(47, fc47), (49, fcShare)] [] 5 14 fcSh (w, s, ()) K := by
  intro ⟨h1, h2⟩
  rw [v14F]
  simp only [fork_iff, decide_eq_true_eq, decide_eq_false_iff_not, Bool.not_eq_true', Bool.not_eq_false']
  refine ⟨h1, fun h => h2 _ _ (shareR_bad h), fun h => ⟨fun h3 => ⟨fun h4 => h2 _ _ (shareR_out h (by omega)), fun h4 => ⟨⟨h, h3, h4⟩, fun r hr => ?_⟩⟩, fun h3 => h2 _ _ (shareR_out h (by omega))⟩⟩
  rw [hr]; exact h2 _ _ (shareR_ok h ⟨h3, h4⟩)
theorem ok14 : FnOk Try.prog 14 fcSh := fn_of (n := 5) (((good_nil _).addF ok49).addF ok47) fun (w, s, ()) K hx => h14F w s K hx
theorem h15F (w : List Int) (s : Int) (K : dens [L, E] → Prop) : sSh w s (fun r e => K (r, e, ())) → xfn Try.prog [(50, fc47), (51, fcShare)] [] 5 15 fcSh (w, s, ()) K := by
  intro ⟨h1, h2⟩
  rw [v15F]
  simp only [fork_iff, decide_eq_true_eq, decide_eq_false_iff_not, Bool.not_eq_true', Bool.not_eq_false']
  refine ⟨h1, fun h => h2 _ _ (shareR_bad h), fun h => ⟨fun h3 => ⟨fun h4 => h2 _ _ (shareR_out h (by omega)), fun h4 => ⟨⟨h, h3, h4⟩, fun r hr => ?_⟩⟩, fun h3 => h2 _ _ (shareR_out h (by omega))⟩⟩
  rw [hr]; exact h2 _ _ (shareR_ok h ⟨h3, h4⟩)
theorem ok15 : FnOk Try.prog 15 fcSh := fn_of (n := 5) (((good_nil _).addF ok51).addF ok50) fun (w, s, ()) K hx => h15F w s K hx

theorem h24F (a n b : Int) (K : dens [.b] → Prop) : sFrom a n b (fun r => K (r, ())) → xfn Try.prog [] [] 5 24 fcFrom (a, n, b, ()) K := by
  intro h
  unfold sFrom at h
  rw [v24F]
  simp only [fork_iff, decide_eq_true_eq, decide_eq_false_iff_not]
  refine ⟨fun h1 => ?_, fun h1 => ?_⟩
  · rw [show decide (a ≤ n ∧ n ≤ b) = decide (n ≤ b) from by simp [h1]] at h; exact h
  · rw [show decide (a ≤ n ∧ n ≤ b) = false from by simp [h1]] at h; exact h
theorem ok24 : FnOk Try.prog 24 fcFrom := fn_of (n := 5) (good_nil _) fun (a, n, b, ()) K hx => h24F a n b K hx
theorem h25F (a b : Int) (K : dens [I] → Prop) : sDown a b (fun r => K (r, ())) → xfn Try.prog [] [] 5 25 fcDown (a, b, ()) K := by
  intro ⟨⟨h0, h1, h2⟩, hK⟩
  rw [v25F]
  simp only [fork_iff, req_iff, decide_eq_true_eq, decide_eq_false_iff_not]
  have h3 : a.tdiv b * b ≤ a := by rw [Int.tdiv_eq_ediv_of_nonneg h0]; exact Int.ediv_mul_le _ (by omega)
  have h4 : 0 ≤ a.tdiv b := by rw [Int.tdiv_eq_ediv_of_nonneg h0]; exact Int.ediv_nonneg h0 (by omega)
  have h5 : a.tdiv b ≤ a.tdiv b * b := by
    have := Int.mul_le_mul_of_nonneg_left (show (1 : Int) ≤ b by omega) h4
    omega
  exact ⟨by omega, inR_i64.2 (by omega), inR_i64.2 (by omega), fun h => by omega, fun _ => hK⟩
theorem ok25 : FnOk Try.prog 25 fcDown := fn_of (n := 5) (good_nil _) fun (a, b, ()) K hx => h25F a b K hx
theorem okWorks' : FnOk Try.prog 19 fcWorks := okWorks

theorem p5_facts {w : List Int} {s : Int} {l : List Int} {all : Int} (h : p5 w s l all) : l.length = w.length ∧ all = w.sum ∧ 0 < all ∧ (∀ k : Nat, 0 ≤ w.getD k 0 ∧ w.getD k 0 ≤ 67108864) ∧ (∀ k : Nat, 0 ≤ l.getD k 0 ∧ l.getD k 0 ≤ s) ∧ fairs w l ∧ (∀ k : Nat, (s * w.getD k 0).tdiv w.sum ≤ l.getD k 0) ∧ l.sum = s := by
  obtain ⟨hv, h0, h1, rfl, rfl⟩ := h
  obtain ⟨⟨w1, w2⟩, w3, w4⟩ := validW_iff.1 hv
  obtain ⟨g1, g2, g3⟩ := share_law hv h0
  have hn : ∀ x ∈ shareL w s, 0 ≤ x := fun x hx => by
    obtain ⟨i, hi, hxi⟩ := List.mem_iff_getElem.1 hx
    have := g1.2.1 i
    rw [List.getD_eq_getElem?_getD, List.getElem?_eq_getElem hi, hxi] at this
    exact this
  have hle := elem_le_sum hn
  exact ⟨g1.1, rfl, w4, fun k => getD_all (p := fun x => 0 ≤ x ∧ x ≤ 67108864) w3 (by omega) k, fun k => getD_all (p := fun x => 0 ≤ x ∧ x ≤ s) (fun x hx => ⟨hn x hx, by have := hle x hx; omega⟩) (by omega) k, g1, g2, g3⟩

theorem h5b (w : List Int) (s : Int) (l : List Int) (all i k : Int) (Q : LQ) : s5b w s l all i k Q → xloop Try.prog [] [] 5 5 1 lc5b ex5b (fun x => mLen x.1 x.2.2.2.2.2.1) (w, s, l, all, i, k, ()) Q := by
  intro ⟨⟨hp, hi0, hi1, hk0, hk1⟩, hQ⟩
  rw [v5b]
  obtain ⟨f1, f2, f3, f4, f5, f6, f7, f8⟩ := p5_facts hp
  obtain ⟨hv, hs0, hs1, hl, ha⟩ := id hp
  have fair := f6.2.2.2
  simp only [fork_iff, req_iff, decide_eq_true_eq, decide_eq_false_iff_not, bne_iff_ne, ne_eq, beq_iff_eq]
  refine ⟨fun hk => ?_, fun hk => hQ⟩
  have go : inR .i64 (k + 1) = true ∧ mLen w (k + 1) < mLen w k ∧ LC.spec lc5b (w, s, l, all, i, k + 1, ()) Q := ⟨inR_i64.2 (by have := validW_iff.1 hv; omega), mLen_lt hk, show s5b w s l all i (k + 1) Q from ⟨⟨hp, hi0, hi1, by omega, by omega⟩, hQ⟩⟩
  have fair := fair i.toNat k.toNat (by omega) (by omega)
  have a1 := f4 i.toNat
  have a2 := f4 k.toNat
  have a3 := f5 i.toNat
  have a4 := f5 k.toNat
  generalize w.getD i.toNat 0 = wi at *
  generalize w.getD k.toNat 0 = wk at *
  generalize l.getD i.toNat 0 = li at *
  generalize l.getD k.toNat 0 = lk at *
  have b1 := prod_in (a := lk + 1) (b := wi) (by omega) (by omega) a1.1 a1.2
  have b2 := prod_in (a := li) (b := wk) (by omega) (by omega) a2.1 a2.2
  refine ⟨by omega, by omega, inR_i64.2 (by omega), inR_i64.2 (by omega), by omega, by omega, inR_i64.2 (by omega), fun hne => ⟨by omega, fun hpos => ⟨fun hlt => ?_, fun hge => ⟨fun heq => ⟨fun hki => ?_, fun _ => go⟩, fun _ => go⟩⟩, fun _ => go⟩, fun _ => go⟩
  · have := fair (by omega) hpos; omega
  · have := fair (by omega) hpos; omega
theorem ok5b : LpOk Try.prog 5 1 lc5b := lp_of (n := 5) (ex := ex5b) (m := fun x => mLen x.1 x.2.2.2.2.2.1) (good_nil _) fun (w, s, l, all, i, k, ()) Q hx => h5b w s l all i k Q hx
theorem h5a (w : List Int) (s : Int) (l : List Int) (all i : Int) (Q : LQ) : s5a w s l all i Q → xloop Try.prog [(24, fcFrom), (25, fcDown)] [(5, 1, lc5b)] 5 5 0 lc5a ex5a (fun x => mLen x.1 x.2.2.2.2.1) (w, s, l, all, i, ()) Q := by
  intro ⟨⟨hp, hi0, hi1⟩, hQ⟩
  rw [v5a]
  obtain ⟨f1, f2, f3, f4, f5, f6, f7, f8⟩ := p5_facts hp
  obtain ⟨hv, hs0, hs1, hl, ha⟩ := id hp
  simp only [fork_iff, req_iff, decide_eq_true_eq, decide_eq_false_iff_not, Bool.not_eq_true', Bool.not_eq_false']
  refine ⟨fun hi => ?_, fun hi => hQ⟩
  have go : (p5 w s l all ∧ (0 : Int) ≤ i ∧ i < (↑(List.length w) : Int) ∧ (0 : Int) ≤ (0 : Int) ∧ (0 : Int) ≤ (↑(List.length w) : Int)) ∧ inR .i64 (i + 1) = true ∧ mLen w (i + 1) < mLen w i ∧ LC.spec lc5a (w, s, l, all, i + 1, ()) Q :=
    ⟨⟨hp, hi0, hi, by omega, by omega⟩, inR_i64.2 (by have := validW_iff.1 hv; omega), mLen_lt hi, show s5a w s l all (i + 1) Q from ⟨⟨hp, by omega, by omega⟩, hQ⟩⟩
  have le := fun h => fairs_le (fun k => (f4 k).1) f6 h i.toNat (by omega)
  have a1 := f4 i.toNat
  have a3 := f5 i.toNat
  have a7 := f7 i.toNat
  rw [← f2] at a7
  generalize w.getD i.toNat 0 = wi at *
  generalize l.getD i.toNat 0 = li at *
  have b1 := prod_in (a := s) (b := wi) (by omega) (by omega) a1.1 a1.2
  rw [Int.mul_comm] at b1
  refine ⟨by omega, fun h => absurd a3 h, fun _ => ⟨by omega, by omega, inR_i64.2 (by omega), ⟨by omega, by omega, by omega⟩, trivial, fun h => by omega, fun _ => ⟨fun hall => ⟨by omega, by omega, fun h => ?_, fun _ => go⟩, fun _ => go⟩⟩⟩
  have := le (by omega); omega
theorem ok5a : LpOk Try.prog 5 0 lc5a := lp_of (n := 5) (ex := ex5a) (m := fun x => mLen x.1 x.2.2.2.2.1) ((((good_nil _).addL ok5b).addF ok25).addF ok24) fun (w, s, l, all, i, ()) Q hx => h5a w s l all i Q hx
theorem h5F (w : List Int) (s : Int) (K : dens [.b] → Prop) : sLaw w (fun r => K (r, ())) → xfn Try.prog [(14, fcSh), (23, fcSum), (19, fcWorks)] [(5, 0, lc5a)] 5 5 fc5 (w, s, ()) K := by
  intro ⟨h1, hK⟩
  rw [v5F]
  simp only [fork_iff, bne_iff_ne, ne_eq, beq_iff_eq, bne_eq_false_iff_eq, beq_eq_false_iff_ne]
  refine ⟨h1, fun r e hre => ?_⟩
  rcases shareR_cases hre with ⟨rfl, hv, h2, h3, hr⟩ | ⟨he, rfl⟩
  · have hp : p5 w s r w.sum := ⟨hv, h2, h3, hr, rfl⟩
    obtain ⟨f1, f2, f3, f4, f5, f6, f7, f8⟩ := p5_facts hp
    have w12 := validW_iff.1 hv
    refine ⟨fun h => absurd rfl h, fun _ => ⟨fitW hv, fun h => absurd (by omega) h, fun _ => ⟨⟨by omega, ?_⟩, fun h => absurd f8 h, fun _ => ⟨⟨hp, by omega, by omega⟩, hK⟩⟩⟩⟩
    refine fitS_of (B := s) (fun x hx => ?_) (by omega) ?_ h2
    · obtain ⟨i, hi, hxi⟩ := List.mem_iff_getElem.1 hx
      have := f5 i
      rw [List.getD_eq_getElem?_getD, List.getElem?_eq_getElem hi, hxi] at this
      exact this
    · have hl : (r.length : Int) ≤ 24 := by omega
      have : (r.length : Int) * s ≤ 24 * 34359738368 := Int.mul_le_mul hl h3 h2 (by omega)
      omega
  · exact ⟨fun _ => ⟨fun _ => hK, fun h => absurd rfl h⟩, fun h => absurd h he⟩
theorem ok5 : FnOk Try.prog 5 fc5 := fn_of (n := 5) (((((good_nil _).addL ok5a).addF okWorks').addF okSum).addF ok14) fun (w, s, ()) K hx => h5F w s K hx
end Go.P7
