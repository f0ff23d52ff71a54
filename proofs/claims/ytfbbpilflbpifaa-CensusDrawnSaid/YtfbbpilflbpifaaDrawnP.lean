/- CensusDrawn returns true. No conditions. -/
import Derived.Test.YtfbbpilflbpifaaDrawnS
set_option linter.constructorNameAsVariable false
set_option linter.unusedVariables false
set_option linter.unusedSimpArgs false
set_option maxRecDepth 100000
set_option maxHeartbeats 4000000
namespace Go.P10
open Go.Lom Go.Proofs Go

theorem any_step {p : Int → Bool} {d : List Int} {i : Int} (h0 : 0 ≤ i) (h1 : i < d.length) : (d.drop i.toNat).any p = (p (d.getD i.toNat 0) || (d.drop (i + 1).toNat).any p) := by
  rw [drop_step 0 h0 h1, List.any_cons]
theorem h9B (n m x w a o mi r : Int) (d : List Int) (h : Bool) (i : Int) (Q : LQ) (h0 : 0 ≤ i) (h1 : i ≤ m) (h2 : (d.length : Int) = m) (h3 : m ≤ 5) (hQ : ∀ h' : Bool, h' = (h || (d.drop i.toNat).any fun y => decide (y < x)) → Q (.exit 2) (stS 0 sh9be (n, m, x, w, a, o, mi, r, h', ()))) :
    xloop2 Try.prog {} 5 9 1 lc9b (fun _ => some (sh9be, 0)) (fun (_, m, _, _, _, _, _, _, _, _, i, _) => (m - i).toNat) (n, m, x, w, a, o, mi, r, d, h, i, ()) Q := by
  rw [v9B]
  refine fork_iff.2 ⟨fun hi => ?_, fun hi => ?_⟩
  · have hi : i < m := of_decide_eq_true hi
    rw [any_step h0 (by omega)] at hQ
    refine fork_iff.2 ⟨fun hh => ?_, fun hh => ?_⟩
    · rw [hh] at hQ
      exact req_iff.2 ⟨inR_i64.2 (by omega), show (m - (i + 1)).toNat < (m - i).toNat by omega, ⟨⟨show (0 : Int) ≤ i + 1 by omega, show i + 1 ≤ m by omega⟩, h2, h3⟩, fun h' hh' => hQ h' (by rw [hh']; simp)⟩
    · rw [hh, Bool.false_or] at hQ
      exact req_iff.2 ⟨decide_eq_true ⟨h0, by omega⟩, req_iff.2 ⟨inR_i64.2 (by omega), show (m - (i + 1)).toNat < (m - i).toNat by omega, ⟨⟨show (0 : Int) ≤ i + 1 by omega, show i + 1 ≤ m by omega⟩, h2, h3⟩, hQ⟩⟩
  · have hi : ¬ i < m := of_decide_eq_false hi
    rw [drop_end (by omega)] at hQ
    exact hQ h (by simp)
theorem ok9B : Lp2Ok Try.prog 9 1 lc9b := lp2_of (n := 5) (ex := fun _ => some (sh9be, 0)) (m := fun (_, m, _, _, _, _, _, _, _, _, i, _) => (m - i).toNat) (good2_nil _) fun (n, m, x, w, a, o, mi, r, d, h, i, ()) Q hx => by
  obtain ⟨⟨h0, h1, h2⟩, hQ⟩ := hx
  exact h9B n m x w a o mi r d h i Q h0.1 h0.2 h1 h2 hQ
theorem missN_succ (n m x : Int) (k : Nat) : missN n m x (k + 1) = missN n m x k + if missO n m x k = true then 1 else 0 := by
  unfold missN
  rw [List.range_succ, List.countP_append, List.countP_singleton]
  split <;> simp
theorem missN_bd (n m x : Int) (k : Nat) : 0 ≤ missN n m x k ∧ missN n m x k ≤ k := by
  unfold missN
  have := List.countP_le_length (p := fun j : Nat => missO n m x j) (l := List.range k)
  rw [List.length_range] at this
  omega
theorem h9A (n m x w a r : Int) (Q : LQ) (h1 : 1 ≤ n ∧ n ≤ 5) (h2 : 0 ≤ m ∧ m ≤ n) (h3 : 0 ≤ r ∧ r ≤ facI n.toNat) (hQ : ∀ o' mi' : Int, o' = facI n.toNat → mi' = missN n m x (facI n.toNat).toNat → Q (.exit 0) (stS 0 sh9ae (w, a, o', mi', ()))) :
    xloop2 Try.prog { nm := true, f := [(37, fc37), (39, fc39)], l2 := [(9, 1, lc9b)] } 5 9 0 lc9a ex9 (fun (n, _, _, _, _, _, _, r, _) => (facI n.toNat - r).toNat) (n, m, x, w, a, r, missN n m x r.toNat, r, ()) Q := by
  rw [v9A]
  have hf := fac5 (show n.toNat ≤ 5 by omega)
  have hp := fac_pos n.toNat
  refine ⟨inR_i64.2 (by omega), fun l e hle => ?_⟩
  have nz : ∀ {A B : Prop}, B → fork ((0 : Int) != 0) A B := fun h => fork_iff.2 ⟨fun c => absurd c (by decide), fun _ => h⟩
  by_cases hr : r < facI n.toNat
  · rw [unrankV, if_pos ⟨h1.1, by omega⟩, if_pos ⟨h3.1, hr⟩] at hle
    injection hle with g1 g2
    subst g2
    have hl : l.length = n.toNat := by rw [g1]; exact ordF_len n r
    have hl2 : (l.length : Int) = n := by omega
    have hd : drawV n m [r] = ((ordF n r).take m.toNat, 0) := by
      have hin : [r].all (inF n) = true := by
        simp only [List.all_cons, List.all_nil, Bool.and_true]
        exact decide_eq_true ⟨h3.1, by omega⟩
      have hmod : [r].sum % facI n.toNat = r := by rw [show [r].sum = r by simp]; exact Int.emod_eq_of_lt h3.1 hr
      rw [drawV, if_pos ⟨⟨h1.1, by omega⟩, by simp, hin⟩, if_pos h2, hmod]
    refine nz (fork_iff.2 ⟨fun c => absurd (of_decide_eq_true c) (by omega), fun _ => ⟨by decide, fun d e hde => ?_⟩⟩)
    rw [hd] at hde
    injection hde with g3 g4
    subst g4
    have hdl : (d.length : Int) = m := by rw [g3, List.length_take, ordF_len]; omega
    refine nz ?_
    rw [hdl, hl2]
    refine fork_iff.2 ⟨fun c => by simp at c, fun _ => fork_iff.2 ⟨fun c => by simp at c, fun _ => ⟨⟨⟨Int.le_refl 0, h2.1⟩, rfl, show m ≤ 5 by omega⟩, fun h' hh' => ?_⟩⟩⟩
    have hh' : h' = !missO n m x r := by
      rw [hh', Bool.false_or, List.drop_zero, g3]; unfold missO; rw [Bool.not_not]
    have hb := missN_bd n m x r.toNat
    have hs := missN_succ n m x r.toNat
    rw [show ((r.toNat : Nat) : Int) = r by omega] at hs
    refine req_iff.2 ⟨inR_i64.2 (by omega), fork_iff.2 ⟨fun c => ?_, fun c => ?_⟩⟩
    · rw [hh', Bool.not_not] at c
      rw [if_pos c] at hs
      exact req_iff.2 ⟨inR_i64.2 (by omega), req_iff.2 ⟨inR_i64.2 (by omega), show (facI n.toNat - (r + 1)).toNat < (facI n.toNat - r).toNat by omega, ⟨h1, h2, ⟨show (0 : Int) ≤ r + 1 by omega, show r + 1 ≤ facI n.toNat by omega⟩, rfl, by rw [← hs, show (r + 1).toNat = r.toNat + 1 by omega]⟩, hQ⟩⟩
    · rw [hh', Bool.not_not] at c
      rw [if_neg (by rw [c]; decide), Int.add_zero] at hs
      exact req_iff.2 ⟨inR_i64.2 (by omega), show (facI n.toNat - (r + 1)).toNat < (facI n.toNat - r).toNat by omega, ⟨h1, h2, ⟨show (0 : Int) ≤ r + 1 by omega, show r + 1 ≤ facI n.toNat by omega⟩, rfl, by rw [← hs, show (r + 1).toNat = r.toNat + 1 by omega]⟩, hQ⟩
  · rw [unrankV, if_pos ⟨h1.1, by omega⟩, if_neg (by omega)] at hle
    injection hle with g1 g2
    subst g2
    have hr : r = facI n.toNat := by omega
    refine fork_iff.2 ⟨fun _ => hQ _ _ hr (by rw [hr]), fun c => absurd c (by decide)⟩
theorem ok9A : Lp2Ok Try.prog 9 0 lc9a := lp2_of (n := 5) (ex := ex9) (m := fun (n, _, _, _, _, _, _, r, _) => (facI n.toNat - r).toNat) ((((good2_nilN _).addL2 ok9B).addF ok39).addF ok37) fun (n, m, x, w, a, o, mi, r, ()) Q hx => by
  obtain ⟨⟨h1, h2, h3, ho, hm⟩, hQ⟩ := hx
  have ho : o = r := ho
  have hm : mi = missN n m x r.toNat := hm
  subst ho hm
  exact h9A n m x w a o Q h1 h2 h3 hQ
/-! all of them, one by one -/
def chk9 (n m x : Int) : Bool := missN n m x (facI n.toNat).toNat * allM [n] [m] == prodM [n] [m] [x] * facI n.toNat && decide (0 ≤ allM [n] [m] ∧ allM [n] [m] ≤ 100 ∧ 0 ≤ prodM [n] [m] [x] ∧ prodM [n] [m] [x] ≤ 100)
def allChk9 : Bool := [1, 2, 3, 4, 5].all fun n : Nat => (List.range (n + 1)).all fun m => (List.range (n + 1)).all fun x => chk9 n m x
theorem all9 : allChk9 = true := by kernel_rfl
theorem chk_all {n m x : Int} (hn : 1 ≤ n ∧ n ≤ 5) (hm : 0 ≤ m ∧ m ≤ n) (hx : 0 ≤ x ∧ x ≤ n) : chk9 n m x = true := by
  have h := all9
  unfold allChk9 at h
  obtain ⟨a, rfl⟩ : ∃ a : Nat, n = a := ⟨n.toNat, by omega⟩
  obtain ⟨b, rfl⟩ : ∃ b : Nat, m = b := ⟨m.toNat, by omega⟩
  obtain ⟨c, rfl⟩ : ∃ c : Nat, x = c := ⟨x.toNat, by omega⟩
  refine List.all_eq_true.1 (List.all_eq_true.1 (List.all_eq_true.1 h a ?_) b (List.mem_range.2 (by omega))) c (List.mem_range.2 (by omega))
  have : a = 1 ∨ a = 2 ∨ a = 3 ∨ a = 4 ∨ a = 5 := by omega
  rcases this with h | h | h | h | h <;> rw [h] <;> decide
theorem h9 (n : Int × Int × Int) (K : dens [.b] → Prop) (h1 : inR .i64 n.1 = true) (h2 : inR .i64 n.2.1 = true) (h3 : inR .i64 n.2.2 = true) (hK : K (true, ())) : xfn1 Try.prog { nm := true, f := [(20, fc20), (25, fc25), (19, fcWorks)], l2 := [(9, 0, lc9a)] } 5 9 fc9 (n, ()) K := by
  rw [v9F]
  refine ⟨⟨h1, show (1 : Int) ≤ 5 by decide, show (5 : Int) ≤ 1000000 by decide⟩, fun (r : Int) hr => ?_⟩
  have hr : r = n.1 % 5 := hr
  have r0 := Int.emod_nonneg n.1 (show (5 : Int) ≠ 0 by decide)
  have r1 := Int.emod_lt_of_pos n.1 (show (0 : Int) < 5 by decide)
  rw [← hr] at r0 r1
  clear hr h1
  have s1 : 1 ≤ 1 + r ∧ 1 + r ≤ 5 := by omega
  generalize 1 + r = s at *
  have ins : inR .i64 s = true := inR_i64.2 (by omega)
  have ins1 : inR .i64 (s + 1) = true := inR_i64.2 (by omega)
  refine req_iff.2 ⟨ins, req_iff.2 ⟨ins1, req_iff.2 ⟨ins1, ⟨h2, show 1 ≤ s + 1 by omega, show s + 1 ≤ 1000000 by omega⟩, fun (m : Int) hm => ⟨rfl, ⟨h3, show 1 ≤ s + 1 by omega, show s + 1 ≤ 1000000 by omega⟩, fun (x : Int) hx => ?_⟩⟩⟩⟩
  have hm : m = n.2.1 % (s + 1) := hm
  have hx : x = n.2.2 % (s + 1) := hx
  have m0 := Int.emod_nonneg n.2.1 (show s + 1 ≠ 0 by omega)
  have m1 := Int.emod_lt_of_pos n.2.1 (show 0 < s + 1 by omega)
  have x0 := Int.emod_nonneg n.2.2 (show s + 1 ≠ 0 by omega)
  have x1 := Int.emod_lt_of_pos n.2.2 (show 0 < s + 1 by omega)
  rw [← hm] at m0 m1
  rw [← hx] at x0 x1
  clear hm hx
  have hA : okA ([s], [1], 1, 0) := ⟨⟨by simp, by simp; omega⟩, rfl, by simp, ⟨Int.le_refl 1, by simp; omega⟩, Int.le_refl 0, show (0 : Int) ≤ 1000 by decide⟩
  have e1 : eachB [s] [m] = true := by simp [eachB]; omega
  have e2 : eachB [s] [x] = true := by simp [eachB]; omega
  have hmf : missF ([s], [1], 1, 0) [m] [x] = (prodM [s] [m] [x], allM [s] [m], 0) := by rw [missF, if_pos hA, if_pos e1, if_pos e2]
  refine ⟨⟨⟨by simp [big], by simp [big]⟩, by decide, by decide⟩, fun p q e hpq => ?_⟩
  rw [hmf] at hpq
  injection hpq with g1 g2
  injection g2 with g2 g3
  subst g3
  have hc := chk_all s1 (m := m) (x := x) (by omega) (by omega)
  unfold chk9 at hc
  rw [Bool.and_eq_true] at hc
  obtain ⟨hc, hb⟩ := hc
  have hb := of_decide_eq_true hb
  rw [← g1, ← g2] at hc hb
  have hf := fac5 (show s.toNat ≤ 5 by omega)
  have hp := fac_pos s.toNat
  refine fork_iff.2 ⟨fun c => absurd c (by decide), fun _ => ⟨⟨s1, ⟨m0, show m ≤ s by omega⟩, ⟨Int.le_refl 0, show (0 : Int) ≤ facI s.toNat by omega⟩, rfl, rfl⟩, fun o mi ho hmi => ?_⟩⟩
  have hmb := missN_bd s m x (facI s.toNat).toNat
  rw [← hmi] at hmb
  have b1 := mul_bd hmb.1 (show mi ≤ 1000 by omega) hb.1 hb.2.1
  have b2 := mul_bd hb.2.2.1 hb.2.2.2 (show 0 ≤ o by omega) (show o ≤ 1000 by omega)
  refine fork_iff.2 ⟨fun _ => req_iff.2 ⟨inR_i64.2 (by omega), req_iff.2 ⟨inR_i64.2 (by omega), fork_iff.2 ⟨fun _ => hK, fun c => ?_⟩⟩⟩, fun c => absurd (of_decide_eq_false c) (by omega)⟩
  rw [hmi, ho, hc] at c
  cases c
theorem ok9 : FnOk Try.prog 9 fc9 := fn1_of (n := 5) (((((good2_nilN _).addL2 ok9A).addF okWorks).addF ok25).addF ok20) fun (n, ()) K hx => by
  obtain ⟨⟨h1, h2, h3⟩, hK⟩ := hx
  exact h9 n K h1 h2 h3 hK
end Go.P10
