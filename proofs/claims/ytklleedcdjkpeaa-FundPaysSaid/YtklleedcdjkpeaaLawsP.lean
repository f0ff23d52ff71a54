/- Funds: the laws of plans, capital, pay hold. No conditions. -/
import Derived.Test.YtklleedcdjkpeaaLawsS
import Derived.Test.YtklleedcdjkpeaaLawsL
import Derived.Test.YtklleedcdjkpeaaLeast2P
set_option linter.constructorNameAsVariable false
set_option linter.unusedVariables false
set_option linter.unusedSimpArgs false
set_option maxRecDepth 100000
namespace Go.P9
open Go.Lom Go.Proofs Go

theorem ok4 : FnOk Try.prog 4 fc4 := fn1_of (n := 5) ((((((((((good2_nil _).addF ok26).addF ok25).addF ok24).addF ok23).addF ok22).addF ok21).addF ok20).addF okWorks').addF ok18 |>.addF ok16) fun (f, ()) K hx => by
  obtain ⟨hb, hK⟩ := hx
  have hb : bigF f := hb
  rw [v4F]
  have hlen := leastR_len f
  have hlb : (leastR f).1.length ≤ 9223372036854775807 := by omega
  simp only [fork_iff, bne_self_eq_false, beq_self_eq_true, decide_true, Bool.not_true, Bool.false_eq_true, Bool.true_eq_false, false_implies, true_implies, true_and, and_true, hb, hlb, hK]
  by_cases h : (leastR f).2.2 = 0
  · obtain ⟨h1, h2, h3, h4, h5⟩ := least_sound h
    rw [h, soundE_ok h1 h2, h1, h2, h3]
    exact ⟨fun g => by simp at g, fun _ => ⟨fun g => by simp at g, fun _ => ⟨fun g => by simp at g, fun _ => ⟨fun g => by simp at g, fun _ => trivial⟩⟩⟩⟩
  · obtain ⟨h1, h2, h3⟩ := least_none h
    have he : ((leastR f).2.2 != 0) = true := by simpa using h
    rw [he, h1]
    exact ⟨fun _ => ⟨fun g => by simp at g, fun _ => trivial⟩, fun g => by simp at g⟩
theorem ok9 : FnOk Try.prog 9 fc9 := fn1_of (n := 5) ((((((good2_nil _).addF ok34).addF ok27).addF ok20).addF okWorks').addF ok17) fun (f, l, ()) K hx => by
  obtain ⟨⟨hb, hl⟩, hK⟩ := hx
  have hb : bigF f := hb
  have hl : l.length ≤ 9223372036854775807 := hl
  rw [v9F]
  refine ⟨hb, ⟨hb, hl⟩, ?_⟩
  by_cases h : (leastR f).2.2 = 0
  · obtain ⟨h1, h2, h3, h4, h5⟩ := least_sound h
    rw [h, fork_iff]
    refine ⟨fun g => by simp at g, fun _ => ?_⟩
    have hc := soundE_cases l h1
    have hend : fork (soundE f l == 0) (K (true, ())) (fork (soundE f l == 93) (K (true, ())) (K (false, ()))) := by
      rcases hc with e | e
      · rw [e]; exact fork_iff.2 ⟨fun _ => hK, fun g => by simp at g⟩
      · rw [e]; exact fork_iff.2 ⟨fun _ => hK, fun _ => fork_iff.2 ⟨fun _ => hK, fun g => by simp at g⟩⟩
    refine fork_iff.2 ⟨fun _ => hend, fun g => fork_iff.2 ⟨fun _ => hend, fun g2 => ?_⟩⟩
    have g2 : (okF f && (planB f l && soundB f l)) = true := by simpa using g2
    simp only [Bool.and_eq_true] at g2
    obtain ⟨_, g3, g4⟩ := g2
    obtain ⟨k1, k2, k3⟩ := least_few h1 g3 g4
    have hcs : leastR f = (plK f (needsL f) (fewN f (needsL f)) 0 0 0, fewN f (needsL f), 0) := by
      rcases leastR_cases f with ⟨q, _⟩ | ⟨_, _, e⟩ | ⟨_, _, e⟩
      · rw [h1] at q; cases q
      · rw [e] at h; cases h
      · exact e
    obtain ⟨p1, p2, p3⟩ := planB_parts h2
    obtain ⟨r1, r2, r3⟩ := planB_parts g3
    have f1 := plan_fit h1 p1 p2
    have f2 := plan_fit h1 r1 r2
    refine ⟨f1, fork_iff.2 ⟨fun _ => ⟨f2, fork_iff.2 ⟨fun _ => hK, fun c => ⟨f2, fork_iff.2 ⟨fun c2 => ⟨hl, ?_⟩, fun c2 => ?_⟩⟩⟩⟩, fun c => ?_⟩⟩
    · have c2 : (leastR f).2.1 = l.sum := by simpa using c2
      rw [hcs] at c2 ⊢
      have : aheadI l (plK f (needsL f) (fewN f (needsL f)) 0 0 0) = false := k3 c2
      simp only [this]
      exact fork_iff.2 ⟨fun _ => hK, fun g => by simp at g⟩
    · have c2 : (leastR f).2.1 ≠ l.sum := by simpa using c2
      have c : ¬ (leastR f).2.1 < l.sum := by simpa using c
      rw [hcs] at c c2
      have c : ¬ fewN f (needsL f) < l.sum := c
      have c2 : fewN f (needsL f) ≠ l.sum := c2
      omega
    · rw [h4] at c; simp at c
  · obtain ⟨h1, h2, h3⟩ := least_none h
    have he : ((leastR f).2.2 != 0) = true := by simpa using h
    rw [he, h1, h2, h3 l]
    exact fork_iff.2 ⟨fun _ => fork_iff.2 ⟨fun _ => fork_iff.2 ⟨fun _ => fork_iff.2 ⟨fun _ => hK, fun g => by simp at g⟩, fun g => by simp at g⟩, fun g => by simp at g⟩, fun g => by simp at g⟩

/-! the shop can pay -/
theorem h5b (f : Fd) (c : Cs) (p : List Int) (e : Int) (l : List Int) (n : Int) (ps : List (List Int)) (i : Int) (is : Bool) (h : Int) (cash : List Int) (t : Int) (Q : LQ) : s5b f c p e l n ps i is h cash t Q → xloop2 Try.prog {} 5 5 1 lc5b (fun _ => some (sh5, 3)) (fun (_, _, _, _, _, _, _, _, _, _, cash, t, _) => mL cash t) (f, c, p, e, l, n, ps, i, is, h, cash, t, ()) Q := by
  intro ⟨⟨hl, h0, h1, h2, h3⟩, hQ⟩
  rw [v5b, seg_all' (l := ps) rfl]
  simp only [fork_iff, req_iff, decide_eq_true_eq, decide_eq_false_iff_not, Nat.zero_add, bne_iff_ne, ne_eq, bne_eq_false_iff_eq]
  have stp : t < cash.length → mL cash (t + 1) < mL cash t ∧ LC2.spec lc5b (f, c, p, e, l, n, ps, i, is, h, cash, t + 1, ()) Q := fun ht => ⟨mL_lt ht, show s5b f c p e l n ps i is h cash (t + 1) Q from ⟨⟨hl, by omega, by omega, h2, h3⟩, hQ⟩⟩
  refine ⟨fun ht => ⟨fun c => absurd (h2 (by omega)) c, fun c => ⟨fun g => ⟨⟨h0, ht⟩, fun k => ?_, fun k => ⟨inR_i64.2 (by omega), Nat.le_refl _, stp ht⟩⟩, fun g => ⟨inR_i64.2 (by omega), Nat.le_refl _, stp ht⟩⟩⟩, fun ht => ⟨Nat.le_refl _, hQ⟩⟩
  have := h3 g _ (getD_mem (d := cash) (i := t.toNat) (by omega) 0)
  omega
theorem ok5b : Lp2Ok Try.prog 5 1 lc5b := lp2_of (n := 5) (ex := fun _ => some (sh5, 3)) (m := fun (_, _, _, _, _, _, _, _, _, _, cash, t, _) => mL cash t) (good2_nil _) fun (f, c, p, e, l, n, ps, i, is, h, cash, t, ()) Q hx => h5b f c p e l n ps i is h cash t Q hx
theorem folR_ok {f : Fd} {c : Cs} : (0 < (folR f c).length → folE f c = 0) ∧ ((okF f && (planB f c.1 && soundB f c.1)) = true → ∀ x ∈ folR f c, 0 ≤ x) := by
  unfold folR
  by_cases h : folE f c = 0
  · rw [if_pos h]
    refine ⟨fun _ => h, fun g => ?_⟩
    simp only [Bool.and_eq_true] at g
    exact pays h g.2.2
  · rw [if_neg h]
    exact ⟨fun g => by simp at g, fun _ x hx => by cases hx⟩
theorem mem_getD {α : Type} {l : List α} {i : Nat} (h : i < l.length) (d : α) : l.getD i d ∈ l := by simp [List.getD_eq_getElem?_getD, h]
theorem h5a (f : Fd) (c : Cs) (p : List Int) (e : Int) (l : List Int) (n : Int) (ps : List (List Int)) (i : Int) (Q : LQ) : s5a f c p e l n ps i Q → xloop2 Try.prog { f := [(14, fcFollow), (17, fcSound)], l2 := [(5, 1, lc5b)] } 5 5 0 lc5a (fun _ => some (sh5e, 0)) (fun (_, _, _, _, _, _, ps, i, _) => mL ps i) (f, c, p, e, l, n, ps, i, ()) Q := by
  intro ⟨⟨hb, hc, h0, h1, h2, h3, h4⟩, hQ⟩
  rw [v5a, seg_all' (l := ps) rfl, seg_all' (l := ps) rfl, Nat.add_zero]
  rw [fork_iff]
  refine ⟨fun hi => ?_, fun _ => hQ⟩
  have hi : i < ps.length := by simpa using hi
  have hm := h3 _ (mem_getD (l := ps) (i := i.toNat) (by omega) [])
  have h4 := h4 i.toNat
  have hfo := folR_ok (f := f) (c := (ps.getD i.toNat [], c.2))
  have hfl := folR_len (f := f) (c := (ps.getD i.toNat [], c.2))
  generalize ps.getD i.toNat [] = pl at *
  have hidx : (0 : Int) ≤ i ∧ i < ps.length := ⟨h0, hi⟩
  simp only [fork_iff, req_iff, decide_eq_true_eq, decide_eq_false_iff_not, Nat.zero_add, hidx, true_and, and_true, Nat.le_refl, hb, hm]
  have hbc : bigC (pl, c.2) := ⟨hm, hc.2⟩
  have stp : mL ps (i + 1) < mL ps i ∧ LC2.spec lc5a (f, c, p, e, l, n, ps, i + 1, ()) Q := ⟨mL_lt hi, show s5a f c p e l n ps (i + 1) Q from ⟨⟨hb, hc, by omega, by omega, h2, h3, by assumption⟩, hQ⟩⟩
  have i1 : inR .i64 (i + 1) = true := inR_i64.2 (by omega)
  have pre : ((folR f (pl, c.2)).length : Int) ≤ 9223372036854775807 ∧ (0 : Int) ≤ (folR f (pl, c.2)).length := by omega
  refine ⟨by omega, fun c1 => ⟨fun c2 => ?_, fun c2 => ⟨fun c3 => ?_, fun c3 => ⟨by omega, hbc, ⟨pre.1, by omega, pre.2, hfo.1, hfo.2⟩, i1, stp⟩⟩⟩, fun c1 => ⟨by omega, hbc, ⟨pre.1, by omega, pre.2, hfo.1, hfo.2⟩, i1, stp⟩⟩
  · obtain ⟨q1, q2, q3⟩ := h4 (by omega) (by omega)
    rw [soundE_ok q1 q2] at c2; simp at c2
  · obtain ⟨q1, q2, q3⟩ := h4 (by omega) (by omega)
    rw [q1, q2, q3] at c3; simp at c3
theorem ok5a : Lp2Ok Try.prog 5 0 lc5a := lp2_of (n := 5) (ex := fun _ => some (sh5e, 0)) (m := fun (_, _, _, _, _, _, ps, i, _) => mL ps i) ((((good2_nil _).addL2 ok5b).addF ok17).addF ok14) fun (f, c, p, e, l, n, ps, i, ()) Q hx => h5a f c p e l n ps i Q hx
theorem ok5 : FnOk Try.prog 5 fc5 := fn1_of (n := 5) ((((((good2_nil _).addL2 ok5a).addF ok27).addF ok22).addF ok20).addF okWorks') fun (f, c, ()) K hx => by
  obtain ⟨⟨hb, hc⟩, hK⟩ := hx
  have hb : bigF f := hb
  have hc : bigC c := hc
  rw [v5F]
  refine ⟨hb, hb, fork_iff.2 ⟨fun g => by simp at g, fun _ => ?_⟩⟩
  have e1 : ∀ a : List Int, seg 0 1 [a] = [a] := fun a => rfl
  have e2 : ∀ a b : List Int, seg 0 2 [a, b] = [a, b] := fun a b => rfl
  have e3 : ∀ a b : List Int, seg 0 (1 + ([a, b] : List (List Int)).length) ([c.1] ++ [a, b]) = [c.1, a, b] := fun a b => rfl
  rw [e1, e2, e3]
  have hlen := leastR_len f
  by_cases h : (leastR f).2.2 = 0
  · obtain ⟨h1, h2, h3, h4, h5⟩ := least_sound h
    obtain ⟨p1, p2, p3⟩ := planB_parts h2
    have f1 := plan_fit h1 p1 p2
    rw [h]
    refine fork_iff.2 ⟨fun _ => ⟨⟨hb, hc, by omega, by simp, by simp, fun x hx => ?_, fun j j0 j1 => ?_⟩, ?_⟩, fun g => by simp at g⟩
    · simp only [List.mem_cons, List.not_mem_nil, or_false] at hx
      rcases hx with rfl | rfl | rfl
      · exact hc.1
      · omega
      · omega
    · have : j = 1 ∨ j = 2 := by simp at j1; omega
      rcases this with rfl | rfl
      · exact ⟨h1, h2, h3⟩
      · exact ⟨h1, h2, h3⟩
    · rw [h4]
      exact fork_iff.2 ⟨fun g => by simp at g, fun _ => ⟨f1, fork_iff.2 ⟨fun _ => ⟨f1, fork_iff.2 ⟨fun _ => hK, fun g => by simp at g⟩⟩, fun g => by simp at g⟩⟩⟩
  · have he : ((leastR f).2.2 != 0) = true := by simpa using h
    have he2 : ((leastR f).2.2 == 0) = false := by simpa using h
    rw [he, he2]
    refine fork_iff.2 ⟨fun g => by simp at g, fun _ => ⟨⟨hb, hc, by omega, by simp, by simp, fun x hx => ?_, fun j j0 j1 => ?_⟩, fork_iff.2 ⟨fun _ => hK, fun g => by simp at g⟩⟩⟩
    · simp only [List.mem_cons, List.not_mem_nil, or_false] at hx
      rw [hx]; exact hc.1
    · simp at j1; omega

/-! the capital -/
theorem h7F (f : Fd) (K : dens [.b] → Prop) : (bigF f ∧ K (true, ())) → xfn1 Try.prog { f := [(19, fcWorks), (22, fcPlanE), (23, fcCap), (25, fcBears), (30, fcFrom)] } 5 7 fc4 (f, ()) K := by
  intro ⟨hb, hK⟩
  rw [v7F]
  refine ⟨hb, fork_iff.2 ⟨fun g => ?_, fun g => ?_⟩⟩
  · have hf : ¬ okF f = true := fun h => by unfold chkE at g; rw [if_pos h] at g; simp at g
    have : capR f = 0 := by unfold capR; rw [if_neg hf]
    rw [this]
    exact fork_iff.2 ⟨fun _ => hK, fun g => by simp at g⟩
  · have hf : okF f = true := by
      by_cases h : okF f = true
      · exact h
      · unfold chkE at g; rw [if_neg h] at g; simp at g
    obtain ⟨l1, l2, l3, l4, l5⟩ := cap_laws hf
    obtain ⟨b1, b2⟩ := bears_laws hf
    have hA := okA_iff.1 (okF_parts hf).1
    have c0 : 0 ≤ f.1 ∧ f.1 ≤ 1099511627776 := hA.2.2.2.2.2
    have hn := okF_n hf
    have big : ∀ (x : Int) (y : Int), bigF (x, f.2) ∧ bigF (wB f y) := fun x y => ⟨hb, hb⟩
    have big1 : ∀ (x : Int), bigF (x, f.2) := fun x => hb
    have big2 : ∀ (y : Int), bigF (f.1, f.2.1, f.2.2.1, f.2.2.2.1, f.2.2.2.2.1, f.2.2.2.2.2.1, f.2.2.2.2.2.2.1, y, f.2.2.2.2.2.2.2.2) := fun y => hb
    have wBe : ∀ y : Int, (f.1, f.2.1, f.2.2.1, f.2.2.2.1, f.2.2.2.2.1, f.2.2.2.2.2.1, f.2.2.2.2.2.2.1, y, f.2.2.2.2.2.2.2.2) = wB f y := fun y => rfl
    have gl : ((f.2.2.2.2.2.1.length : Nat) : Int) = (fGroups f).length := rfl
    simp only [big1, big2, wBe, gl, true_and, hb]
    simp only [fork_iff, req_iff, decide_eq_true_eq, decide_eq_false_iff_not, bne_iff_ne, ne_eq, bne_eq_false_iff_eq, beq_iff_eq, beq_eq_false_iff_ne, Bool.not_eq_true', Bool.not_eq_false']
    have i1 : inR .i64 (f.1 + capR f) = true := inR_i64.2 (by omega)
    have i2 : inR .i64 (f.1 + capR f - 1) = true := inR_i64.2 (by omega)
    have i3 : (bearsR f).2 = 0 → inR .i64 ((bearsR f).1 + 1) = true := fun h => by have := b2 h; exact inR_i64.2 (by omega)
    generalize (leastR f).2.2 = e0 at *
    generalize (leastR (f.1 + capR f, f.2)).2.2 = e1 at *
    generalize (leastR (f.1 + capR f - 1, f.2)).2.2 = e2 at *
    generalize (leastR (wB f 0)).2.2 = e3 at *
    generalize (leastR (wB f ((bearsR f).1 + 1))).2.2 = e5 at *
    generalize (leastR (wB f (bearsR f).1)).2.2 = e4 at *
    generalize (bearsR f).1 = b at *
    generalize (bearsR f).2 = be at *
    generalize capR f = c at *
    generalize ((fGroups f).length : Int) = len at *
    have l6 : (e0 == 0) = (c == 0) := by rw [Bool.eq_iff_iff]; simp only [beq_iff_eq]; exact l3
    repeat' (first
      | exact hK
      | exact i1
      | exact i2
      | exact i3 (by assumption)
      | intro _
      | refine And.intro ?_ ?_
      | exact absurd l6 (by assumption)
      | (exfalso; omega))
theorem ok7 : FnOk Try.prog 7 fc4 := fn1_of (n := 5) ((((((good2_nil _).addF ok30).addF ok25).addF ok23).addF ok22).addF okWorks') fun (f, ()) K hx => h7F f K hx
end Go.P9
