/- TopOwners: the code keeps its contract, if the examples hold. No conditions. -/
import Derived.Test.YtfbpaonmegmcgaaGreatToS
import Derived.Test.YtfbpaonmegmcgaaGreatTbShareP
import Derived.Test.YtfbpaonmegmcgaaGreatTbFairP
set_option linter.all false
set_option maxRecDepth 100000
set_option maxHeartbeats 4000000
namespace Go.PT
open Go.Lom Go.Proofs Go Go.P9
theorem mL_T {α : Type} {l : List α} {i : Int} (h : i < l.length) : mL l (i + 1) < mL l i := by unfold mL; omega
theorem drop_T {l : List Int} {i : Int} (h0 : 0 <= i) (h1 : i < l.length) : l.drop i.toNat = l.getD i.toNat 0 :: l.drop (i + 1).toNat := by
 rw [show (i + 1).toNat = i.toNat + 1 by omega, List.drop_eq_getElem_cons (show i.toNat < l.length by omega), List.getD_eq_getElem?_getD, List.getElem?_eq_getElem (show i.toNat < l.length by omega)]; rfl
theorem in_T {l : List Int} {i : Int} (h0 : 0 <= i) (h1 : i < l.length) : l.getD i.toNat 0 ∈ l := by
 rw [List.getD_eq_getElem?_getD, List.getElem?_eq_getElem (show i.toNat < l.length by omega)]; exact List.getElem_mem _
theorem sum_nn : ∀ {l : List Int}, (∀ x ∈ l, 0 <= x) -> 0 <= l.sum
 | [], _ => by simp
 | x :: l, h => by
  have h1 := h x (by simp)
  have h2 := sum_nn (l := l) fun y hy => h y (List.mem_cons_of_mem _ hy)
  simp only [List.sum_cons]; omega
theorem fit_nn : ∀ (l : List Int) (n : Int), (∀ x ∈ l, 0 <= x) -> 0 <= n -> n + l.sum <= 4611686018427387904 -> fitS n l
 | [], n, _, h0, h1 => by
  simp only [List.sum_nil] at h1
  exact inR_i64.2 (by omega)
 | x :: l, n, h, h0, h1 => by
  have hx := h x (by simp)
  have hl := sum_nn (l := l) fun y hy => h y (List.mem_cons_of_mem _ hy)
  simp only [List.sum_cons] at h1
  exact ⟨inR_i64.2 (by omega), fit_nn l (n + x) (fun y hy => h y (List.mem_cons_of_mem _ hy)) (by omega) (by omega)⟩
theorem h3a (f : P9.Fd) (c : C3) (n : Int) (l : List Int) (x : P9.Fd) (i : Int) (Q : AX -> St -> Prop) (h0 : 0 <= i) (h1 : i <= l.length) (hl : l.length <= 9223372036854775807) (hy : ∀ y ∈ l, 0 <= y) (x0 : 0 <= x.1) (x1 : x.1 + (l.drop i.toNat).sum <= 2199023255552)
  (hQ : ∀ z : Int, z = x.1 + (l.drop i.toNat).sum -> Q (.exit 0) (stS 3 sh3ae (f, c, n, l, (z, x.2), ()))) :
  xloop2 Tryz.prog { nm := true } 5 3 0 lc3a (fun _ => some (sh3ae, 3)) (fun (_, _, _, l, _, i, _) => mL l i) (f, c, n, l, x, i, ()) Q := by
 rw [v3a]
 simp only [fork_iff, req_iff, decide_eq_true_eq, decide_eq_false_iff_not]
 refine ⟨fun hi => ⟨⟨h0, hi⟩, ?_⟩, fun hi => ?_⟩
 ·have hx := hy _ (in_T h0 hi)
  rw [drop_T h0 hi] at x1 hQ
  simp only [List.sum_cons] at x1 hQ
  have hd : 0 <= (l.drop (i + 1).toNat).sum := sum_nn fun y hm => hy y (List.mem_of_mem_drop hm)
  generalize l.getD i.toNat 0 = v at *
  refine ⟨inR_i64.2 (by omega), inR_i64.2 (by omega), mL_T hi, ⟨⟨show (0 : Int) <= i + 1 by omega, show i + 1 <= (l.length : Int) by omega⟩, hl, hy, show (0 : Int) <= x.1 + v by omega, show x.1 + v + (l.drop (i + 1).toNat).sum <= 2199023255552 by omega⟩, fun z hz => hQ z ?_⟩
  exact (show z = x.1 + v + (l.drop (i + 1).toNat).sum from hz).trans (Int.add_assoc _ _ _)
 ·have e : l.drop i.toNat = [] := List.drop_eq_nil_of_le (by omega)
  rw [e] at hQ
  exact hQ x.1 (by simp)
theorem ok3a : Lp2Ok Tryz.prog 3 0 lc3a := lp2_of (n := 5) (ex := fun _ => some (sh3ae, 3)) (m := fun (_, _, _, l, _, i, _) => mL l i) (good2_nilN _) fun (f, c, n, l, x, i, ()) Q hx => by
 obtain ⟨⟨⟨a1, a2⟩, a3, a4, a5, a6⟩, hQ⟩ := hx
 exact h3a f c n l x i Q a1 a2 a3 a4 a5 a6 hQ
theorem h3b (n : Int) (l : List Int) (g : Int) (x : P9.Fd) (cs : List Int) (i : Int) (Q : AX -> St -> Prop) (h0 : 0 <= i) (h1 : i <= cs.length) (hl : cs.length <= 9223372036854775807) (hy : ∀ y ∈ cs, 0 <= y) (hQ : Q (.exit 2) (stS 1 sh3be (n, l, g, x, ()))) :
  xloop2 Tryz.prog { nm := true } 5 3 1 lc3b ex3b (fun (_, _, _, _, cs, i, _) => mL cs i) (n, l, g, x, cs, i, ()) Q := by
 rw [v3b]
 simp only [fork_iff, req_iff, decide_eq_true_eq, decide_eq_false_iff_not]
 refine ⟨fun hi => ⟨⟨h0, hi⟩, fun hneg => ?_, fun _ => ⟨inR_i64.2 (by omega), mL_T hi, ⟨⟨show (0 : Int) <= i + 1 by omega, show i + 1 <= (cs.length : Int) by omega, hl⟩, hy⟩, hQ⟩⟩, fun _ => hQ⟩
 have := hy _ (in_T h0 hi)
 omega
theorem ok3b : Lp2Ok Tryz.prog 3 1 lc3b := lp2_of (n := 5) (ex := ex3b) (m := fun (_, _, _, _, cs, i, _) => mL cs i) (good2_nilN _) fun (n, l, g, x, cs, i, ()) Q hx => by
 obtain ⟨⟨⟨a1, a2, a3⟩, a4⟩, hQ⟩ := hx
 exact h3b n l g x cs i Q a1 a2 a3 a4 hQ
theorem folE_few {f : P9.Fd} {c : Cs} (h1 : okF f = true) (h2 : planB f c.1 = true) : folE f c = 0 \/ folE f c = 92 \/ folE f c = 94 := by
 unfold folE
 rw [if_pos h1, if_pos h2]
 split
 ·split
  ·exact .inl rfl
  ·exact .inr (.inr rfl)
 ·exact .inr (.inl rfl)
theorem h3F (f : P9.Fd) (w : List Int) (c : C3) (K : dens [.b] -> Prop) (hb : bigF f) (hw : w.length <= 9223372036854775807) (hr : bigR c.1) (hc1 : c.2.1.length <= 9223372036854775807) (hc2 : c.2.2.length <= 9223372036854775807) (hK : K (true, ())) :
  xfn1 Tryz.prog { nm := true, f := [(4, fcCap), (5, P7.fcSh), (6, fcOwn), (7, fcPlanE), (8, fcFollow), (9, fcSum)], l2 := [(3, 0, lc3a), (3, 1, lc3b)] } 5 3 fc3 (f, w, c, ()) K := by
 rw [v3F]
 simp only [List.drop_zero]
 refine ⟨hb, hw, fun r e he => ?_⟩
 simp only [fork_iff, req_iff, decide_eq_true_eq, decide_eq_false_iff_not, bne_iff_ne, ne_eq, bne_eq_false_iff_eq, beq_iff_eq, beq_eq_false_iff_ne]
 refine ⟨fun _ => hK, fun hf => ⟨fun _ => hK, fun h0 => ?_⟩⟩
 have hf : okF f = true := by
  by_cases h : okF f = true
  ·exact h
  ·unfold chkE at hf; rw [if_neg h] at hf; cases hf
 obtain ⟨l1, l2, l3, l4, l5⟩ := cap_laws hf
 have hA := okA_iff.1 (okF_parts hf).1
 have c0 : 0 <= f.1 /\ f.1 <= 1099511627776 := hA.2.2.2.2.2
 have he0 : e = 0 := h0
 subst he0
 unfold P7.shareR at he
 split at he
 rotate_left
 ·injection he with _ he; cases he
 rename_i hv
 split at he
 rotate_left
 ·injection he with _ he; cases he
 rename_i hs
 injection he with he _
 obtain ⟨s1, s2, s3⟩ := P7.share_law hv hs.1
 rw [he] at s1 s3
 have rl : r.length <= 24 := by
  have := (P7.validW_iff.1 hv).1
  have := s1.1
  omega
 have rn : ∀ y ∈ r, (0 : Int) <= y := fun y hy => by
  obtain ⟨k, hk, rfl⟩ := List.getElem_of_mem hy
  have := s1.2.1 k
  rwa [List.getD_eq_getElem?_getD, List.getElem?_eq_getElem hk] at this
 have hfit : fitS 0 r := fit_nn r 0 rn (Int.le_refl 0) (by rw [s3]; omega)
 have hrl : r.length <= 9223372036854775807 := by omega
 refine ⟨inR_i64.2 (by omega), fun _ => hK, fun hm => ⟨⟨⟨Int.le_refl (0 : Int), Int.natCast_nonneg _⟩, hrl, rn, c0.1, show f.1 + r.sum <= 2199023255552 by rw [s3]; omega⟩, fun z hz => ?_⟩⟩
 have hz : z = f.1 + capR f := (show z = f.1 + r.sum from hz).trans (by rw [s3])
 subst hz
 have hp : (leastR (f.1 + capR f, f.2)).2.2 = 0 := l4 (by omega)
 obtain ⟨p1, p2, p3, p4, p5⟩ := least_sound hp
 have fo := folR_ok (f := (f.1 + capR f, f.2)) (c := ((leastR (f.1 + capR f, f.2)).1, c))
 have hfl := folR_len (f := (f.1 + capR f, f.2)) (c := ((leastR (f.1 + capR f, f.2)).1, c))
 have hfe := folE_few (f := (f.1 + capR f, f.2)) (c := ((leastR (f.1 + capR f, f.2)).1, c)) p1 p2
 have hbc : bigC ((leastR (f.1 + capR f, f.2)).1, c) := ⟨show (leastR (f.1 + capR f, f.2)).1.length <= 9223372036854775807 by omega, hr, hc1, hc2⟩
 have tail : inR .i64 (f.1 + capR f - 1) = true /\ bigF (f.1 + capR f - 1, f.2) /\ (capR f = 0 -> (r.length <= 9223372036854775807 /\ fitS 0 r) /\ (r.sum = capR f -> K (true, ())) /\ (¬ r.sum = capR f -> K (false, ()))) /\ (¬ capR f = 0 -> ((leastR (f.1 + capR f - 1, f.2)).2.2 = 4 -> (r.length <= 9223372036854775807 /\ fitS 0 r) /\ (r.sum = capR f -> K (true, ())) /\ (¬ r.sum = capR f -> K (false, ()))) /\ (¬ (leastR (f.1 + capR f - 1, f.2)).2.2 = 4 -> K (false, ()))) := by
  have last : (r.length <= 9223372036854775807 /\ fitS 0 r) /\ (r.sum = capR f -> K (true, ())) /\ (¬ r.sum = capR f -> K (false, ())) := ⟨⟨hrl, hfit⟩, fun _ => hK, fun h => absurd s3 h⟩
  exact ⟨inR_i64.2 (by omega), hb, fun _ => last, fun hne => ⟨fun _ => last, fun h => absurd (l5 (by omega) (by omega)) h⟩⟩
 refine ⟨hb, fun h => absurd hp h, fun _ => ⟨inR_i64.2 (by omega), fun h => absurd rfl h, fun _ => ⟨⟨hb, hbc⟩, ⟨⟨⟨Int.le_refl (0 : Int), Int.natCast_nonneg _, by omega⟩, fo.2 (by rw [p1, p2, p3]; rfl)⟩, ?_⟩⟩⟩⟩
 exact ⟨fun g0 => ⟨fun g1 => ⟨fun g2 => (by rcases hfe with h | h | h <;> contradiction), fun _ => tail⟩, fun _ => tail⟩, fun _ => tail⟩
theorem ok3 (hOwn : FnOk Tryz.prog 6 fcOwn) : FnOk Tryz.prog 3 fc3 := fn1_of (n := 5) ((((((((good2_nilN _).addL2 ok3b).addL2 ok3a).addF P9.ok27).addF P9.ok14).addF ok22).addF hOwn).addF P7.ok14 |>.addF ok23) fun (f, w, c, ()) K hx => by
 obtain ⟨⟨hb, hw, hr, hc1, hc2⟩, hK⟩ := hx
 exact h3F f w c K hb hw hr hc1 hc2 hK
end Go.PT
