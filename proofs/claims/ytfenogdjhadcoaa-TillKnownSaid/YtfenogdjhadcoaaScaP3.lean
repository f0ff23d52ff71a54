/- Scales: all results (whole): the code keeps its contracts. No conditions. -/
import Derived.Test.YtfenogdjhadcoaaScaP1
set_option linter.all false
set_option maxRecDepth 100000
set_option maxHeartbeats 4000000
namespace Go.P8
open Go.Lom Go.Proofs Go
theorem h113L (l : List R4) (v : R4) (i : Int) (Q : AX -> St -> Prop) (hl : l.length <= 100) (i0 : 0 <= i) (i1 : i <= l.length) (hN : hasR v (l.drop i.toNat) = false -> Q (.exit 0) (stS 1 (S [(0, .lst 0 TR4)]) (l, ())))
  (hS : hasR v (l.drop i.toNat) = true -> ∀ r : Int, 0 <= r -> Q .ret (stS 1 (S [(0, .lst 0 TR4), (4, .v I)]) (l, r, ()))) :
  xloop2 Try.prog { nm := true } 5 113 0 lc113 ex113 (fun (l, _, _, i, _) => mL l i) (l, v, l.length, i, ()) Q := by
 obtain ⟨a, b, c, d⟩ := v
 rw [v113L]
 simp only [fork_iff, req_iff, decide_eq_true_eq, decide_eq_false_iff_not, true_and, Bool.and_true]
 refine ⟨fun hi => ⟨⟨i0, hi⟩, by omega, ?_⟩, fun hi => hN (by rw [List.drop_of_length_le (by omega)]; rfl)⟩
 rw [drop_atR i0 hi] at hN hS
 generalize l.getD i.toNat (0, 0, 0, 0) = r at *
 have he : (a == r.1 && (b == r.2.1 && (c == r.2.2.1 && d == r.2.2.2))) = eqR (a, b, c, d) r := rfl
 rw [he]
 unfold hasR at hN hS
 refine ⟨fun h => hS (by rw [if_pos h]) i i0, fun h => ?_⟩
 rw [if_neg (by rw [h]; decide)] at hN hS
 exact ⟨inR_i64.2 (by omega), mL_R hi, ⟨⟨hl, by show (0 : Int) <= i + 1; omega, by show i + 1 <= (l.length : Int); omega⟩, hN, hS⟩⟩
theorem ok113L : Lp2Ok Try.prog 113 0 lc113 := lp2_of (n := 5) (ex := ex113) (m := fun (l, _, _, i, _) => mL l i) (good2_nilN _) fun (l, v, m, i, ()) Q hx => by
 obtain ⟨⟨g1, g2, g3, g4⟩, hN, hS⟩ := hx
 have g1 : m = (l.length : Int) := g1
 subst g1
 exact h113L l v i Q g2 g3 g4 hN hS
theorem ok113 : F2Ok Try.prog 113 fc113 := fn2_of (n := 5) ((good2_nilN _).addL2 ok113L) fun (l, (a, b, c, d), ()) K hx => by
 obtain ⟨g1, hK⟩ := hx
 show xfn2 Try.prog { nm := true, l2 := [(113, 0, lc113)] } 5 113 fc113 (l, (a, b, c, d), ()) K
 rw [v113F]
 simp only [req_iff, decide_eq_true_eq, true_and, List.drop_zero]
 exact ⟨⟨g1, Int.le_refl (0 : Int), Int.natCast_nonneg _⟩, fun h => hK (-1) ⟨fun c => absurd c (by decide), fun c => by rw [h] at c; cases c⟩, fun h r hr => hK r ⟨fun _ => h, fun _ => hr⟩⟩
theorem ok101 : F2Ok Try.prog 101 fc101 := fn2_of (n := 5) ((good2_nilN _).addF2 ok113) fun (l, (a, b, c, d), ()) K hx => by
 obtain ⟨g1, hK⟩ := hx
 show xfn2 Try.prog { nm := true, f2 := [(113, fc113)] } 5 101 fc101 (l, (a, b, c, d), ()) K
 rw [v101F]
 simp only [req_iff, decide_eq_true_eq, true_and]
 refine ⟨g1, fun r hr => hK _ ?_⟩
 rw [Bool.eq_iff_iff, decide_eq_true_eq]
 exact hr
theorem fold_step {f : List R4 -> Nat -> List R4} {out : List R4} {x all : Int} (h0 : 0 <= x) (h : x < all) : (List.range' x.toNat (all - x).toNat).foldl f out = (List.range' (x + 1).toNat (all - (x + 1)).toNat).foldl f (f out x.toNat) := by
 rw [show (all - x).toNat = (all - (x + 1)).toNat + 1 by omega, List.range'_succ, List.foldl_cons, show (x + 1).toNat = x.toNat + 1 by omega]
theorem step_no {m x : Nat} {out : List R4} (h : eqR (digR m x) zR = true) : stepS m out x = out := by unfold stepS; rw [h]; rfl
theorem step_had {m x : Nat} {out : List R4} (h : hasR (mulR (digR m x) (-1)) out = true) : stepS m out x = out := by unfold stepS; rw [h, Bool.not_true, Bool.and_false]; rfl
theorem step_new {m x : Nat} {out : List R4} (h : eqR (digR m x) zR = false) (k : hasR (mulR (digR m x) (-1)) out = false) : stepS m out x = out ++ [digR m x] := by unfold stepS; rw [h, k]; rfl
theorem sm_dig (m x : Nat) : smR 1 (digR m x) := by
 unfold smR digR
 dsimp only
 refine ⟨?_, ?_, ?_, by decide⟩ <;> split <;> omega
theorem h73X (m : Nat) (out : List R4) (all x : Int) (Q : AX -> St -> Prop) (hm : 1 <= m /\ m <= 3) (ha : all = 3 ^ m) (x0 : 0 <= x) (x1 : x < all) (ho : (out.length : Int) <= x) (h27 : all <= 27)
  (hQ : Q (.exit 2) (stS 1 (S [(4, .own 0 TR4)]) ((List.range' x.toNat (all - x).toNat).foldl (stepS m) out, ()))) (o2 : List R4) (he : o2 = stepS m out x.toNat) (hl : o2.length <= out.length + 1) :
  inR .i64 (x + 1) = true /\ (all - (x + 1)).toNat < (all - x).toNat /\ lc73.spec ((m : Int), o2, all, x + 1, ()) Q := by
 rw [fold_step x0 x1, <- he] at hQ
 exact ⟨inR_i64.2 (by omega), by omega, ⟨⟨⟨by show (1 : Int) <= (m : Int); omega, by show (m : Int) <= 3; omega⟩, ha, ⟨by show (0 : Int) <= x + 1; omega, by show x + 1 <= all; omega⟩, by show (o2.length : Int) <= x + 1; omega⟩, hQ⟩⟩
theorem h73L1 (out : List R4) (all x : Int) (Q : AX -> St -> Prop) (ha : all = 3 ^ 1) (x0 : 0 <= x) (x1 : x <= all) (ho : (out.length : Int) <= x)
  (hQ : Q (.exit 2) (stS 1 (S [(4, .own 0 TR4)]) ((List.range' x.toNat (all - x).toNat).foldl (stepS 1) out, ()))) :
  xloop2 Try.prog { nm := true, un := 6, ul := [2], f := [(100, fc100)], f2 := [(101, fc101)] } 5 73 1 lc73 (fun _ => some (S [(4, .own 0 TR4)], 1)) (fun (_, _, all, x, _) => (all - x).toNat) (1, out, all, x, ()) Q := by
 rw [v73L1]
 have ha3 : all = 3 := ha
 have e1 : x.tmod 3 = x % 3 := Int.tmod_eq_emod_of_nonneg x0
 have e2 : x.tdiv 3 = x / 3 := Int.tdiv_eq_ediv_of_nonneg x0
 have hx : ((x.toNat : Nat) : Int) = x := by omega
 have hd : digR 1 x.toNat = (x % 3 - 1, 0, 0, 0) := by unfold digR; rw [hx]; rfl
 have go := h73X 1 out all x Q ⟨by decide, by decide⟩ ha x0
 have hsm := sm_dig 1 x.toNat
 have hno := @step_no 1 x.toNat out
 have hhad := @step_had 1 x.toNat out
 have hnew := @step_new 1 x.toNat out
 have he : (x % 3 - 1 == 0 && ((0 : Int) == 0 && ((0 : Int) == 0 && ((0 : Int) == 0 && true)))) = eqR (digR 1 x.toNat) zR := by rw [hd, Bool.and_true]; rfl
 rw [e1, e2, he, <- hd]
 generalize digR 1 x.toNat = r at *
 simp only [fork_iff, req_iff, decide_eq_true_eq, decide_eq_false_iff_not, true_and, Nat.zero_add, Nat.le_refl, seg_all, Bool.not_eq_true', Bool.not_eq_false']
 refine ⟨fun hlt => ⟨inR_i64.2 (by omega), inR_i64.2 (by omega), fun h => ⟨⟨hsm, by decide, by decide⟩, fun r1 hr1 => ⟨by omega, fun b hb => ⟨fun hf => ⟨?_, fun ys hy => ?_⟩, fun ht => ?_⟩⟩⟩, fun h => ?_⟩, fun hge => ?_⟩
 ·simp only [fitsN, Bool.and_eq_true, Nat.ble_eq]; unfold maxLen; omega
 ·have hyl : ys.length = out.length + 1 := by rw [hy, List.length_append]; rfl
  rw [<- hyl, seg_all]
  obtain ⟨g1, g2, g3⟩ := go hlt ho (by omega) hQ ys (by rw [hnew h (by rw [<- hr1, <- hb]; exact hf)]; exact hy) (by omega)
  exact ⟨g1, Nat.le_refl _, g2, g3⟩
 ·exact go hlt ho (by omega) hQ out (hhad (by rw [<- hr1, <- hb]; exact ht)).symm (by omega)
 ·exact go hlt ho (by omega) hQ out (hno h).symm (by omega)
 ·rw [show (all - x).toNat = 0 by omega] at hQ; exact hQ
theorem h73L2 (out : List R4) (all x : Int) (Q : AX -> St -> Prop) (ha : all = 3 ^ 2) (x0 : 0 <= x) (x1 : x <= all) (ho : (out.length : Int) <= x)
  (hQ : Q (.exit 2) (stS 1 (S [(4, .own 0 TR4)]) ((List.range' x.toNat (all - x).toNat).foldl (stepS 2) out, ()))) :
  xloop2 Try.prog { nm := true, un := 6, ul := [2], f := [(100, fc100)], f2 := [(101, fc101)] } 5 73 1 lc73 (fun _ => some (S [(4, .own 0 TR4)], 1)) (fun (_, _, all, x, _) => (all - x).toNat) (2, out, all, x, ()) Q := by
 rw [v73L2]
 have ha3 : all = 9 := ha
 have e1 : x.tmod 3 = x % 3 := Int.tmod_eq_emod_of_nonneg x0
 have e2 : x.tdiv 3 = x / 3 := Int.tdiv_eq_ediv_of_nonneg x0
 have e3 : (x / 3).tmod 3 = x / 3 % 3 := Int.tmod_eq_emod_of_nonneg (by omega)
 have e4 : (x / 3).tdiv 3 = x / 3 / 3 := Int.tdiv_eq_ediv_of_nonneg (by omega)
 have hx : ((x.toNat : Nat) : Int) = x := by omega
 have hd : digR 2 x.toNat = (x % 3 - 1, x / 3 % 3 - 1, 0, 0) := by unfold digR; rw [hx]; rfl
 have go := h73X 2 out all x Q ⟨by decide, by decide⟩ ha x0
 have hsm := sm_dig 2 x.toNat
 have hno := @step_no 2 x.toNat out
 have hhad := @step_had 2 x.toNat out
 have hnew := @step_new 2 x.toNat out
 have he : (x % 3 - 1 == 0 && (x / 3 % 3 - 1 == 0 && ((0 : Int) == 0 && ((0 : Int) == 0 && true)))) = eqR (digR 2 x.toNat) zR := by rw [hd, Bool.and_true]; rfl
 rw [e1, e2, e3, e4, he, <- hd]
 generalize digR 2 x.toNat = r at *
 simp only [fork_iff, req_iff, decide_eq_true_eq, decide_eq_false_iff_not, true_and, Nat.zero_add, Nat.le_refl, seg_all, Bool.not_eq_true', Bool.not_eq_false']
 refine ⟨fun hlt => ⟨inR_i64.2 (by omega), inR_i64.2 (by omega), inR_i64.2 (by omega), inR_i64.2 (by omega), fun h => ⟨⟨hsm, by decide, by decide⟩, fun r1 hr1 => ⟨by omega, fun b hb => ⟨fun hf => ⟨?_, fun ys hy => ?_⟩, fun ht => ?_⟩⟩⟩, fun h => ?_⟩, fun hge => ?_⟩
 ·simp only [fitsN, Bool.and_eq_true, Nat.ble_eq]; unfold maxLen; omega
 ·have hyl : ys.length = out.length + 1 := by rw [hy, List.length_append]; rfl
  rw [<- hyl, seg_all]
  obtain ⟨g1, g2, g3⟩ := go hlt ho (by omega) hQ ys (by rw [hnew h (by rw [<- hr1, <- hb]; exact hf)]; exact hy) (by omega)
  exact ⟨g1, Nat.le_refl _, g2, g3⟩
 ·exact go hlt ho (by omega) hQ out (hhad (by rw [<- hr1, <- hb]; exact ht)).symm (by omega)
 ·exact go hlt ho (by omega) hQ out (hno h).symm (by omega)
 ·rw [show (all - x).toNat = 0 by omega] at hQ; exact hQ
theorem h73L3 (out : List R4) (all x : Int) (Q : AX -> St -> Prop) (ha : all = 3 ^ 3) (x0 : 0 <= x) (x1 : x <= all) (ho : (out.length : Int) <= x)
  (hQ : Q (.exit 2) (stS 1 (S [(4, .own 0 TR4)]) ((List.range' x.toNat (all - x).toNat).foldl (stepS 3) out, ()))) :
  xloop2 Try.prog { nm := true, un := 6, ul := [2], f := [(100, fc100)], f2 := [(101, fc101)] } 5 73 1 lc73 (fun _ => some (S [(4, .own 0 TR4)], 1)) (fun (_, _, all, x, _) => (all - x).toNat) (3, out, all, x, ()) Q := by
 rw [v73L3]
 have ha3 : all = 27 := ha
 have e1 : x.tmod 3 = x % 3 := Int.tmod_eq_emod_of_nonneg x0
 have e2 : x.tdiv 3 = x / 3 := Int.tdiv_eq_ediv_of_nonneg x0
 have e3 : (x / 3).tmod 3 = x / 3 % 3 := Int.tmod_eq_emod_of_nonneg (by omega)
 have e4 : (x / 3).tdiv 3 = x / 3 / 3 := Int.tdiv_eq_ediv_of_nonneg (by omega)
 have e5 : (x / 3 / 3).tmod 3 = x / 9 % 3 := by rw [Int.tmod_eq_emod_of_nonneg (by omega)]; omega
 have e6 : (x / 3 / 3).tdiv 3 = x / 3 / 3 / 3 := Int.tdiv_eq_ediv_of_nonneg (by omega)
 have hx : ((x.toNat : Nat) : Int) = x := by omega
 have hd : digR 3 x.toNat = (x % 3 - 1, x / 3 % 3 - 1, x / 9 % 3 - 1, 0) := by unfold digR; rw [hx]; rfl
 have go := h73X 3 out all x Q ⟨by decide, by decide⟩ ha x0
 have hsm := sm_dig 3 x.toNat
 have hno := @step_no 3 x.toNat out
 have hhad := @step_had 3 x.toNat out
 have hnew := @step_new 3 x.toNat out
 have he : (x % 3 - 1 == 0 && (x / 3 % 3 - 1 == 0 && (x / 9 % 3 - 1 == 0 && ((0 : Int) == 0 && true)))) = eqR (digR 3 x.toNat) zR := by rw [hd, Bool.and_true]; rfl
 rw [e1, e2, e3, e4, e5, e6, he, <- hd]
 generalize digR 3 x.toNat = r at *
 simp only [fork_iff, req_iff, decide_eq_true_eq, decide_eq_false_iff_not, true_and, Nat.zero_add, Nat.le_refl, seg_all, Bool.not_eq_true', Bool.not_eq_false']
 refine ⟨fun hlt => ⟨inR_i64.2 (by omega), inR_i64.2 (by omega), inR_i64.2 (by omega), inR_i64.2 (by omega), inR_i64.2 (by omega), inR_i64.2 (by omega), fun h => ⟨⟨hsm, by decide, by decide⟩, fun r1 hr1 => ⟨by omega, fun b hb => ⟨fun hf => ⟨?_, fun ys hy => ?_⟩, fun ht => ?_⟩⟩⟩, fun h => ?_⟩, fun hge => ?_⟩
 ·simp only [fitsN, Bool.and_eq_true, Nat.ble_eq]; unfold maxLen; omega
 ·have hyl : ys.length = out.length + 1 := by rw [hy, List.length_append]; rfl
  rw [<- hyl, seg_all]
  obtain ⟨g1, g2, g3⟩ := go hlt ho (by omega) hQ ys (by rw [hnew h (by rw [<- hr1, <- hb]; exact hf)]; exact hy) (by omega)
  exact ⟨g1, Nat.le_refl _, g2, g3⟩
 ·exact go hlt ho (by omega) hQ out (hhad (by rw [<- hr1, <- hb]; exact ht)).symm (by omega)
 ·exact go hlt ho (by omega) hQ out (hno h).symm (by omega)
 ·rw [show (all - x).toNat = 0 by omega] at hQ; exact hQ
theorem three {m : Int} (h0 : 1 <= m) (h1 : m <= 3) : m = 1 \/ m = 2 \/ m = 3 := by omega
theorem ok73L : Lp2Ok Try.prog 73 1 lc73 := lp2_of (n := 5) (ex := fun _ => some (S [(4, .own 0 TR4)], 1)) (m := fun (_, _, all, x, _) => (all - x).toNat) (((good2_nilK _ 6 [2]).addF2 ok101).addF ok100) fun (m, out, all, x, ()) Q hx => by
 obtain ⟨⟨⟨g1, g2⟩, g3, ⟨g4, g5⟩, g6⟩, hQ⟩ := hx
 have g1 : (1 : Int) <= m := g1
 have g2 : m <= (3 : Int) := g2
 have hm := three g1 g2
 rcases hm with rfl | rfl | rfl
 ·exact h73L1 out all x Q g3 g4 g5 g6 hQ
 ·exact h73L2 out all x Q g3 g4 g5 g6 hQ
 ·exact h73L3 out all x Q g3 g4 g5 g6 hQ
theorem ok73 : FnOk Try.prog 73 fc73 := fn1_of (n := 5) ((good2_nilK _ 6 [0]).addL2 ok73L) fun (m, ()) K hx => by
 obtain ⟨⟨h0, h1⟩, hK⟩ := hx
 have h0 : (1 : Int) <= m := h0
 have h1 : m <= (3 : Int) := h1
 have hm := three h0 h1
 show xfn1 Try.prog { nm := true, un := 6, ul := [0], l2 := [(73, 1, lc73)] } 5 73 fc73 (m, ()) K
 rcases hm with rfl | rfl | rfl
 ·rw [v73F1]; exact ⟨by decide, hK _ (by decide +kernel)⟩
 ·rw [v73F2]; exact ⟨by decide, hK _ (by decide +kernel)⟩
 ·rw [v73F3]; exact ⟨by decide, hK _ (by decide +kernel)⟩
end Go.P8
