/- Rolls by the reference: the code keeps its contracts. No conditions. -/
import Derived.Test.YtcpdcpfbgmiaoaaDoorRefA
import Derived.Test.YtcpdcpfbgmiaoaaDoorRollN
import Derived.Test.YtcpdcpfbgmiaoaaDoorRollK
import Derived.Test.YtcpdcpfbgmiaoaaDoorCodesP
import Derived.Test.YtcpdcpfbgmiaoaaDoorCodeP
set_option linter.all false
set_option maxRecDepth 100000
set_option maxHeartbeats 4000000
namespace Go.P3
open Go.Lom Go.Proofs Go
theorem okNum3 : FnOk Tryd.prog 17 fcNumX := fun x K hx => ok17 x K (hx _ _ rfl)
theorem okCode3 : FnOk Tryd.prog 51 fcCodeX := fun x K hx => ok51 x K ⟨hx.1, hx.2 _ rfl⟩
theorem okFit3 : FnOk Tryd.prog 23 fcFit3 := fun x K hx => ok23 x K (hx _ _ rfl)
theorem h91L (w d0 : Int) (ts : List Tk) (es : List Ev) (p : Tx) (i : Int) (Q : AX -> St -> Prop) (h0 : 0 <= i) (h1 : i <= ts.length) (h2 : ts.length <= 256)
  (hF : (ts.drop i.toNat).any (named p) = false -> Q (.exit 0) (stS 3 sh91e (p, (w, d0, ts, es, ()), ()))) (hT : (ts.drop i.toNat).any (named p) = true -> Q .ret (stS 3 sh91r (false, (w, d0, ts, es, ()), ()))) :
  xloop2 Tryd.prog {} 5 91 0 lc91 ex91 (fun (r, _, i, _) => mL r.2.2.1 i) ((w, d0, ts, es, ()), p, i, ()) Q := by
 rw [v91L]
 simp only [fork_iff, req_iff, decide_eq_true_eq, decide_eq_false_iff_not, beq_iff_eq, beq_eq_false_iff_ne, ne_eq, true_and]
 refine ⟨fun hi => ⟨⟨h0, hi⟩, by omega, ?_⟩, fun hi => hF (by rw [drop_end hi]; rfl)⟩
 rw [drop_step T0 h0 hi] at hF hT
 simp only [List.any_cons] at hF hT
 rw [show (0, [], 0, [], 0, 0) = T0 from rfl]
 generalize ts.getD i.toNat T0 = t at *
 refine ⟨fun hp => hT (by rw [show named p t = true from decide_eq_true hp]; rfl), fun hp => ?_⟩
 rw [show named p t = false from decide_eq_false hp, Bool.false_or] at hF hT
 exact ⟨inR_i64.2 (by omega), mL_lt hi, ⟨⟨show (0 : Int) <= i + 1 by omega, show i + 1 <= (ts.length : Int) by omega, h2⟩, hF, hT⟩⟩
theorem ok91L : Lp2Ok Tryd.prog 91 0 lc91 := lp2_of (n := 5) (ex := ex91) (m := fun (r, _, i, _) => mL r.2.2.1 i) (good2_nil _) fun ((w, d0, ts, es, ()), p, i, ()) Q hx => by
 obtain ⟨⟨g1, g2, g3⟩, hF, hT⟩ := hx
 exact h91L w d0 ts es p i Q g1 g2 g3 hF hT
theorem ok91 : F2Ok Tryd.prog 91 fcNewW := fn2_of (n := 5) (((good2_nil _).addL2 ok91L).addF ok105) fun ((w, d0, ts, es, ()), p, ()) K hx => by
 obtain ⟨⟨g1, g2⟩, hK⟩ := hx
 have g1 : ts.length <= 256 := g1
 show xfn2 Tryd.prog { f := [(105, fcWord)], l2 := [(91, 0, lc91)] } 5 91 fcNewW ((w, d0, ts, es, ()), p, ()) K
 rw [v91F]
 simp only [req_iff, decide_eq_true_eq, true_and, List.drop_zero]
 exact ⟨⟨Int.le_refl (0 : Int), Int.natCast_nonneg _, g1⟩, fun h => ⟨g2, hK _ (by show _ = (wordB p && !ts.any (named p)); rw [h]; simp)⟩, fun h => hK _ (by show _ = (wordB p && !ts.any (named p)); rw [h]; simp)⟩
theorem ok94 : F2Ok Tryd.prog 94 fcBrg := fn2_of (n := 5) (((good2_nil _).addF okNum3).addF ok28) fun ((w, d0, ts, es, ()), c, d, ()) K hx => by
 obtain ⟨hok, hK⟩ := hx
 have hlen := hok.len
 have hday := hok.day
 simp only at hlen hday
 have hK : ∀ i e : Int, bringE (w, d0, ts, es) c d = e -> (e = 0 -> i = (numberI c).1 - 1) -> K ((w, d0, ts, es, ()), (), (), i, e, ()) := fun i e h => hK i e h.symm
 show xfn2 Tryd.prog { f := [(28, fcFrom), (17, fcNumX)] } 5 94 fcBrg ((w, d0, ts, es, ()), c, d, ()) K
 rw [v94F]
 simp only [fork_iff, req_iff, decide_eq_true_eq, decide_eq_false_iff_not, bne_iff_ne, ne_eq, bne_eq_false_iff_eq, Bool.not_eq_true', Bool.not_eq_false', true_and, gt_iff_lt]
 refine ⟨fun h => hK _ _ (bring34 (by simp only; omega)) (fun e => by cases e), fun h r e hre => ⟨fun h2 => hK _ _ (bringN hre (by simp only; omega) h2) (fun e' => absurd e' h2), fun h2 => ?_⟩⟩
 have hr := num_one hre h2
 have hrn : (numberI c).1 = r := numE hre
 refine ⟨fun h3 => hK _ _ (bring4 hre (by simp only; omega) h2 (by simp only; omega)) (fun e => by cases e), fun h3 => ?_⟩
 have B0 : ∀ h4 : (tkI ts r).2.2.1 = 1 \/ (tkI ts r).2.2.1 = 2, K ((w, d0, ts, es, ()), (), (), r - 1, 0, ()) := fun h4 => hK _ _ (bring0 hre (by simp only; omega) h2 (by simp only; omega) h4) (fun _ => by rw [hrn])
 refine ⟨inR_i64.2 (by omega), by omega, by omega, fun h4 => ⟨fun h5 => hK _ _ (bring35 hre (by simp only; omega) h2 (by simp only; omega) h4 h5) (fun e => by cases e), fun h5 => ⟨inR_i64.2 (by omega), B0 (.inr h5)⟩⟩, fun h4 => ⟨inR_i64.2 (by omega), B0 (.inl h4)⟩⟩
theorem goodTR : Good2 Tryd.prog TR := (((((((good2_nilN _).addF2 ok94).addF2 ok91).addF okFit3).addF okCode3).addF ok106).addF ok60).addF ok28
theorem set_turn {ts ys : List Tk} {n st si : Int} (h : ys = List.set ts (n - 1).toNat ((ts.getD (n - 1).toNat T0).1, (ts.getD (n - 1).toNat T0).2.1, st, (ts.getD (n - 1).toNat T0).2.2.2.1, si, (ts.getD (n - 1).toNat T0).2.2.2.2.2)) : ys = turnI ts n st si := h
theorem set_pl {ts ys : List Tk} {n st si : Int} (h : ys = List.set ts (n - 1).toNat ((ts.getD (n - 1).toNat T0).1, (ts.getD (n - 1).toNat T0).2.1, st, (ts.getD (n - 1).toNat T0).2.2.2.1, si, (ts.getD (n - 1).toNat T0).2.2.2.2.2)) : (ys.getD (n - 1).toNat T0).2.1 = (tkI ts n).2.1 := by
 rw [set_turn h]; exact turn_at.1
theorem h70 (w d0 d : Int) (ts : List Tk) (es : List Ev) (c : Tx) (K : fcRB.post.den -> Prop) (hok : okR (w, d0, ts, es)) (hroom : roomy es)
  (hK : ∀ (w1 d1 : Int) (ts1 : List Tk) (es1 : List Ev) (e : Int), ((w1, d1, ts1, es1), e) = blockI (w, d0, ts, es) c d -> K ((w1, d1, ts1, es1, ()), (), (), e, ())) :
  xfn2 Tryd.prog TR 6 70 fcRB ((w, d0, ts, es, ()), c, d, ()) K := by
 rw [v70F]
 have hlen := hok.len
 have hday := hok.day
 have hwt := hok.wait
 simp only at hlen hday hwt
 simp only [fork_iff, req_iff, decide_eq_true_eq, decide_eq_false_iff_not, bne_iff_ne, ne_eq, bne_eq_false_iff_eq, beq_iff_eq, beq_eq_false_iff_ne, Bool.not_eq_true', Bool.not_eq_false', Nat.zero_add, seg_self, Int.sub_self, gt_iff_lt, ge_iff_le, true_and, Nat.le_refl, List.nil_append, Bool.not_not, Decidable.not_not]
 refine ⟨hok, fun i e he hi => ?_⟩
 have hbad0 : e ≠ 0 -> K ((w, d0, ts, es, ()), (), (), e, ()) := fun hne => hK _ _ _ _ _ (by unfold blockI; rw [if_pos (by rw [<- he]; exact hne), <- he])
 by_cases hz : e = 0
 rotate_left
 ·repeat' (first
   | exact hbad0 hz
   | refine And.intro ?_ ?_
   | (intro h'; exact absurd h' hz)
   | (intro _; exact hbad0 hz)
   | intro _)
 subst hz
 have hi := hi rfl
 have h0 := he.symm
 obtain ⟨hd, -, hn1, hn2, -⟩ := bring_ok h0
 generalize hn : (numberI c).1 = n at *
 subst hi
 simp only at hd hn2
 have hel : (tkI ts n).2.2.2.1.length <= 9223372036854775807 := Nat.le_trans (edge_len hok hn1 hn2) (by decide)
 have hedge := (roll_tk hok hn1 hn2).edge
 have hsin : inR .i64 (d - (tkI ts n).2.2.2.2.1) = true := inR_i64.2 (by have := (roll_tk hok hn1 hn2).since; simp only at this; omega)
 simp only at hedge
 have hbad : (tkI ts n).2.2.1 = 2 -> K ((w, d0, ts, es, ()), (), (), 36, ()) := fun h2 => hK _ _ _ _ _ (by unfold blockI; rw [if_neg (by rw [h0]; decide)]; unfold stI; rw [hn, if_pos (by exact h2)])
 have hgood : ¬ (tkI ts n).2.2.1 = 2 -> ∀ (ts1 : List Tk) (es1 : List Ev), ts1 = turnI ts n 2 d -> es1 = es ++ [(2, d, n - 1 + 1, 0, 0)] -> K ((w, d, ts1, es1, ()), (), (), 0, ()) := fun h2 ts1 es1 e1 e2 => hK _ _ _ _ _ (by
  have e2 : es1 = es ++ [(2, d, n, 0, 0)] := by rw [e2, show n - 1 + 1 = n by omega]
  unfold blockI; rw [if_neg (by rw [h0]; decide)]; unfold stI; rw [hn, if_neg (by simpa using h2)]
  unfold doneI; simp only; rw [turnI_len, if_neg (Nat.lt_irrefl _), if_neg (Nat.lt_irrefl _), e1, e2])
 repeat' (first
  | refine And.intro ?_ ?_
  | (intro ys hys; have hl := congrArg List.length hys; simp only [List.length_set, List.length_append, seg_len, List.length_cons, List.length_nil] at hl)
  | intro _
  | exact hbad (by assumption)
  | exact hgood (by assumption) _ _ (by exact (seg_exact (by omega)).trans (set_turn (by assumption))) (by exact (seg_exact (by omega)).trans (by assumption))
  | omega
  | exact hroom
  | exact fits100 (by omega)
  | exact hel
  | exact hsin
  | exact inR_i64.2 (by omega)
  | trivial
  | rfl)
theorem ok70 : F2Ok Tryd.prog 70 fcRB := fn2_of (n := 6) goodTR fun ((w, d0, ts, es, ()), c, d, ()) K hx =>  by
 obtain ⟨⟨g1, g2⟩, hK⟩ := hx
 exact h70 w d0 d ts es c K g1 g2 hK
theorem h71 (w d0 d : Int) (ts : List Tk) (es : List Ev) (c : Tx) (g : List Int) (K : fcRF.post.den -> Prop) (hok : okR (w, d0, ts, es)) (hroom : roomy es)
  (hK : ∀ (w1 d1 : Int) (ts1 : List Tk) (es1 : List Ev) (e : Int), ((w1, d1, ts1, es1), e) = freeI (w, d0, ts, es) c g d -> K ((w1, d1, ts1, es1, ()), (), (), (), e, ())) :
  xfn2 Tryd.prog TR 6 71 fcRF ((w, d0, ts, es, ()), c, g, d, ()) K := by
 rw [v71F]
 have hlen := hok.len
 have hday := hok.day
 have hwt := hok.wait
 simp only at hlen hday hwt
 simp only [fork_iff, req_iff, decide_eq_true_eq, decide_eq_false_iff_not, bne_iff_ne, ne_eq, bne_eq_false_iff_eq, beq_iff_eq, beq_eq_false_iff_ne, Bool.not_eq_true', Bool.not_eq_false', Nat.zero_add, seg_self, Int.sub_self, gt_iff_lt, ge_iff_le, true_and, Nat.le_refl, List.nil_append, Bool.not_not, Decidable.not_not]
 refine ⟨hok, fun i e he hi => ?_⟩
 have hbad0 : e ≠ 0 -> K ((w, d0, ts, es, ()), (), (), (), e, ()) := fun hne => hK _ _ _ _ _ (by unfold freeI; rw [if_pos (by rw [<- he]; exact hne), <- he])
 by_cases hz : e = 0
 rotate_left
 ·repeat' (first
   | exact hbad0 hz
   | refine And.intro ?_ ?_
   | (intro h'; exact absurd h' hz)
   | (intro _; exact hbad0 hz)
   | intro _)
 subst hz
 have hi := hi rfl
 have h0 := he.symm
 obtain ⟨hd, -, hn1, hn2, -⟩ := bring_ok h0
 generalize hn : (numberI c).1 = n at *
 subst hi
 simp only at hd hn2
 have hel : (tkI ts n).2.2.2.1.length <= 9223372036854775807 := Nat.le_trans (edge_len hok hn1 hn2) (by decide)
 have hedge := (roll_tk hok hn1 hn2).edge
 have hsin : inR .i64 (d - (tkI ts n).2.2.2.2.1) = true := inR_i64.2 (by have := (roll_tk hok hn1 hn2).since; simp only at this; omega)
 simp only at hedge
 have hbad : ¬ (tkI ts n).2.2.1 = 2 -> K ((w, d0, ts, es, ()), (), (), (), 37, ()) := fun h2 => hK _ _ _ _ _ (by unfold freeI; rw [if_neg (by rw [h0]; decide)]; unfold stI; rw [hn, if_pos (by exact h2)])
 have hbadF : ∀ n' f : Int, (tkI ts n).2.2.1 = 2 -> (n', f) = fitE (tkI ts n).2.2.2.1 g -> f ≠ 0 -> K ((w, d0, ts, es, ()), (), (), (), f, ()) := fun n' f h2 h3 h4 => hK _ _ _ _ _ (by
  have h5 : fitsE (tkI ts n) g = f := by rw [fits_E hedge, <- h3]
  unfold freeI; rw [if_neg (by rw [h0]; decide)]; unfold stI; rw [hn, if_neg (by simpa using h2), h5, if_pos h4])
 have hgood : ∀ n' f : Int, (n', f) = fitE (tkI ts n).2.2.2.1 g -> f = 0 -> (tkI ts n).2.2.1 = 2 -> ∀ (ts1 : List Tk) (es1 : List Ev), ts1 = turnI ts n 1 0 -> es1 = es ++ [(3, d, n - 1 + 1, 0, 0)] -> K ((w, d, ts1, es1, ()), (), (), (), 0, ()) := fun n' f h3 h4 h2 ts1 es1 e1 e2 => hK _ _ _ _ _ (by
  have e2 : es1 = es ++ [(3, d, n, 0, 0)] := by rw [e2, show n - 1 + 1 = n by omega]
  unfold freeI; rw [if_neg (by rw [h0]; decide)]; unfold stI; rw [hn, if_neg (by simpa using h2), fits_E hedge, <- h3, if_neg (by simp only; rw [h4]; decide)]
  unfold doneI; simp only; rw [turnI_len, if_neg (Nat.lt_irrefl _), if_neg (Nat.lt_irrefl _), e1, e2])
 repeat' (first
  | refine And.intro ?_ ?_
  | (intro ys hys; have hl := congrArg List.length hys; simp only [List.length_set, List.length_append, seg_len, List.length_cons, List.length_nil] at hl)
  | intro _
  | exact hbad (by assumption)
  | exact hbadF _ _ (by assumption) (by assumption) (by assumption)
  | exact hgood _ _ (by assumption) (by assumption) (by assumption) _ _ (by exact (seg_exact (by omega)).trans (set_turn (by assumption))) (by exact (seg_exact (by omega)).trans (by assumption))
  | omega
  | exact hroom
  | exact fits100 (by omega)
  | exact hel
  | exact hsin
  | exact inR_i64.2 (by omega)
  | trivial
  | rfl)
theorem ok71 : F2Ok Tryd.prog 71 fcRF := fn2_of (n := 6) goodTR fun ((w, d0, ts, es, ()), c, g, d, ()) K hx =>  by
 obtain ⟨⟨g1, g2⟩, hK⟩ := hx
 exact h71 w d0 d ts es c g K g1 g2 hK
theorem h74 (w d0 d : Int) (ts : List Tk) (es : List Ev) (c : Tx) (g : List Int) (K : fcRD.post.den -> Prop) (hok : okR (w, d0, ts, es)) (hroom : roomy es)
  (hK : ∀ (w1 d1 : Int) (ts1 : List Tk) (es1 : List Ev) (x : Tx) (e : Int), ((w1, d1, ts1, es1), x, e) = redeemI (w, d0, ts, es) c g d -> K ((w1, d1, ts1, es1, ()), (), (), (), x, e, ())) :
  xfn2 Tryd.prog TR 6 74 fcRD ((w, d0, ts, es, ()), c, g, d, ()) K := by
 rw [v74F]
 have hlen := hok.len
 have hday := hok.day
 have hwt := hok.wait
 simp only at hlen hday hwt
 simp only [fork_iff, req_iff, decide_eq_true_eq, decide_eq_false_iff_not, bne_iff_ne, ne_eq, bne_eq_false_iff_eq, beq_iff_eq, beq_eq_false_iff_ne, Bool.not_eq_true', Bool.not_eq_false', Nat.zero_add, seg_self, Int.sub_self, gt_iff_lt, ge_iff_le, true_and, Nat.le_refl, List.nil_append, Bool.not_not, Decidable.not_not]
 refine ⟨hok, fun i e he hi => ?_⟩
 have hbad0 : e ≠ 0 -> K ((w, d0, ts, es, ()), (), (), (), [], e, ()) := fun hne => hK _ _ _ _ _ _ (by unfold redeemI; rw [if_pos (by rw [<- he]; exact hne), <- he])
 by_cases hz : e = 0
 rotate_left
 ·repeat' (first
   | exact hbad0 hz
   | refine And.intro ?_ ?_
   | (intro h'; exact absurd h' hz)
   | (intro _; exact hbad0 hz)
   | intro _)
 subst hz
 have hi := hi rfl
 have h0 := he.symm
 obtain ⟨hd, -, hn1, hn2, -⟩ := bring_ok h0
 generalize hn : (numberI c).1 = n at *
 subst hi
 simp only at hd hn2
 have hel : (tkI ts n).2.2.2.1.length <= 9223372036854775807 := Nat.le_trans (edge_len hok hn1 hn2) (by decide)
 have hedge := (roll_tk hok hn1 hn2).edge
 have hsin : inR .i64 (d - (tkI ts n).2.2.2.2.1) = true := inR_i64.2 (by have := (roll_tk hok hn1 hn2).since; simp only at this; omega)
 simp only at hedge
 have hbad : (tkI ts n).2.2.1 = 2 -> K ((w, d0, ts, es, ()), (), (), (), [], 36, ()) := fun h2 => hK _ _ _ _ _ _ (by unfold redeemI; rw [if_neg (by rw [h0]; decide)]; unfold stI; rw [hn, if_pos (by exact h2)])
 have hbadF : ∀ n' f : Int, ¬ (tkI ts n).2.2.1 = 2 -> (n', f) = fitE (tkI ts n).2.2.2.1 g -> f ≠ 0 -> K ((w, d0, ts, es, ()), (), (), (), [], f, ()) := fun n' f h2 h3 h4 => hK _ _ _ _ _ _ (by
  have h5 : fitsE (tkI ts n) g = f := by rw [fits_E hedge, <- h3]
  unfold redeemI; rw [if_neg (by rw [h0]; decide)]; unfold stI; rw [hn, if_neg (by simpa using h2), h5, if_pos h4])
 have hgood : ∀ n' f : Int, (n', f) = fitE (tkI ts n).2.2.2.1 g -> f = 0 -> ¬ (tkI ts n).2.2.1 = 2 -> ∀ (ts1 : List Tk) (es1 : List Ev) (x : Tx), ts1 = turnI ts n 4 0 -> es1 = es ++ [(6, d, n - 1 + 1, 0, 0)] -> x = (tkI ts n).2.1 -> K ((w, d, ts1, es1, ()), (), (), (), x, 0, ()) := fun n' f h3 h4 h2 ts1 es1 x e1 e2 e3 => hK _ _ _ _ _ _ (by
  have e2 : es1 = es ++ [(6, d, n, 0, 0)] := by rw [e2, show n - 1 + 1 = n by omega]
  unfold redeemI; rw [if_neg (by rw [h0]; decide)]; unfold stI; rw [hn, if_neg (by simpa using h2), fits_E hedge, <- h3, if_neg (by simp only; rw [h4]; decide)]
  unfold doneI; simp only; rw [turnI_len, if_neg (Nat.lt_irrefl _), if_neg (Nat.lt_irrefl _), e1, e2, e3])
 repeat' (first
  | refine And.intro ?_ ?_
  | (intro ys hys; have hl := congrArg List.length hys; simp only [List.length_set, List.length_append, seg_len, List.length_cons, List.length_nil] at hl)
  | intro _
  | exact hbad (by assumption)
  | exact hbadF _ _ (by assumption) (by assumption) (by assumption)
  | exact hgood _ _ (by assumption) (by assumption) (by assumption) _ _ _ (by exact (seg_exact (by omega)).trans (set_turn (by assumption))) (by exact (seg_exact (by omega)).trans (by assumption)) (by exact set_pl (by assumption))
  | omega
  | exact hroom
  | exact fits100 (by omega)
  | exact hel
  | exact hsin
  | exact inR_i64.2 (by omega)
  | trivial
  | rfl)
theorem ok74 : F2Ok Tryd.prog 74 fcRD := fn2_of (n := 6) goodTR fun ((w, d0, ts, es, ()), c, g, d, ()) K hx =>  by
 obtain ⟨⟨g1, g2⟩, hK⟩ := hx
 exact h74 w d0 d ts es c g K g1 g2 hK
theorem h75 (w d0 d : Int) (ts : List Tk) (es : List Ev) (c : Tx) (K : fcRG.post.den -> Prop) (hok : okR (w, d0, ts, es)) (hroom : roomy es)
  (hK : ∀ (w1 d1 : Int) (ts1 : List Tk) (es1 : List Ev) (x : Tx) (e : Int), ((w1, d1, ts1, es1), x, e) = forfeitI (w, d0, ts, es) c d -> K ((w1, d1, ts1, es1, ()), (), (), x, e, ())) :
  xfn2 Tryd.prog TR 6 75 fcRG ((w, d0, ts, es, ()), c, d, ()) K := by
 rw [v75F]
 have hlen := hok.len
 have hday := hok.day
 have hwt := hok.wait
 simp only at hlen hday hwt
 simp only [fork_iff, req_iff, decide_eq_true_eq, decide_eq_false_iff_not, bne_iff_ne, ne_eq, bne_eq_false_iff_eq, beq_iff_eq, beq_eq_false_iff_ne, Bool.not_eq_true', Bool.not_eq_false', Nat.zero_add, seg_self, Int.sub_self, gt_iff_lt, ge_iff_le, true_and, Nat.le_refl, List.nil_append, Bool.not_not, Decidable.not_not]
 refine ⟨hok, fun i e he hi => ?_⟩
 have hbad0 : e ≠ 0 -> K ((w, d0, ts, es, ()), (), (), [], e, ()) := fun hne => hK _ _ _ _ _ _ (by unfold forfeitI; rw [if_pos (by rw [<- he]; exact hne), <- he])
 by_cases hz : e = 0
 rotate_left
 ·repeat' (first
   | exact hbad0 hz
   | refine And.intro ?_ ?_
   | (intro h'; exact absurd h' hz)
   | (intro _; exact hbad0 hz)
   | intro _)
 subst hz
 have hi := hi rfl
 have h0 := he.symm
 obtain ⟨hd, -, hn1, hn2, -⟩ := bring_ok h0
 generalize hn : (numberI c).1 = n at *
 subst hi
 simp only at hd hn2
 have hel : (tkI ts n).2.2.2.1.length <= 9223372036854775807 := Nat.le_trans (edge_len hok hn1 hn2) (by decide)
 have hedge := (roll_tk hok hn1 hn2).edge
 have hsin : inR .i64 (d - (tkI ts n).2.2.2.2.1) = true := inR_i64.2 (by have := (roll_tk hok hn1 hn2).since; simp only at this; omega)
 simp only at hedge
 have hbad : (tkI ts n).2.2.1 = 2 -> K ((w, d0, ts, es, ()), (), (), [], 36, ()) := fun h2 => hK _ _ _ _ _ _ (by unfold forfeitI; rw [if_neg (by rw [h0]; decide)]; unfold stI; rw [hn, if_pos (by exact h2)])
 have hgood : ¬ (tkI ts n).2.2.1 = 2 -> ∀ (ts1 : List Tk) (es1 : List Ev) (x : Tx), ts1 = turnI ts n 5 0 -> es1 = es ++ [(7, d, n - 1 + 1, 0, 0)] -> x = (tkI ts n).2.1 -> K ((w, d, ts1, es1, ()), (), (), x, 0, ()) := fun h2 ts1 es1 x e1 e2 e3 => hK _ _ _ _ _ _ (by
  have e2 : es1 = es ++ [(7, d, n, 0, 0)] := by rw [e2, show n - 1 + 1 = n by omega]
  unfold forfeitI; rw [if_neg (by rw [h0]; decide)]; unfold stI; rw [hn, if_neg (by simpa using h2)]
  unfold doneI; simp only; rw [turnI_len, if_neg (Nat.lt_irrefl _), if_neg (Nat.lt_irrefl _), e1, e2, e3])
 repeat' (first
  | refine And.intro ?_ ?_
  | (intro ys hys; have hl := congrArg List.length hys; simp only [List.length_set, List.length_append, seg_len, List.length_cons, List.length_nil] at hl)
  | intro _
  | exact hbad (by assumption)
  | exact hgood (by assumption) _ _ _ (by exact (seg_exact (by omega)).trans (set_turn (by assumption))) (by exact (seg_exact (by omega)).trans (by assumption)) (by exact set_pl (by assumption))
  | omega
  | exact hroom
  | exact fits100 (by omega)
  | exact hel
  | exact hsin
  | exact inR_i64.2 (by omega)
  | trivial
  | rfl)
theorem ok75 : F2Ok Tryd.prog 75 fcRG := fn2_of (n := 6) goodTR fun ((w, d0, ts, es, ()), c, d, ()) K hx =>  by
 obtain ⟨⟨g1, g2⟩, hK⟩ := hx
 exact h75 w d0 d ts es c K g1 g2 hK
theorem h72 (w d0 d : Int) (ts : List Tk) (es : List Ev) (c : Tx) (g : List Int) (K : fcRR.post.den -> Prop) (hok : okR (w, d0, ts, es)) (hroom : roomy es)
  (hK : ∀ (w1 d1 : Int) (ts1 : List Tk) (es1 : List Ev) (x : Tx) (e : Int), ((w1, d1, ts1, es1), x, e) = replaceI (w, d0, ts, es) c g d -> K ((w1, d1, ts1, es1, ()), (), (), (), x, e, ())) :
  xfn2 Tryd.prog TR 6 72 fcRR ((w, d0, ts, es, ()), c, g, d, ()) K := by
 rw [v72F]
 have hlen := hok.len
 have hday := hok.day
 have hwt := hok.wait
 simp only at hlen hday hwt
 simp only [fork_iff, req_iff, decide_eq_true_eq, decide_eq_false_iff_not, bne_iff_ne, ne_eq, bne_eq_false_iff_eq, beq_iff_eq, beq_eq_false_iff_ne, Bool.not_eq_true', Bool.not_eq_false', Nat.zero_add, seg_self, Int.sub_self, gt_iff_lt, ge_iff_le, true_and, Nat.le_refl, List.nil_append, Bool.not_not, Decidable.not_not]
 refine ⟨hok, fun i e he hi => ?_⟩
 have hbad0 : e ≠ 0 -> K ((w, d0, ts, es, ()), (), (), (), [], e, ()) := fun hne => hK _ _ _ _ _ _ (by unfold replaceI; rw [if_pos (by rw [<- he]; exact hne), <- he])
 by_cases hz : e = 0
 rotate_left
 ·repeat' (first
   | exact hbad0 hz
   | refine And.intro ?_ ?_
   | (intro h'; exact absurd h' hz)
   | (intro _; exact hbad0 hz)
   | intro _)
 subst hz
 have hi := hi rfl
 have h0 := he.symm
 obtain ⟨hd, -, hn1, hn2, -⟩ := bring_ok h0
 generalize hn : (numberI c).1 = n at *
 subst hi
 simp only at hd hn2
 have hel : (tkI ts n).2.2.2.1.length <= 9223372036854775807 := Nat.le_trans (edge_len hok hn1 hn2) (by decide)
 have hedge := (roll_tk hok hn1 hn2).edge
 have hsin : inR .i64 (d - (tkI ts n).2.2.2.2.1) = true := inR_i64.2 (by have := (roll_tk hok hn1 hn2).since; simp only at this; omega)
 simp only at hedge
 have hno : (tkI ts n).1 = n := by rw [(roll_tk hok hn1 hn2).num]; omega
 have hbad37 : ¬ ((tkI ts n).2.2.1 = 2 /\ w <= d - (tkI ts n).2.2.2.2.1) -> K ((w, d0, ts, es, ()), (), (), (), [], 37, ()) := fun h2 => hK _ _ _ _ _ _ (by unfold replaceI; rw [if_neg (by rw [h0]; decide)]; unfold stI; rw [hn, if_pos h2])
 have hbad31 : (tkI ts n).2.2.1 = 2 -> ¬ d - (tkI ts n).2.2.2.2.1 < w -> inB 0 g = false -> K ((w, d0, ts, es, ()), (), (), (), [], 31, ()) := fun h1 h2 h3 => hK _ _ _ _ _ _ (by unfold replaceI; rw [if_neg (by rw [h0]; decide)]; unfold stI; rw [hn, if_neg (fun e => e ⟨h1, Int.not_lt.1 h2⟩), if_pos h3])
 have hbad6 : (tkI ts n).2.2.1 = 2 -> ¬ d - (tkI ts n).2.2.2.2.1 < w -> inB 0 g = true -> 256 <= (ts.length : Int) -> K ((w, d0, ts, es, ()), (), (), (), [], 6, ()) := fun h1 h2 h3 h4 => hK _ _ _ _ _ _ (by unfold replaceI; rw [if_neg (by rw [h0]; decide)]; unfold stI; rw [hn, if_neg (fun e => e ⟨h1, Int.not_lt.1 h2⟩), if_neg (by rw [h3]; decide), if_pos (by simp only; omega)])
 have hgood : (tkI ts n).2.2.1 = 2 -> ¬ d - (tkI ts n).2.2.2.2.1 < w -> inB 0 g = true -> ∀ (ts0 ts1 : List Tk) (es1 : List Ev) (x : Tx) (g' : List Int) (pl : Tx), g' = g -> ts1 = ts0 ++ [((ts.length : Int) + 1, pl, 1, g', 0, n - 1 + 1)] -> ts0 = turnI ts n 3 0 -> pl = (tkI ts n).2.1 -> es1 = es ++ [(4, d, n - 1 + 1, ((ts.length + 1 : Nat) : Int), 1)] -> x = codeS ((ts.length : Int) + 1) -> ¬ 256 <= (ts.length : Int) -> K ((w, d, ts1, es1, ()), (), (), (), x, 0, ()) := fun h1 h2 h3 ts0 ts1 es1 x g' pl hg e1 e0 ep e2 e3 h4 => hK _ _ _ _ _ _ (by
  have e2 : es1 = es ++ [(4, d, n, ((ts.length + 1 : Nat) : Int), 1)] := by rw [e2, show n - 1 + 1 = n by omega]
  have hl : ts1.length = ts.length + 1 := by rw [e1, List.length_append, e0, turnI_len]; rfl
  have e1' : ts1 = turnI ts n 3 0 ++ [((ts.length : Int) + 1, (tkI ts n).2.1, 1, g, 0, n)] := by rw [e1, e0, ep, hg, show n - 1 + 1 = n by omega]
  unfold replaceI; rw [if_neg (by rw [h0]; decide)]; unfold stI; rw [hn, if_neg (fun e => e ⟨h1, Int.not_lt.1 h2⟩), if_neg (by rw [h3]; decide), if_neg (by simp only; omega)]
  unfold doneI; simp only; rw [<- e1', hl, if_pos (by omega), if_pos (by omega), e2, e3, show ((ts.length + 1 : Nat) : Int) - (ts.length : Int) = 1 by omega])
 repeat' (first
  | refine And.intro ?_ ?_
  | (intro ys hys; have hl := congrArg List.length hys; simp only [List.length_set, List.length_append, seg_len, List.length_cons, List.length_nil] at hl)
  | intro _
  | exact hbad37 (by exact fun e => absurd e.1 (by assumption))
  | exact hbad37 (by exact fun e => absurd e.2 (Int.not_le.2 (by assumption)))
  | exact hbad31 (by assumption) (by assumption) (by assumption)
  | exact hbad6 (by assumption) (by assumption) (by assumption) (by omega)
  | exact hgood (by assumption) (by assumption) (by assumption) _ _ _ _ _ _ (by assumption) (by exact (seg_exact (by omega)).trans (by assumption)) (by exact (seg_exact (by omega)).trans (set_turn (by assumption))) (by exact set_pl (by assumption)) (by exact (seg_exact (by omega)).trans (by assumption)) (by assumption) (by omega)
  | omega
  | exact hroom
  | exact fits100 (by omega)
  | exact hel
  | exact hsin
  | exact inR_i64.2 (by omega)
  | exact Nat.le_trans (edge16 (by assumption)) (by decide)
  | exact (show (0 : Int) <= (ts.length : Int) + 1 by omega)
  | exact (show (ts.length : Int) + 1 <= 99999999 by omega)
  | trivial
  | rfl)
theorem ok72 : F2Ok Tryd.prog 72 fcRR := fn2_of (n := 6) goodTR fun ((w, d0, ts, es, ()), c, g, d, ()) K hx =>  by
 obtain ⟨⟨g1, g2⟩, hK⟩ := hx
 exact h72 w d0 d ts es c g K g1 g2 hK
theorem h69 (w d0 d : Int) (ts : List Tk) (es : List Ev) (p : Tx) (g : List Int) (K : fcRI.post.den -> Prop) (hok : okR (w, d0, ts, es)) (hroom : roomy es) (hp : p.length <= big)
  (hK : ∀ (w1 d1 : Int) (ts1 : List Tk) (es1 : List Ev) (x : Tx) (e : Int), ((w1, d1, ts1, es1), x, e) = issueI (w, d0, ts, es) p g d -> K ((w1, d1, ts1, es1, ()), (), (), (), x, e, ())) :
  xfn2 Tryd.prog TR 6 69 fcRI ((w, d0, ts, es, ()), p, g, d, ()) K := by
 rw [v69F]
 have hlen := hok.len
 have hday := hok.day
 simp only at hlen hday
 simp only [fork_iff, req_iff, decide_eq_true_eq, decide_eq_false_iff_not, bne_iff_ne, ne_eq, bne_eq_false_iff_eq, beq_iff_eq, beq_eq_false_iff_ne, Bool.not_eq_true', Bool.not_eq_false', Nat.zero_add, seg_self, Int.sub_self, gt_iff_lt, ge_iff_le, true_and, Nat.le_refl, List.nil_append, Bool.not_not, Decidable.not_not]
 refine ⟨fun h => hK _ _ _ _ _ _ (issue34 (by simp only; omega)).symm, fun h => ⟨⟨hlen, hp⟩, fun b hb => ⟨fun hb0 => hK _ _ _ _ _ _ ?_, fun hb1 => ?_⟩⟩⟩
 ·rw [hb0] at hb
  cases h1 : wordB p with
  | false => exact (issue33a (by simp only; omega) h1).symm
  | true =>
   rw [h1, Bool.true_and] at hb
   exact (issue33b (by simp only; omega) (by simpa using hb.symm)).symm
 ·rw [hb1] at hb
  have hb := hb.symm
  simp only [Bool.and_eq_true, Bool.not_eq_true'] at hb
  have hd : 0 <= d /\ d <= 36500 /\ d0 <= d := by omega
  refine ⟨fun h3 => hK _ _ _ _ _ _ (issue31 hd hb.1 hb.2 h3).symm, fun h3 => ⟨fun h4 => hK _ _ _ _ _ _ (issue6 hd hb.1 hb.2 h3 (by simp only; omega)).symm, fun h4 => ⟨inR_i64.2 (by omega), Nat.le_trans (edge16 h3) (by decide), fun r hr => ?_⟩⟩⟩
  have fin : ∀ (ys : List Tk) (zs : List Ev) (s : Tx), ys = ts ++ [((ts.length : Int) + 1, p, 1, r, 0, 0)] -> s = codeS ((ts.length : Int) + 1) -> zs = es ++ [(1, d, 0, ((ts.length + 1 : Nat) : Int), 1)] -> K ((w, d, ys, zs, ()), (), (), (), s, 0, ()) := fun ys zs s e1 e3 e2 => hK _ _ _ _ _ _ (by
   have hl : ys.length = ts.length + 1 := by rw [e1, List.length_append]; rfl
   unfold issueI dayB hadB
   rw [if_neg (by rw [decide_eq_true hd]; decide), if_neg (by simp only; rw [hb.1, hb.2]; decide), if_neg (by rw [h3]; decide), if_neg (by simp only; omega)]
   subst hr
   unfold doneI; simp only
   rw [<- e1, hl, if_pos (by omega), if_pos (by omega), e2, e3, show ((ts.length + 1 : Nat) : Int) - (ts.length : Int) = 1 by omega])
  refine ⟨fits100 (by omega), fun ys hys => ⟨⟨show (0 : Int) <= (ts.length : Int) + 1 by omega, show (ts.length : Int) + 1 <= 99999999 by omega⟩, fun s hs => ⟨hroom, fun zs hzs => ?_⟩⟩⟩
  have l1 : ys.length = ts.length + 1 := by rw [hys, List.length_append]; rfl
  have l2 : zs.length = es.length + 1 := by rw [hzs, List.length_append]; rfl
  refine ⟨by omega, by omega, ?_⟩
  rw [seg_exact (show ts.length + 1 = ys.length by omega), seg_exact (show es.length + 1 = zs.length by omega)]
  exact fin ys zs s hys hs hzs
theorem ok69 : F2Ok Tryd.prog 69 fcRI := fn2_of (n := 6) goodTR fun ((w, d0, ts, es, ()), p, g, d, ()) K hx => by
 obtain ⟨⟨g1, g2, g3⟩, hK⟩ := hx
 exact h69 w d0 d ts es p g K g1 g2 g3 hK
end Go.P3
