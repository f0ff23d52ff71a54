/- Rolls: calls of a roll: the code keeps its contract. No conditions. -/
import Derived.Test.YtcpdcpfbgmiaoaaDoorRollB
set_option linter.all false
set_option maxRecDepth 100000
set_option maxHeartbeats 4000000
namespace Go.P3
open Go.Lom Go.Proofs Go
theorem h86_2 (wt dy d : Int) (ts : List Tk) (es : List Ev) (c : Tx) (h : List Int) (ps : List Tx) (eds : List (List Int)) (K : postDo.den -> Prop)
  (hx : preD wt dy ts es true 2 h ps eds [] [])
  (hK : ∀ (w1 d1 : Int) (ts1 : List Tk) (es1 : List Ev) (c1 : Tx) (h1 : List Int) (ps1 : List Tx) (eds1 : List (List Int)) (dd1 : Int) (cs1 : List Tx) (pl1 : Tx) (e : Int), ((w1, d1, ts1, es1), cs1, pl1, e) = doC 2 (wt, dy, ts, es) c h ps eds d ->
   K ((w1, d1, ts1, es1, true, ()), (), (c1, h1, ps1, eds1, dd1, cs1, pl1, ()), e, ())) :
  xfn2 Tryd.prog TB 8 86 fcDo ((wt, dy, ts, es, true, ()), 2, (c, h, ps, eds, d, [], [], ()), ()) K := by
 rw [v86_2]; unfold v86_2T
 have hlen := hx.roll.len
 have hday := hx.roll.day
 have hwt := hx.roll.wait
 simp only at hlen hday hwt
 have hb : ∀ e : Int, bringE (wt, dy, ts, es) c d = e -> e ≠ 0 -> K ((wt, dy, ts, es, true, ()), (), ([], [], [], [], 0, [], [], ()), e, ()) := fun e he hne =>
  hK _ _ _ _ _ _ _ _ _ _ _ _ (by rw [doC_bring (by decide) (by rw [he]; exact hne), he])
 have hbad : ∀ r e : Int, (r, e) = numberI c -> bringE (wt, dy, ts, es) c d = 0 -> (tkI ts r).2.2.1 = 2 -> K ((wt, dy, ts, es, true, ()), (), ([], [], [], [], 0, [], [], ()), 36, ()) := fun r e hre h0 h2 =>
  hK _ _ _ _ _ _ _ _ _ _ _ _ (by
   have : blockI (wt, dy, ts, es) c d = ((wt, dy, ts, es), 36) := by unfold blockI stI; rw [if_neg (by rw [h0]; decide), numE hre, if_pos (by exact h2)]
   unfold doC; rw [if_neg (by decide)]; rw [if_pos rfl]; rw [this])
 have hgood : ∀ (r e : Int) (ts1 : List Tk) (es1 : List Ev), (r, e) = numberI c -> bringE (wt, dy, ts, es) c d = 0 -> ¬ (tkI ts r).2.2.1 = 2 -> ts1 = turnI ts r 2 d -> es1 = es ++ [(2, d, r, 0, 0)] ->
   K ((wt, d, ts1, es1, true, ()), (), (c, h, ps, eds, d, [], [], ()), 0, ()) := fun r e ts1 es1 hre h0 h2 e1 e2 =>
  hK _ _ _ _ _ _ _ _ _ _ _ _ (by
   have : blockI (wt, dy, ts, es) c d = ((wt, d, ts1, es1), 0) := by
    unfold blockI stI; rw [if_neg (by rw [h0]; decide), numE hre, if_neg (by simpa using h2)]
    unfold doneI; simp only; rw [turnI_len, if_neg (Nat.lt_irrefl _), if_neg (Nat.lt_irrefl _), e1, e2]
   unfold doC; rw [if_neg (by decide)]; rw [if_pos rfl]; rw [this])
 simp only [fork_iff, req_iff, decide_eq_true_eq, decide_eq_false_iff_not, bne_iff_ne, ne_eq, bne_eq_false_iff_eq, beq_iff_eq, beq_eq_false_iff_ne, Bool.not_eq_true', Bool.not_eq_false', Nat.zero_add, seg_self, Int.sub_self, gt_iff_lt, ge_iff_le, Int.lt_irrefl, false_imp_iff, true_and, not_false_eq_true, true_imp_iff, Nat.le_refl, Bool.not_true, Bool.not_false, List.nil_append, Bool.not_not]
 repeat' (first
  | refine And.intro ?_ ?_
  | (intro he0; have hr1 := num_one (c := c) (by assumption) he0)
  | (intro ys hys; have hl := congrArg List.length hys; simp only [List.length_set, List.length_append, seg_len, List.length_cons, List.length_nil] at hl)
  | intro _
  | exact hb 34 (bring34 (by simp only; omega)) (by decide)
  | exact hb 4 (bring4 (by assumption) (by simp only; omega) (by assumption) (by simp only; omega)) (by decide)
  | exact hb 35 (bring35 (by assumption) (by simp only; omega) (by assumption) (by simp only; omega) (by assumption) (by assumption)) (by decide)
  | exact hb _ (bringN (by assumption) (by simp only; omega) (by assumption)) (by assumption)
  | exact hbad _ _ (by assumption) (bring0 (by assumption) (by simp only; omega) (by assumption) (by simp only; omega) (by first | exact .inl (by assumption) | exact .inr (by assumption))) (by assumption)
  | exact hgood _ _ _ _ (by assumption) (bring0 (by assumption) (by simp only; omega) (by assumption) (by simp only; omega) (by first | exact .inl (by assumption) | exact .inr (by assumption))) (by assumption) (by exact (seg_exact (by omega)).trans (two_sets (by assumption) (by assumption))) (by exact (seg_exact (by omega)).trans (by assumption))
  | omega
  | exact inR_i64.2 (by omega)
  | exact hx.room
  | exact fits100 (by omega)
  | trivial)
theorem h86_3 (wt dy d : Int) (ts : List Tk) (es : List Ev) (c : Tx) (h : List Int) (ps : List Tx) (eds : List (List Int)) (K : postDo.den -> Prop)
  (hx : preD wt dy ts es true 3 h ps eds [] [])
  (hK : ∀ (w1 d1 : Int) (ts1 : List Tk) (es1 : List Ev) (c1 : Tx) (h1 : List Int) (ps1 : List Tx) (eds1 : List (List Int)) (dd1 : Int) (cs1 : List Tx) (pl1 : Tx) (e : Int), ((w1, d1, ts1, es1), cs1, pl1, e) = doC 3 (wt, dy, ts, es) c h ps eds d ->
   K ((w1, d1, ts1, es1, true, ()), (), (c1, h1, ps1, eds1, dd1, cs1, pl1, ()), e, ())) :
  xfn2 Tryd.prog TB 8 86 fcDo ((wt, dy, ts, es, true, ()), 3, (c, h, ps, eds, d, [], [], ()), ()) K := by
 rw [v86_3]; unfold v86_3T
 have hlen := hx.roll.len
 have hday := hx.roll.day
 have hwt := hx.roll.wait
 simp only at hlen hday hwt
 have hb : ∀ e : Int, bringE (wt, dy, ts, es) c d = e -> e ≠ 0 -> K ((wt, dy, ts, es, true, ()), (), ([], [], [], [], 0, [], [], ()), e, ()) := fun e he hne =>
  hK _ _ _ _ _ _ _ _ _ _ _ _ (by rw [doC_bring (by decide) (by rw [he]; exact hne), he])
 have hbad : ∀ r e : Int, (r, e) = numberI c -> bringE (wt, dy, ts, es) c d = 0 -> ¬ (tkI ts r).2.2.1 = 2 -> K ((wt, dy, ts, es, true, ()), (), ([], [], [], [], 0, [], [], ()), 37, ()) := fun r e hre h0 h2 =>
  hK _ _ _ _ _ _ _ _ _ _ _ _ (by
   have : freeI (wt, dy, ts, es) c h d = ((wt, dy, ts, es), 37) := by unfold freeI stI; rw [if_neg (by rw [h0]; decide), numE hre, if_pos (by exact h2)]
   unfold doC; rw [if_neg (by decide)]; rw [if_neg (by decide)]; rw [if_pos rfl]; rw [this])
 have hbadF : ∀ r e f : Int, (r, e) = numberI c -> bringE (wt, dy, ts, es) c d = 0 -> (tkI ts r).2.2.1 = 2 -> fitsE (tkI ts r) h = f -> f ≠ 0 -> K ((wt, dy, ts, es, true, ()), (), ([], [], [], [], 0, [], [], ()), f, ()) := fun r e f hre h0 h2 h3 h4 =>
  hK _ _ _ _ _ _ _ _ _ _ _ _ (by
   have : freeI (wt, dy, ts, es) c h d = ((wt, dy, ts, es), f) := by unfold freeI stI; rw [if_neg (by rw [h0]; decide), numE hre, if_neg (by simpa using h2), h3, if_pos h4]
   unfold doC; rw [if_neg (by decide)]; rw [if_neg (by decide)]; rw [if_pos rfl]; rw [this])
 have hgood : ∀ (r e : Int) (ts1 : List Tk) (es1 : List Ev), (r, e) = numberI c -> bringE (wt, dy, ts, es) c d = 0 -> (tkI ts r).2.2.1 = 2 -> fitsE (tkI ts r) h = 0 -> ts1 = turnI ts r 1 0 -> es1 = es ++ [(3, d, r, 0, 0)] ->
   K ((wt, d, ts1, es1, true, ()), (), (c, h, ps, eds, d, [], [], ()), 0, ()) := fun r e ts1 es1 hre h0 h2 h3 e1 e2 =>
  hK _ _ _ _ _ _ _ _ _ _ _ _ (by
   have : freeI (wt, dy, ts, es) c h d = ((wt, d, ts1, es1), 0) := by
    unfold freeI stI; rw [if_neg (by rw [h0]; decide), numE hre, if_neg (by simpa using h2), h3, if_neg (by decide)]
    unfold doneI; simp only; rw [turnI_len, if_neg (Nat.lt_irrefl _), if_neg (Nat.lt_irrefl _), e1, e2]
   unfold doC; rw [if_neg (by decide)]; rw [if_neg (by decide)]; rw [if_pos rfl]; rw [this])
 have hel : ∀ r : Int, 1 <= r -> r <= ts.length -> (tkI ts r).2.2.2.1.length <= 9223372036854775807 := fun r a b => Nat.le_trans (edge_len hx.roll a b) (by decide)
 simp only [fork_iff, req_iff, decide_eq_true_eq, decide_eq_false_iff_not, bne_iff_ne, ne_eq, bne_eq_false_iff_eq, beq_iff_eq, beq_eq_false_iff_ne, Bool.not_eq_true', Bool.not_eq_false', Nat.zero_add, seg_self, Int.sub_self, gt_iff_lt, ge_iff_le, Int.lt_irrefl, false_imp_iff, true_and, not_false_eq_true, true_imp_iff, Nat.le_refl, Bool.not_true, Bool.not_false, List.nil_append, Bool.not_not]
 repeat' (first
  | refine And.intro ?_ ?_
  | (intro he0; have hr1 := num_one (c := c) (by assumption) he0)
  | (intro ys hys; have hl := congrArg List.length hys; simp only [List.length_set, List.length_append, seg_len, List.length_cons, List.length_nil] at hl)
  | intro _
  | exact hb 34 (bring34 (by simp only; omega)) (by decide)
  | exact hb 4 (bring4 (by assumption) (by simp only; omega) (by assumption) (by simp only; omega)) (by decide)
  | exact hb 35 (bring35 (by assumption) (by simp only; omega) (by assumption) (by simp only; omega) (by assumption) (by assumption)) (by decide)
  | exact hb _ (bringN (by assumption) (by simp only; omega) (by assumption)) (by assumption)
  | exact hbad _ _ (by assumption) (bring0 (by assumption) (by simp only; omega) (by assumption) (by simp only; omega) (by first | exact .inl (by assumption) | exact .inr (by assumption))) (by assumption)
  | exact hbadF _ _ 31 (by assumption) (bring0 (by assumption) (by simp only; omega) (by assumption) (by simp only; omega) (by first | exact .inl (by assumption) | exact .inr (by assumption))) (by assumption) (fits31 (by assumption)) (by decide)
  | exact hbadF _ _ 32 (by assumption) (bring0 (by assumption) (by simp only; omega) (by assumption) (by simp only; omega) (by first | exact .inl (by assumption) | exact .inr (by assumption))) (by assumption) (fits32 (by assumption) (by assumption)) (by decide)
  | exact hgood _ _ _ _ (by assumption) (bring0 (by assumption) (by simp only; omega) (by assumption) (by simp only; omega) (by first | exact .inl (by assumption) | exact .inr (by assumption))) (by assumption) (fits0 (by assumption) (by assumption)) (by exact (seg_exact (by omega)).trans (two_sets (by assumption) (by assumption))) (by exact (seg_exact (by omega)).trans (by assumption))
  | omega
  | exact inR_i64.2 (by omega)
  | exact hx.room
  | exact fits100 (by omega)
  | exact hel _ (by omega) (by omega)
  | trivial)
theorem h86_6 (wt dy d : Int) (ts : List Tk) (es : List Ev) (c : Tx) (h : List Int) (ps : List Tx) (eds : List (List Int)) (K : postDo.den -> Prop)
  (hx : preD wt dy ts es true 6 h ps eds [] [])
  (hK : ∀ (w1 d1 : Int) (ts1 : List Tk) (es1 : List Ev) (c1 : Tx) (h1 : List Int) (ps1 : List Tx) (eds1 : List (List Int)) (dd1 : Int) (cs1 : List Tx) (pl1 : Tx) (e : Int), ((w1, d1, ts1, es1), cs1, pl1, e) = doC 6 (wt, dy, ts, es) c h ps eds d ->
   K ((w1, d1, ts1, es1, true, ()), (), (c1, h1, ps1, eds1, dd1, cs1, pl1, ()), e, ())) :
  xfn2 Tryd.prog TB 8 86 fcDo ((wt, dy, ts, es, true, ()), 6, (c, h, ps, eds, d, [], [], ()), ()) K := by
 rw [v86_6]; unfold v86_6T
 have hlen := hx.roll.len
 have hday := hx.roll.day
 have hwt := hx.roll.wait
 simp only at hlen hday hwt
 have hb : ∀ e : Int, bringE (wt, dy, ts, es) c d = e -> e ≠ 0 -> K ((wt, dy, ts, es, true, ()), (), ([], [], [], [], 0, [], [], ()), e, ()) := fun e he hne =>
  hK _ _ _ _ _ _ _ _ _ _ _ _ (by rw [doC_bring (by decide) (by rw [he]; exact hne), he])
 have hbad : ∀ r e : Int, (r, e) = numberI c -> bringE (wt, dy, ts, es) c d = 0 -> (tkI ts r).2.2.1 = 2 -> K ((wt, dy, ts, es, true, ()), (), ([], [], [], [], 0, [], [], ()), 36, ()) := fun r e hre h0 h2 =>
  hK _ _ _ _ _ _ _ _ _ _ _ _ (by
   have : redeemI (wt, dy, ts, es) c h d = ((wt, dy, ts, es), [], 36) := by unfold redeemI stI; rw [if_neg (by rw [h0]; decide), numE hre, if_pos (by exact h2)]
   unfold doC; rw [if_neg (by decide)]; rw [if_neg (by decide)]; rw [if_neg (by decide)]; rw [if_neg (by decide)]; rw [if_neg (by decide)]; rw [if_pos rfl]; rw [this])
 have hbadF : ∀ r e f : Int, (r, e) = numberI c -> bringE (wt, dy, ts, es) c d = 0 -> ¬ (tkI ts r).2.2.1 = 2 -> fitsE (tkI ts r) h = f -> f ≠ 0 -> K ((wt, dy, ts, es, true, ()), (), ([], [], [], [], 0, [], [], ()), f, ()) := fun r e f hre h0 h2 h3 h4 =>
  hK _ _ _ _ _ _ _ _ _ _ _ _ (by
   have : redeemI (wt, dy, ts, es) c h d = ((wt, dy, ts, es), [], f) := by unfold redeemI stI; rw [if_neg (by rw [h0]; decide), numE hre, if_neg (by simpa using h2), h3, if_pos h4]
   unfold doC; rw [if_neg (by decide)]; rw [if_neg (by decide)]; rw [if_neg (by decide)]; rw [if_neg (by decide)]; rw [if_neg (by decide)]; rw [if_pos rfl]; rw [this])
 have hgood : ∀ (r e : Int) (ts1 : List Tk) (es1 : List Ev) (pl : Tx), (r, e) = numberI c -> bringE (wt, dy, ts, es) c d = 0 -> ¬ (tkI ts r).2.2.1 = 2 -> fitsE (tkI ts r) h = 0 -> ts1 = turnI ts r 4 0 -> es1 = es ++ [(6, d, r, 0, 0)] -> pl = (tkI ts r).2.1 ->
   K ((wt, d, ts1, es1, true, ()), (), (c, h, ps, eds, d, [], pl, ()), 0, ()) := fun r e ts1 es1 pl hre h0 h2 h3 e1 e2 e3 =>
  hK _ _ _ _ _ _ _ _ _ _ _ _ (by
   have : redeemI (wt, dy, ts, es) c h d = ((wt, d, ts1, es1), pl, 0) := by
    unfold redeemI stI; rw [if_neg (by rw [h0]; decide), numE hre, if_neg (by simpa using h2), h3, if_neg (by decide)]
    unfold doneI; simp only; rw [turnI_len, if_neg (Nat.lt_irrefl _), if_neg (Nat.lt_irrefl _), e1, e2, e3]
   unfold doC; rw [if_neg (by decide)]; rw [if_neg (by decide)]; rw [if_neg (by decide)]; rw [if_neg (by decide)]; rw [if_neg (by decide)]; rw [if_pos rfl]; rw [this])
 have hel : ∀ r : Int, 1 <= r -> r <= ts.length -> (tkI ts r).2.2.2.1.length <= 9223372036854775807 := fun r a b => Nat.le_trans (edge_len hx.roll a b) (by decide)
 simp only [fork_iff, req_iff, decide_eq_true_eq, decide_eq_false_iff_not, bne_iff_ne, ne_eq, bne_eq_false_iff_eq, beq_iff_eq, beq_eq_false_iff_ne, Bool.not_eq_true', Bool.not_eq_false', Nat.zero_add, seg_self, Int.sub_self, gt_iff_lt, ge_iff_le, Int.lt_irrefl, false_imp_iff, true_and, not_false_eq_true, true_imp_iff, Nat.le_refl, Bool.not_true, Bool.not_false, List.nil_append, Bool.not_not]
 repeat' (first
  | refine And.intro ?_ ?_
  | (intro he0; have hr1 := num_one (c := c) (by assumption) he0)
  | (intro ys hys; have hl := congrArg List.length hys; simp only [List.length_set, List.length_append, seg_len, List.length_cons, List.length_nil] at hl)
  | intro _
  | exact hb 34 (bring34 (by simp only; omega)) (by decide)
  | exact hb 4 (bring4 (by assumption) (by simp only; omega) (by assumption) (by simp only; omega)) (by decide)
  | exact hb 35 (bring35 (by assumption) (by simp only; omega) (by assumption) (by simp only; omega) (by assumption) (by assumption)) (by decide)
  | exact hb _ (bringN (by assumption) (by simp only; omega) (by assumption)) (by assumption)
  | exact hbad _ _ (by assumption) (bring0 (by assumption) (by simp only; omega) (by assumption) (by simp only; omega) (by first | exact .inl (by assumption) | exact .inr (by assumption))) (by assumption)
  | exact hbadF _ _ 31 (by assumption) (bring0 (by assumption) (by simp only; omega) (by assumption) (by simp only; omega) (by first | exact .inl (by assumption) | exact .inr (by assumption))) (by assumption) (fits31 (by assumption)) (by decide)
  | exact hbadF _ _ 32 (by assumption) (bring0 (by assumption) (by simp only; omega) (by assumption) (by simp only; omega) (by first | exact .inl (by assumption) | exact .inr (by assumption))) (by assumption) (fits32 (by assumption) (by assumption)) (by decide)
  | exact hgood _ _ _ _ _ (by assumption) (bring0 (by assumption) (by simp only; omega) (by assumption) (by simp only; omega) (by first | exact .inl (by assumption) | exact .inr (by assumption))) (by assumption) (fits0 (by assumption) (by assumption)) (by exact (seg_exact (by omega)).trans (two_sets (by assumption) (by assumption))) (by exact (seg_exact (by omega)).trans (by assumption)) (by exact turned_pl (by assumption) (by assumption))
  | omega
  | exact inR_i64.2 (by omega)
  | exact hx.room
  | exact fits100 (by omega)
  | exact hel _ (by omega) (by omega)
  | trivial)
theorem h86_7 (wt dy d : Int) (ts : List Tk) (es : List Ev) (c : Tx) (h : List Int) (ps : List Tx) (eds : List (List Int)) (K : postDo.den -> Prop)
  (hx : preD wt dy ts es true 7 h ps eds [] [])
  (hK : ∀ (w1 d1 : Int) (ts1 : List Tk) (es1 : List Ev) (c1 : Tx) (h1 : List Int) (ps1 : List Tx) (eds1 : List (List Int)) (dd1 : Int) (cs1 : List Tx) (pl1 : Tx) (e : Int), ((w1, d1, ts1, es1), cs1, pl1, e) = doC 7 (wt, dy, ts, es) c h ps eds d ->
   K ((w1, d1, ts1, es1, true, ()), (), (c1, h1, ps1, eds1, dd1, cs1, pl1, ()), e, ())) :
  xfn2 Tryd.prog TB 8 86 fcDo ((wt, dy, ts, es, true, ()), 7, (c, h, ps, eds, d, [], [], ()), ()) K := by
 rw [v86_7]; unfold v86_7T
 have hlen := hx.roll.len
 have hday := hx.roll.day
 have hwt := hx.roll.wait
 simp only at hlen hday hwt
 have hb : ∀ e : Int, bringE (wt, dy, ts, es) c d = e -> e ≠ 0 -> K ((wt, dy, ts, es, true, ()), (), ([], [], [], [], 0, [], [], ()), e, ()) := fun e he hne =>
  hK _ _ _ _ _ _ _ _ _ _ _ _ (by rw [doC_bring (by decide) (by rw [he]; exact hne), he])
 have hbad : ∀ r e : Int, (r, e) = numberI c -> bringE (wt, dy, ts, es) c d = 0 -> (tkI ts r).2.2.1 = 2 -> K ((wt, dy, ts, es, true, ()), (), ([], [], [], [], 0, [], [], ()), 36, ()) := fun r e hre h0 h2 =>
  hK _ _ _ _ _ _ _ _ _ _ _ _ (by
   have : forfeitI (wt, dy, ts, es) c d = ((wt, dy, ts, es), [], 36) := by unfold forfeitI stI; rw [if_neg (by rw [h0]; decide), numE hre, if_pos (by exact h2)]
   unfold doC; rw [if_neg (by decide)]; rw [if_neg (by decide)]; rw [if_neg (by decide)]; rw [if_neg (by decide)]; rw [if_neg (by decide)]; rw [if_neg (by decide)]; rw [this])
 have hgood : ∀ (r e : Int) (ts1 : List Tk) (es1 : List Ev) (pl : Tx), (r, e) = numberI c -> bringE (wt, dy, ts, es) c d = 0 -> ¬ (tkI ts r).2.2.1 = 2 -> ts1 = turnI ts r 5 0 -> es1 = es ++ [(7, d, r, 0, 0)] -> pl = (tkI ts r).2.1 ->
   K ((wt, d, ts1, es1, true, ()), (), (c, h, ps, eds, d, [], pl, ()), 0, ()) := fun r e ts1 es1 pl hre h0 h2 e1 e2 e3 =>
  hK _ _ _ _ _ _ _ _ _ _ _ _ (by
   have : forfeitI (wt, dy, ts, es) c d = ((wt, d, ts1, es1), pl, 0) := by
    unfold forfeitI stI; rw [if_neg (by rw [h0]; decide), numE hre, if_neg (by simpa using h2)]
    unfold doneI; simp only; rw [turnI_len, if_neg (Nat.lt_irrefl _), if_neg (Nat.lt_irrefl _), e1, e2, e3]
   unfold doC; rw [if_neg (by decide)]; rw [if_neg (by decide)]; rw [if_neg (by decide)]; rw [if_neg (by decide)]; rw [if_neg (by decide)]; rw [if_neg (by decide)]; rw [this])
 simp only [fork_iff, req_iff, decide_eq_true_eq, decide_eq_false_iff_not, bne_iff_ne, ne_eq, bne_eq_false_iff_eq, beq_iff_eq, beq_eq_false_iff_ne, Bool.not_eq_true', Bool.not_eq_false', Nat.zero_add, seg_self, Int.sub_self, gt_iff_lt, ge_iff_le, Int.lt_irrefl, false_imp_iff, true_and, not_false_eq_true, true_imp_iff, Nat.le_refl, Bool.not_true, Bool.not_false, List.nil_append, Bool.not_not]
 repeat' (first
  | refine And.intro ?_ ?_
  | (intro he0; have hr1 := num_one (c := c) (by assumption) he0)
  | (intro ys hys; have hl := congrArg List.length hys; simp only [List.length_set, List.length_append, seg_len, List.length_cons, List.length_nil] at hl)
  | intro _
  | exact hb 34 (bring34 (by simp only; omega)) (by decide)
  | exact hb 4 (bring4 (by assumption) (by simp only; omega) (by assumption) (by simp only; omega)) (by decide)
  | exact hb 35 (bring35 (by assumption) (by simp only; omega) (by assumption) (by simp only; omega) (by assumption) (by assumption)) (by decide)
  | exact hb _ (bringN (by assumption) (by simp only; omega) (by assumption)) (by assumption)
  | exact hbad _ _ (by assumption) (bring0 (by assumption) (by simp only; omega) (by assumption) (by simp only; omega) (by first | exact .inl (by assumption) | exact .inr (by assumption))) (by assumption)
  | exact hgood _ _ _ _ _ (by assumption) (bring0 (by assumption) (by simp only; omega) (by assumption) (by simp only; omega) (by first | exact .inl (by assumption) | exact .inr (by assumption))) (by assumption) (by exact (seg_exact (by omega)).trans (two_sets (by assumption) (by assumption))) (by exact (seg_exact (by omega)).trans (by assumption)) (by exact turned_pl (by assumption) (by assumption))
  | omega
  | exact inR_i64.2 (by omega)
  | exact hx.room
  | exact fits100 (by omega)
  | trivial)
end Go.P3
