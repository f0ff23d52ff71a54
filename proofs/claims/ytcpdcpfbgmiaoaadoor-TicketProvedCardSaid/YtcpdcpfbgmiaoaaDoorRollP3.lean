/- Rolls: calls of a roll: the code keeps its contract. No conditions. -/
import Derived.Test.YtcpdcpfbgmiaoaaDoorRollB
set_option linter.all false
set_option maxRecDepth 100000
set_option maxHeartbeats 4000000
namespace Go.P3
open Go.Lom Go.Proofs Go
theorem h86_4 (wt dy d : Int) (ts : List Tk) (es : List Ev) (c : Tx) (h : List Int) (ps : List Tx) (eds : List (List Int)) (K : postDo.den -> Prop)
  (hx : preD wt dy ts es true 4 h ps eds [] [])
  (hK : ∀ (w1 d1 : Int) (ts1 : List Tk) (es1 : List Ev) (c1 : Tx) (h1 : List Int) (ps1 : List Tx) (eds1 : List (List Int)) (dd1 : Int) (cs1 : List Tx) (pl1 : Tx) (e : Int), ((w1, d1, ts1, es1), cs1, pl1, e) = doC 4 (wt, dy, ts, es) c h ps eds d ->
   K ((w1, d1, ts1, es1, true, ()), (), (c1, h1, ps1, eds1, dd1, cs1, pl1, ()), e, ())) :
  xfn2 Tryd.prog TB 8 86 fcDo ((wt, dy, ts, es, true, ()), 4, (c, h, ps, eds, d, [], [], ()), ()) K := by
 rw [v86_4]; unfold v86_4T
 have hlen := hx.roll.len
 have hday := hx.roll.day
 have hwt := hx.roll.wait
 simp only at hlen hday hwt
 have hb : ∀ e : Int, bringE (wt, dy, ts, es) c d = e -> e ≠ 0 -> K ((wt, dy, ts, es, true, ()), (), ([], [], [], [], 0, [], [], ()), e, ()) := fun e he hne =>
  hK _ _ _ _ _ _ _ _ _ _ _ _ (by rw [doC_bring (by decide) (by rw [he]; exact hne), he])
 have heds : 1 <= eds.length := hx.two (.inr rfl)
 have hword : (0 : Nat) <= big := Nat.zero_le _
 have hsi : ∀ r : Int, 1 <= r -> r <= ts.length -> 0 <= (tkI ts r).2.2.2.2.1 /\ (tkI ts r).2.2.2.2.1 <= 36500 := fun r a b => (roll_tk hx.roll a b).since
 have hsin : ∀ r : Int, 1 <= r -> r <= ts.length -> 0 <= d /\ d <= 36500 -> inR .i64 (d - (tkI ts r).2.2.2.2.1) = true := fun r a b hd => inR_i64.2 (by have := hsi r a b; omega)
 have hno : ∀ r : Int, 1 <= r -> r <= ts.length -> (tkI ts r).1 = r := fun r a b => by rw [(roll_tk hx.roll a b).num]; omega
 have hbad : ∀ f : Int, replaceI (wt, dy, ts, es) c (eds.getD 0 []) d = ((wt, dy, ts, es), [], f) -> f ≠ 0 -> K ((wt, dy, ts, es, true, ()), (), ([], [], [], [], 0, [], [], ()), f, ()) := fun f he hne =>
  hK _ _ _ _ _ _ _ _ _ _ _ _ (by unfold doC; rw [if_neg (by decide)]; rw [if_neg (by decide)]; rw [if_neg (by decide)]; rw [if_pos rfl]; rw [he]; simp only; rw [if_neg hne])
 have h37 : ∀ r e : Int, (r, e) = numberI c -> bringE (wt, dy, ts, es) c d = 0 -> ¬ ((tkI ts r).2.2.1 = 2 /\ wt <= d - (tkI ts r).2.2.2.2.1) -> replaceI (wt, dy, ts, es) c (eds.getD 0 []) d = ((wt, dy, ts, es), [], 37) := fun r e hre h0 h1 => by
  unfold replaceI stI; rw [if_neg (by rw [h0]; decide), numE hre, if_pos h1]
 have h31 : ∀ r e : Int, (r, e) = numberI c -> bringE (wt, dy, ts, es) c d = 0 -> (tkI ts r).2.2.1 = 2 -> wt <= d - (tkI ts r).2.2.2.2.1 -> inB 0 (eds.getD 0 []) = false -> replaceI (wt, dy, ts, es) c (eds.getD 0 []) d = ((wt, dy, ts, es), [], 31) := fun r e hre h0 h1 h2 h3 => by
  unfold replaceI stI; rw [if_neg (by rw [h0]; decide), numE hre, if_neg (by exact fun e => e ⟨h1, h2⟩), if_pos h3]
 have h6 : ∀ r e : Int, (r, e) = numberI c -> bringE (wt, dy, ts, es) c d = 0 -> (tkI ts r).2.2.1 = 2 -> wt <= d - (tkI ts r).2.2.2.2.1 -> inB 0 (eds.getD 0 []) = true -> ¬ (ts.length : Int) + 1 <= 256 -> replaceI (wt, dy, ts, es) c (eds.getD 0 []) d = ((wt, dy, ts, es), [], 6) := fun r e hre h0 h1 h2 h3 h4 => by
  unfold replaceI stI; rw [if_neg (by rw [h0]; decide), numE hre, if_neg (by exact fun e => e ⟨h1, h2⟩), if_neg (by rw [h3]; decide), if_pos (by simp only; omega)]
 have hgood : ∀ (r e : Int) (ts0 ts1 : List Tk) (es1 : List Ev) (g : List Int) (cd : Tx) (cs : List Tx) (pl : Tx) (no : Int), (r, e) = numberI c -> bringE (wt, dy, ts, es) c d = 0 -> (tkI ts r).2.2.1 = 2 -> wt <= d - (tkI ts r).2.2.2.2.1 -> inB 0 (eds.getD 0 []) = true -> g = eds.getD 0 [] -> ts1 = ts0 ++ [((ts.length : Int) + 1, pl, 1, g, 0, no)] -> ts0 = turnI ts r 3 0 -> pl = (tkI ts r).2.1 -> no = r -> es1 = es ++ [(4, d, r, ((ts.length + 1 : Nat) : Int), ((ts.length + 1 : Nat) : Int) - (ts.length : Int))] -> cd = codeS ((ts.length : Int) + 1) -> cs = [cd] -> (ts.length : Int) + 1 <= 256 ->
   K ((wt, d, ts1, es1, true, ()), (), (c, h, ps, eds, d, cs, [], ()), 0, ()) := fun r e ts0 ts1 es1 g cd cs pl no hre h0 h1 h2 h3 hr e1 e0 ep en e2 e3 e4 h4 =>
  hK _ _ _ _ _ _ _ _ _ _ _ _ (by
   have : replaceI (wt, dy, ts, es) c (eds.getD 0 []) d = ((wt, d, ts1, es1), cd, 0) := by
    unfold replaceI stI; rw [if_neg (by rw [h0]; decide), numE hre, if_neg (by exact fun e => e ⟨h1, h2⟩), if_neg (by rw [h3]; decide), if_neg (by simp only; omega)]
    have hl : ts1.length = ts.length + 1 := by rw [e1, List.length_append, e0, turnI_len]; rfl
    have e1' : ts1 = turnI ts r 3 0 ++ [((ts.length : Int) + 1, (tkI ts r).2.1, 1, eds.getD 0 [], 0, r)] := by rw [e1, e0, ep, en, hr]
    unfold doneI
    simp only
    rw [<- e1', hl, if_pos (by omega), if_pos (by omega), e2, e3]
   unfold doC; rw [if_neg (by decide)]; rw [if_neg (by decide)]; rw [if_neg (by decide)]; rw [if_pos rfl]; rw [this, e4]; rfl)
 simp only [fork_iff, req_iff, decide_eq_true_eq, decide_eq_false_iff_not, bne_iff_ne, ne_eq, bne_eq_false_iff_eq, beq_iff_eq, beq_eq_false_iff_ne, Bool.not_eq_true', Bool.not_eq_false', Nat.zero_add, seg_self, Int.sub_self, gt_iff_lt, ge_iff_le, Int.lt_irrefl, false_imp_iff, true_and, not_false_eq_true, true_imp_iff, Nat.le_refl, Bool.not_true, Bool.not_false, List.nil_append, Bool.not_not]
 repeat' (first
  | refine And.intro ?_ ?_
  | (intro he0; have hr1 := num_one (c := c) (by assumption) he0)
  | (intro ys hys; have hl := congrArg List.length hys; simp only [List.length_set, List.length_append, seg_len, List.length_cons, List.length_nil] at hl)
  | intro _
  | exact hb 34 (bring34 (by simp only; omega)) (by decide)
  | exact hb 4 (bring4 (by assumption) (by simp only; omega) (by assumption) (by simp only; omega)) (by decide)
  | exact hb 35 (bring35 (by assumption) (by simp only; omega) (by assumption) (by simp only; omega) (by assumption) (by assumption)) (by decide)
  | exact hb _ (bringN (by assumption) (by simp only; omega) (by assumption)) (by assumption)
  | exact hbad 37 (h37 _ _ (by assumption) (bring0 (by assumption) (by simp only; omega) (by assumption) (by simp only; omega) (by first | exact .inl (by assumption) | exact .inr (by assumption))) (by exact fun e => absurd e.1 (by assumption))) (by decide)
  | exact hbad 37 (h37 _ _ (by assumption) (bring0 (by assumption) (by simp only; omega) (by assumption) (by simp only; omega) (by first | exact .inl (by assumption) | exact .inr (by assumption))) (by exact fun e => absurd e.2 (by assumption))) (by decide)
  | exact hbad 31 (h31 _ _ (by assumption) (bring0 (by assumption) (by simp only; omega) (by assumption) (by simp only; omega) (by first | exact .inl (by assumption) | exact .inr (by assumption))) (by assumption) (by assumption) (by assumption)) (by decide)
  | exact hbad 6 (h6 _ _ (by assumption) (bring0 (by assumption) (by simp only; omega) (by assumption) (by simp only; omega) (by first | exact .inl (by assumption) | exact .inr (by assumption))) (by assumption) (by assumption) (by assumption) (by omega)) (by decide)
  | exact hgood _ _ _ _ _ _ _ _ _ _ (by assumption) (bring0 (by assumption) (by simp only; omega) (by assumption) (by simp only; omega) (by first | exact .inl (by assumption) | exact .inr (by assumption))) (by assumption) (by assumption) (by assumption) (by assumption) (by exact (seg_exact (by omega)).trans (by assumption)) (by exact (seg_exact (by omega)).trans (two_sets (by assumption) (by assumption))) (by exact turned_pl (by assumption) (by assumption)) (by exact (turned_no (by assumption) (by assumption)).trans (hno _ (by omega) (by omega))) (by exact (seg_exact (by omega)).trans (by assumption)) (by assumption) (by exact (seg_exact (by omega)).trans (by assumption)) (by omega)
  | omega
  | exact inR_i64.2 (by omega)
  | exact hx.room
  | exact fits100 (by omega)
  | exact (show (0 : Int) <= (ts.length : Int) + 1 by omega)
  | exact (show (ts.length : Int) + 1 <= 99999999 by omega)
  | exact Nat.le_trans (edge16 (by assumption)) (by decide)
  | exact hword
  | rfl
  | exact hsin _ (by omega) (by omega) (by omega)
  | trivial)
end Go.P3
