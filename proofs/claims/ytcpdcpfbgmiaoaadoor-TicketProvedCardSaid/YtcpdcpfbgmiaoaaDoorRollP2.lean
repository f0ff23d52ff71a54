/- Rolls: calls of a roll: the code keeps its contract. No conditions. -/
import Derived.Test.YtcpdcpfbgmiaoaaDoorRollB
set_option linter.all false
set_option maxRecDepth 100000
set_option maxHeartbeats 4000000
namespace Go.P3
open Go.Lom Go.Proofs Go
section
variable {s : RS} {p : Tx} {e : List Int} {d : Int}
theorem issue34 (h : ¬ (0 <= d /\ d <= 36500 /\ s.2.1 <= d)) : issueI s p e d = (s, [], 34) := by unfold issueI dayB; rw [if_pos (decide_eq_false h)]
theorem issue33a (h : 0 <= d /\ d <= 36500 /\ s.2.1 <= d) (h1 : wordB p = false) : issueI s p e d = (s, [], 33) := by unfold issueI dayB; rw [if_neg (by rw [decide_eq_true h]; decide), if_pos (by rw [h1]; rfl)]
theorem issue33b (h : 0 <= d /\ d <= 36500 /\ s.2.1 <= d) (h1 : s.2.2.1.any (named p) = true) : issueI s p e d = (s, [], 33) := by unfold issueI dayB; rw [if_neg (by rw [decide_eq_true h]; decide), if_pos (by unfold hadB; rw [h1]; simp)]
theorem issue31 (h : 0 <= d /\ d <= 36500 /\ s.2.1 <= d) (h0 : wordB p = true) (h1 : s.2.2.1.any (named p) = false) (h2 : inB 0 e = false) : issueI s p e d = (s, [], 31) := by unfold issueI dayB; rw [if_neg (by rw [decide_eq_true h]; decide), if_neg (by unfold hadB; rw [h1, h0]; decide), if_pos h2]
theorem issue6 (h : 0 <= d /\ d <= 36500 /\ s.2.1 <= d) (h0 : wordB p = true) (h1 : s.2.2.1.any (named p) = false) (h2 : inB 0 e = true) (h3 : ¬ (s.2.2.1.length : Int) + 1 <= 256) : issueI s p e d = (s, [], 6) := by unfold issueI dayB; rw [if_neg (by rw [decide_eq_true h]; decide), if_neg (by unfold hadB; rw [h1, h0]; decide), if_neg (by rw [h2]; decide), if_pos (by omega)]
end
theorem h86_1 (wt dy d : Int) (ts : List Tk) (es : List Ev) (c : Tx) (h : List Int) (ps : List Tx) (eds : List (List Int)) (K : postDo.den -> Prop)
  (hx : preD wt dy ts es true 1 h ps eds [] [])
  (hK : ∀ (w1 d1 : Int) (ts1 : List Tk) (es1 : List Ev) (c1 : Tx) (h1 : List Int) (ps1 : List Tx) (eds1 : List (List Int)) (dd1 : Int) (cs1 : List Tx) (pl1 : Tx) (e : Int), ((w1, d1, ts1, es1), cs1, pl1, e) = doC 1 (wt, dy, ts, es) c h ps eds d ->
   K ((w1, d1, ts1, es1, true, ()), (), (c1, h1, ps1, eds1, dd1, cs1, pl1, ()), e, ())) :
  xfn2 Tryd.prog TB 8 86 fcDo ((wt, dy, ts, es, true, ()), 1, (c, h, ps, eds, d, [], [], ()), ()) K := by
 rw [v86_1]
 have hlen := hx.roll.len
 have hday := hx.roll.day
 have hwt := hx.roll.wait
 simp only at hlen hday hwt
 have hps : 1 <= ps.length := hx.one rfl
 have heds : 1 <= eds.length := hx.two (.inl rfl)
 have hword : (ps.getD 0 []).length <= big := hx.names.2 _ (by rw [List.getD_eq_getElem?_getD, List.getElem?_eq_getElem (show 0 < ps.length by omega)]; exact List.getElem_mem _)
 have hbad : ∀ e : Int, issueI (wt, dy, ts, es) (ps.getD 0 []) (eds.getD 0 []) d = ((wt, dy, ts, es), [], e) -> e ≠ 0 -> K ((wt, dy, ts, es, true, ()), (), ([], [], [], [], 0, [], [], ()), e, ()) := fun e he hne =>
  hK _ _ _ _ _ _ _ _ _ _ _ _ (by unfold doC; rw [if_pos rfl, he]; simp only; rw [if_neg hne])
 have hgood : ∀ (ts1 : List Tk) (es1 : List Ev) (r : List Int) (cd : Tx) (cs : List Tx), (0 <= d /\ d <= 36500 /\ dy <= d) -> wordB (ps.getD 0 []) = true -> ts.any (named (ps.getD 0 [])) = false -> inB 0 (eds.getD 0 []) = true -> r = eds.getD 0 [] -> ts1 = ts ++ [((ts.length : Int) + 1, ps.getD 0 [], 1, r, 0, 0)] -> es1 = es ++ [(1, d, 0, ((ts.length + 1 : Nat) : Int), ((ts.length + 1 : Nat) : Int) - (ts.length : Int))] -> cd = codeS ((ts.length : Int) + 1) -> cs = [cd] -> (ts.length : Int) + 1 <= 256 ->
   K ((wt, d, ts1, es1, true, ()), (), (c, h, ps, eds, d, cs, [], ()), 0, ()) := fun ts1 es1 r cd cs hd h1 h2 h3 hr e1 e2 e3 e4 h4 =>
  hK _ _ _ _ _ _ _ _ _ _ _ _ (by
   have : issueI (wt, dy, ts, es) (ps.getD 0 []) (eds.getD 0 []) d = ((wt, d, ts1, es1), cd, 0) := by
    unfold issueI
    rw [if_neg (by unfold dayB; rw [decide_eq_true hd]; decide), if_neg (by unfold hadB; rw [h1, h2]; decide), if_neg (by rw [h3]; decide), if_neg (by simp only; omega)]
    have hl : ts1.length = ts.length + 1 := by rw [e1, List.length_append]; rfl
    subst hr
    unfold doneI
    simp only
    rw [<- e1, hl, if_pos (by omega), if_pos (by omega), e2, e3]
   unfold doC; rw [if_pos rfl, this, e4]; rfl)
 simp only [fork_iff, req_iff, decide_eq_true_eq, decide_eq_false_iff_not, bne_iff_ne, ne_eq, bne_eq_false_iff_eq, beq_iff_eq, beq_eq_false_iff_ne, Bool.not_eq_true', Bool.not_eq_false', Nat.zero_add, seg_self, Int.sub_self, gt_iff_lt, ge_iff_le, Int.lt_irrefl, false_imp_iff, true_and, not_false_eq_true, true_imp_iff, Nat.le_refl, Bool.not_true, Bool.not_false, List.nil_append, Bool.not_not]
 repeat' (first
  | refine And.intro ?_ ?_
  | (intro he0; have hr1 := num_one (c := c) (by assumption) he0)
  | (intro ys hys; have hl := congrArg List.length hys; simp only [List.length_set, List.length_append, seg_len, List.length_cons, List.length_nil] at hl)
  | intro _
  | exact hbad 34 (issue34 (by simp only; omega)) (by decide)
  | exact hbad 33 (issue33a (by simp only; omega) (by assumption)) (by decide)
  | exact hbad 33 (issue33b (by simp only; omega) (by assumption)) (by decide)
  | exact hbad 31 (issue31 (by simp only; omega) (by assumption) (by assumption) (by assumption)) (by decide)
  | exact hbad 6 (issue6 (by simp only; omega) (by assumption) (by assumption) (by assumption) (by simp only; omega)) (by decide)
  | exact hgood _ _ _ _ _ (by omega) (by assumption) (by assumption) (by assumption) (by assumption) (by exact (seg_exact (by omega)).trans (by assumption)) (by exact (seg_exact (by omega)).trans (by assumption)) (by assumption) (by exact (seg_exact (by omega)).trans (by assumption)) (by omega)
  | omega
  | exact inR_i64.2 (by omega)
  | exact hx.room
  | exact fits100 (by omega)
  | exact (show (0 : Int) <= (ts.length : Int) + 1 by omega)
  | exact (show (ts.length : Int) + 1 <= 99999999 by omega)
  | exact Nat.le_trans (edge16 (by assumption)) (by decide)
  | exact hword
  | rfl
  | trivial)
end Go.P3
