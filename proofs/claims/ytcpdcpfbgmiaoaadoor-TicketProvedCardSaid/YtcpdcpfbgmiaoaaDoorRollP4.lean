/- Rolls: calls of a roll: the code keeps its contract. No conditions. -/
import Derived.Test.YtcpdcpfbgmiaoaaDoorRollB
import Derived.Test.YtcpdcpfbgmiaoaaDoorRollE
import Derived.Test.YtcpdcpfbgmiaoaaDoorRollDP
set_option linter.all false
set_option maxRecDepth 100000
set_option maxHeartbeats 4000000
namespace Go.P3
open Go.Lom Go.Proofs Go
theorem adds_len {ps : List Tx} {es : List (List Int)} {n : Int} : ∀ (k : Nat) (ts : List Tk) (i : Nat), (addsI ts ps es n k i).length = ts.length + k
 | 0, ts, i => rfl
 | k + 1, ts, i => by
  unfold addsI
  rw [adds_len k, List.length_append]
  show ts.length + 1 + k = ts.length + (k + 1)
  omega
theorem news_eq {s s' : RS} (h : s.2.2.1 = s'.2.2.1) {ps : List Tx} : ∀ (k i : Nat), newsB s ps k i = newsB s' ps k i
 | 0, i => rfl
 | k + 1, i => by unfold newsB hadB; rw [h, news_eq h k]
theorem h86_5 (wt dy d : Int) (ts : List Tk) (es : List Ev) (c : Tx) (h : List Int) (ps : List Tx) (eds : List (List Int)) (K : postDo.den -> Prop)
  (hx : preD wt dy ts es true 5 h ps eds [] [])
  (hK : ∀ (w1 d1 : Int) (ts1 : List Tk) (es1 : List Ev) (c1 : Tx) (h1 : List Int) (ps1 : List Tx) (eds1 : List (List Int)) (dd1 : Int) (cs1 : List Tx) (pl1 : Tx) (e : Int), ((w1, d1, ts1, es1), cs1, pl1, e) = doC 5 (wt, dy, ts, es) c h ps eds d ->
   K ((w1, d1, ts1, es1, true, ()), (), (c1, h1, ps1, eds1, dd1, cs1, pl1, ()), e, ())) :
  xfn2 Tryd.prog TBe 8 86 fcDo ((wt, dy, ts, es, true, ()), 5, (c, h, ps, eds, d, [], [], ()), ()) K := by
 rw [v86_5]; unfold v86_5T
 have hlen := hx.roll.len
 have hday := hx.roll.day
 have hwt := hx.roll.wait
 simp only at hlen hday hwt
 have hb : ∀ e : Int, bringE (wt, dy, ts, es) c d = e -> e ≠ 0 -> K ((wt, dy, ts, es, true, ()), (), ([], [], [], [], 0, [], [], ()), e, ()) := fun e he hne =>
  hK _ _ _ _ _ _ _ _ _ _ _ _ (by rw [doC_bring (by decide) (by rw [he]; exact hne), he])
 have hel : ∀ r : Int, 1 <= r -> r <= ts.length -> (tkI ts r).2.2.2.1.length <= 9223372036854775807 := fun r a b => Nat.le_trans (edge_len hx.roll a b) (by decide)
 have hno : ∀ r : Int, 1 <= r -> r <= ts.length -> (tkI ts r).1 = r := fun r a b => by rw [(roll_tk hx.roll a b).num]; omega
 have hnames := hx.names.2
 have hedl := hx.edges
 have hword : (0 : Nat) <= big := Nat.zero_le _
 have hbad : ∀ f : Int, divideI (wt, dy, ts, es) c h ps eds d = ((wt, dy, ts, es), [], f) -> f ≠ 0 -> K ((wt, dy, ts, es, true, ()), (), ([], [], [], [], 0, [], [], ()), f, ()) := fun f he hne =>
  hK _ _ _ _ _ _ _ _ _ _ _ _ (by unfold doC; rw [if_neg (by decide)]; rw [if_neg (by decide)]; rw [if_neg (by decide)]; rw [if_neg (by decide)]; rw [if_pos rfl]; rw [he])
 have h36 : ∀ r e : Int, (r, e) = numberI c -> bringE (wt, dy, ts, es) c d = 0 -> (tkI ts r).2.2.1 = 2 -> divideI (wt, dy, ts, es) c h ps eds d = ((wt, dy, ts, es), [], 36) := fun r e hre h0 h2 => by
  unfold divideI stI; rw [if_neg (by rw [h0]; decide), numE hre, if_pos h2]
 have hF : ∀ r e f : Int, (r, e) = numberI c -> bringE (wt, dy, ts, es) c d = 0 -> ¬ (tkI ts r).2.2.1 = 2 -> fitsE (tkI ts r) h = f -> f ≠ 0 -> divideI (wt, dy, ts, es) c h ps eds d = ((wt, dy, ts, es), [], f) := fun r e f hre h0 h2 h3 h4 => by
  unfold divideI stI; rw [if_neg (by rw [h0]; decide), numE hre, if_neg h2, if_pos (by rw [h3]; exact h4), h3]
 have h33 : ∀ r e : Int, (r, e) = numberI c -> bringE (wt, dy, ts, es) c d = 0 -> ¬ (tkI ts r).2.2.1 = 2 -> fitsE (tkI ts r) h = 0 -> ¬ (2 <= (ps.length : Int) /\ (ps.length : Int) <= 4) -> divideI (wt, dy, ts, es) c h ps eds d = ((wt, dy, ts, es), [], 33) := fun r e hre h0 h2 h3 h4 => by
  unfold divideI stI; rw [if_neg (by rw [h0]; decide), numE hre, if_neg h2, if_neg (by rw [h3]; decide), if_pos (by rw [decide_eq_false (fun e => h4 ⟨by omega, by omega⟩)]; rfl)]
 have h33b : ∀ r e : Int, (r, e) = numberI c -> bringE (wt, dy, ts, es) c d = 0 -> ¬ (tkI ts r).2.2.1 = 2 -> fitsE (tkI ts r) h = 0 -> newsB (rT ts) ps ps.length 0 = false -> divideI (wt, dy, ts, es) c h ps eds d = ((wt, dy, ts, es), [], 33) := fun r e hre h0 h2 h3 h4 => by
  unfold divideI stI; rw [if_neg (by rw [h0]; decide), numE hre, if_neg h2, if_neg (by rw [h3]; decide), if_pos (by rw [news_eq (s := (wt, dy, ts, es)) (s' := rT ts) rfl _ _, h4, Bool.and_false])]
 have h31 : ∀ r e : Int, (r, e) = numberI c -> bringE (wt, dy, ts, es) c d = 0 -> ¬ (tkI ts r).2.2.1 = 2 -> fitsE (tkI ts r) h = 0 -> 2 <= (ps.length : Int) /\ (ps.length : Int) <= 4 -> newsB (rT ts) ps ps.length 0 = true -> ((eds.length : Int) ≠ ps.length \/ eds.all (inB 0) = false) -> divideI (wt, dy, ts, es) c h ps eds d = ((wt, dy, ts, es), [], 31) := fun r e hre h0 h2 h3 h4 h5 h6 => by
  unfold divideI stI; rw [if_neg (by rw [h0]; decide), numE hre, if_neg h2, if_neg (by rw [h3]; decide), if_neg (by rw [news_eq (s := (wt, dy, ts, es)) (s' := rT ts) rfl _ _, h5, decide_eq_true ⟨by omega, by omega⟩]; decide), if_pos (by rcases h6 with h6 | h6; rw [decide_eq_false (by omega)]; rfl; rw [h6, Bool.and_false])]
 have h6 : ∀ r e : Int, (r, e) = numberI c -> bringE (wt, dy, ts, es) c d = 0 -> ¬ (tkI ts r).2.2.1 = 2 -> fitsE (tkI ts r) h = 0 -> 2 <= (ps.length : Int) /\ (ps.length : Int) <= 4 -> newsB (rT ts) ps ps.length 0 = true -> (eds.length : Int) = ps.length -> eds.all (inB 0) = true -> ¬ (ts.length : Int) + ps.length <= 256 -> divideI (wt, dy, ts, es) c h ps eds d = ((wt, dy, ts, es), [], 6) := fun r e hre h0 h2 h3 h4 h5 h6 h7 h8 => by
  unfold divideI stI; rw [if_neg (by rw [h0]; decide), numE hre, if_neg h2, if_neg (by rw [h3]; decide), if_neg (by rw [news_eq (s := (wt, dy, ts, es)) (s' := rT ts) rfl _ _, h5, decide_eq_true ⟨by omega, by omega⟩]; decide), if_neg (by rw [h7, decide_eq_true (by omega)]; decide), if_pos (by simp only; omega)]
 have hgood : ∀ (r e : Int) (ts0 ts1 : List Tk) (es1 : List Ev) (cs : List Tx) (no la ma k0 : Int), (r, e) = numberI c -> bringE (wt, dy, ts, es) c d = 0 -> ¬ (tkI ts r).2.2.1 = 2 -> fitsE (tkI ts r) h = 0 -> 2 <= (ps.length : Int) /\ (ps.length : Int) <= 4 -> newsB (rT ts) ps ps.length 0 = true -> (eds.length : Int) = ps.length -> eds.all (inB 0) = true -> (ts.length : Int) + ps.length <= 256 -> ts1 = addsI ts0 ps eds no ps.length 0 -> ts0 = turnI ts r 3 0 -> no = r -> es1 = es ++ [(5, d, r, la, ma)] -> la = (ts.length : Int) + ps.length -> ma = (ps.length : Int) -> cs = codesI ps.length k0 -> k0 = (ts.length : Int) + 1 ->
   K ((wt, d, ts1, es1, true, ()), (), (c, h, ps, eds, d, cs, [], ()), 0, ()) := fun r e ts0 ts1 es1 cs no la ma k0 hre h0 h2 h3 h4 h5 h6 h7 h8 e1 e0 en e2 el em e3 e4 =>
  hK _ _ _ _ _ _ _ _ _ _ _ _ (by
   have : divideI (wt, dy, ts, es) c h ps eds d = ((wt, d, ts1, es1), cs, 0) := by
    unfold divideI stI; rw [if_neg (by rw [h0]; decide), numE hre, if_neg h2, if_neg (by rw [h3]; decide), if_neg (by rw [news_eq (s := (wt, dy, ts, es)) (s' := rT ts) rfl _ _, h5, decide_eq_true ⟨by omega, by omega⟩]; decide), if_neg (by rw [h7, decide_eq_true (by omega)]; decide), if_neg (by simp only; omega)]
    have hl : ts1.length = ts.length + ps.length := by rw [e1, adds_len, e0, turnI_len]
    have e1' : ts1 = addsI (turnI ts r 3 0) ps eds r ps.length 0 := by rw [e1, e0, en]
    unfold doneI
    simp only
    rw [<- e1', hl, if_pos (by omega), if_pos (by omega), e2, e3, e4, el, em]
    congr 2
    congr 1
    congr 1
    congr 1
    simp only [List.cons.injEq, Prod.mk.injEq, and_true, true_and]
    omega
   unfold doC; rw [if_neg (by decide)]; rw [if_neg (by decide)]; rw [if_neg (by decide)]; rw [if_neg (by decide)]; rw [if_pos rfl]; rw [this])
 simp only [fork_iff, req_iff, decide_eq_true_eq, decide_eq_false_iff_not, bne_iff_ne, ne_eq, bne_eq_false_iff_eq, beq_iff_eq, beq_eq_false_iff_ne, Bool.not_eq_true', Bool.not_eq_false', Nat.zero_add, seg_self, Int.sub_self, gt_iff_lt, ge_iff_le, Int.lt_irrefl, false_imp_iff, true_and, not_false_eq_true, true_imp_iff, Nat.le_refl, Bool.not_true, Bool.not_false, List.nil_append, adds_len, seg_len, Int.sub_zero, Int.toNat_zero, Nat.sub_zero, Bool.not_not]
 repeat' (first
  | refine And.intro ?_ ?_
  | (intro he0; have hr1 := num_one (c := c) (by assumption) he0)
  | (intro ys hys; have hl := congrArg List.length hys; simp only [List.length_set, List.length_append, seg_len, List.length_cons, List.length_nil] at hl)
  | intro _
  | exact hb 34 (bring34 (by simp only; omega)) (by decide)
  | exact hb 4 (bring4 (by assumption) (by simp only; omega) (by assumption) (by simp only; omega)) (by decide)
  | exact hb 35 (bring35 (by assumption) (by simp only; omega) (by assumption) (by simp only; omega) (by assumption) (by assumption)) (by decide)
  | exact hb _ (bringN (by assumption) (by simp only; omega) (by assumption)) (by assumption)
  | exact hbad 36 (h36 _ _ (by assumption) (bring0 (by assumption) (by simp only; omega) (by assumption) (by simp only; omega) (by first | exact .inl (by assumption) | exact .inr (by assumption))) (by assumption)) (by decide)
  | exact hbad 31 (hF _ _ 31 (by assumption) (bring0 (by assumption) (by simp only; omega) (by assumption) (by simp only; omega) (by first | exact .inl (by assumption) | exact .inr (by assumption))) (by assumption) (fits31 (by assumption)) (by decide)) (by decide)
  | exact hbad 32 (hF _ _ 32 (by assumption) (bring0 (by assumption) (by simp only; omega) (by assumption) (by simp only; omega) (by first | exact .inl (by assumption) | exact .inr (by assumption))) (by assumption) (fits32 (by assumption) (by assumption)) (by decide)) (by decide)
  | exact hbad 33 (h33 _ _ (by assumption) (bring0 (by assumption) (by simp only; omega) (by assumption) (by simp only; omega) (by first | exact .inl (by assumption) | exact .inr (by assumption))) (by assumption) (fits0 (by assumption) (by assumption)) (by assumption)) (by decide)
  | exact hbad 33 (h33b _ _ (by assumption) (bring0 (by assumption) (by simp only; omega) (by assumption) (by simp only; omega) (by first | exact .inl (by assumption) | exact .inr (by assumption))) (by assumption) (fits0 (by assumption) (by assumption)) (by assumption)) (by decide)
  | exact hbad 31 (h31 _ _ (by assumption) (bring0 (by assumption) (by simp only; omega) (by assumption) (by simp only; omega) (by first | exact .inl (by assumption) | exact .inr (by assumption))) (by assumption) (fits0 (by assumption) (by assumption)) (by assumption) (by assumption) (.inl (by assumption))) (by decide)
  | exact hbad 31 (h31 _ _ (by assumption) (bring0 (by assumption) (by simp only; omega) (by assumption) (by simp only; omega) (by first | exact .inl (by assumption) | exact .inr (by assumption))) (by assumption) (fits0 (by assumption) (by assumption)) (by assumption) (by assumption) (.inr (by assumption))) (by decide)
  | exact hbad 6 (h6 _ _ (by assumption) (bring0 (by assumption) (by simp only; omega) (by assumption) (by simp only; omega) (by first | exact .inl (by assumption) | exact .inr (by assumption))) (by assumption) (fits0 (by assumption) (by assumption)) (by assumption) (by assumption) (by assumption) (by assumption) (by assumption)) (by decide)
  | exact hgood _ _ _ _ _ _ _ _ _ _ (by assumption) (bring0 (by assumption) (by simp only; omega) (by assumption) (by simp only; omega) (by first | exact .inl (by assumption) | exact .inr (by assumption))) (by assumption) (fits0 (by assumption) (by assumption)) (by assumption) (by assumption) (by assumption) (by assumption) (by assumption) (by exact seg_exact (by rw [adds_len, seg_len])) (by exact (seg_exact (by omega)).trans (two_sets (by assumption) (by assumption))) (by exact (turned_no (by assumption) (by assumption)).trans (hno _ (by omega) (by omega))) (by exact (seg_exact (by omega)).trans (by assumption)) (by omega) (by omega) (by rfl) (by omega)
  | omega
  | exact hedl
  | exact hnames _ (by assumption)
  | exact inR_i64.2 (by omega)
  | exact hx.room
  | exact fits100 (by omega)
  | exact hel _ (by omega) (by omega)
  | exact hnames
  | exact hedl
  | exact (Int.le_refl (0 : Int))
  | exact (Int.natCast_nonneg _)
  | rfl
  | trivial)
end Go.P3
