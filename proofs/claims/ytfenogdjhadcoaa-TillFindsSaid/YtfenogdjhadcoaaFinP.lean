/- TillFinds: the code keeps its contract. No conditions. -/
import Derived.Test.YtfenogdjhadcoaaFindP
import Derived.Test.YtfenogdjhadcoaaFinS
import Derived.Test.YtfenogdjhadcoaaPaysP
set_option linter.all false
set_option maxRecDepth 100000
set_option maxHeartbeats 4000000
namespace Go.P8
open Go.Lom Go.Proofs Go
theorem ring_modF (n : Int) {m : Int} (h : 0 < m) : (n.tmod m + m).tmod m = n % m := by
 have h1 := Int.lt_tmod_of_pos n h
 rw [Int.tmod_eq_emod_of_nonneg (by omega), Int.add_emod_right]
 rw [Int.tmod_def, Int.sub_mul_emod_self_left]
theorem h33Ff (n m : Int) (K : dens [I] -> Prop) (h0 : 0 < m) (h1 : m <= 4611686018427387904) (hK : ∀ r : Int, r = n % m -> K (r, ())) : xfn1 Try.prog {} 5 33 fcRingF (n, m, ()) K := by
 rw [v33Ff]
 simp only [fork_iff, req_iff, decide_eq_true_eq, decide_eq_false_iff_not, beq_iff_eq, beq_eq_false_iff_ne, ne_eq]
 have a1 := Int.lt_tmod_of_pos n h0
 have a2 := Int.tmod_lt_of_pos n h0
 repeat' (first | exact hK _ (ring_modF n h0) | (exfalso; omega) | exact inR_i64.2 (by omega) | omega | intro _ | refine And.intro ?_ ?_)
theorem ok33F : FnOk Try.prog 33 fcRingF := fn1_of (n := 5) (good2_nil _) fun (n, m, ()) K hx => h33Ff n m K hx.1.1 hx.1.2 hx.2
theorem readK_get (p : List (List Int)) (c s : Int) (i : Nat) : (readK p c s).getD i 0 = cellP p (max 0 c) i 0 * s := by
 unfold readK cellP
 rw [List.getD_eq_getElem?_getD, List.getElem?_map]
 by_cases h : i < p.length
 ·rw [List.getElem?_eq_getElem h, if_pos h, show p.getD i [] = p[i] by rw [List.getD_eq_getElem?_getD, List.getElem?_eq_getElem h]; rfl]
  exact Int.mul_comm _ _
 ·rw [List.getElem?_eq_none (by omega), if_neg h, Int.zero_mul]; rfl
theorem readK_pad (p : List (List Int)) (c s : Int) : padR (readK p c s) = mulR (rowR p (max 0 c)) s := by
 unfold padR
 rw [readK_get, readK_get, readK_get, readK_get]; rfl
theorem cell_sm {s x : Int} (hs : -1 <= s /\ s <= 1) (hx : -1 <= x /\ x <= 1) : -1 <= s * x /\ s * x <= 1 := by
 have h : s = -1 \/ s = 0 \/ s = 1 := by omega
 rcases h with rfl | rfl | rfl <;> omega
theorem readK_sm {n : Int} {p : List (List Int)} (hp : planOk n p) (c : Int) {s : Int} (hs : -1 <= s /\ s <= 1) : (readK p c s).all smO = true := by
 rw [List.all_eq_true]
 intro x hx
 obtain ⟨row, hr, rfl⟩ := List.mem_map.1 hx
 exact smO_iff.2 (cell_sm hs (getD_cell (hp.2 row hr) _))
theorem judge_ok {n : Int} {p : List (List Int)} {c s : Int} (h : telling n p) (n0 : 3 <= n) (n1 : n <= 12) (hc : (c = -1 /\ s = 0) \/ (0 <= c /\ c < n /\ (s = 1 \/ s = -1))) : judgeV n p (readK p c s) = (c, s, 0) := by
 obtain ⟨hp, ht⟩ := h
 obtain ⟨m, hm⟩ := Option.isSome_iff_exists.1 ht
 have e : tellsV n p = (true, 0) := by unfold tellsV; rw [if_pos ⟨n0, n1⟩, if_pos (planB_iff.2 hp), ht]
 obtain ⟨h1, h2⟩ := casesT_spec hm
 have hs : -1 <= s /\ s <= 1 := by omega
 unfold judgeV
 rw [e, if_neg (fun h => h rfl), hm]
 show (if (readK p c s).length = p.length /\ (readK p c s).all smO = true then (match gt4 m (padR (readK p c s)) with | none => ((0 : Int), (0 : Int), (4 : Int)) | some v => (v.1, v.2, 0)) else (0, 0, 7)) = _
 rw [if_pos ⟨by unfold readK; rw [List.length_map], readK_sm hp c hs⟩, readK_pad]
 rcases hc with ⟨rfl, rfl⟩ | ⟨c0, cn, hs'⟩
 ·have : mulR (rowR p (max 0 (-1))) 0 = zR := by unfold mulR zR; simp only [Int.mul_zero]
  rw [this, h1]
 ·rw [show max 0 c = c by omega, h2 c c0 cn s hs']
theorem max_if (c : Int) : (if c > 0 then c else 0) = max 0 c := by split <;> omega
theorem h10C (n k : Int) (ps : List (List (List Int))) (i c s : Int) (l : List Int) (w : Int) (Q : AX -> St -> Prop) (i0 : 0 <= i) (i1 : i < ps.length) (hp : planOk n (ps.getD i.toNat [])) (n0 : 3 <= n) (n1 : n <= 12) (c0 : -1 <= c) (cn : c < n) (s0 : -1 <= s) (s1 : s <= 1) (w0 : 0 <= w) (w1 : w <= (ps.getD i.toNat []).length) (hl : l.length <= w.toNat)
  (hQ : ∀ l' : List Int, l' = l ++ readK ((ps.getD i.toNat []).drop w.toNat) c s -> Q (.exit 2) (stS 1 sh10ce (n, k, ps, i, c, s, l', ()))) :
  xloop2 Try.prog { nm := true, fz := true } 5 10 1 lc10c ex10c (fun (_, _, ps, i, _, _, _, w, _) => mL (ps.getD i.toNat []) w) (n, k, ps, i, c, s, l, w, ()) Q := by
 rw [v10C]
 simp only [fork_iff, req_iff, decide_eq_true_eq, decide_eq_false_iff_not, bne_iff_ne, ne_eq, bne_eq_false_iff_eq, max_if, Nat.zero_add, Nat.le_refl, seg_all, true_and]
 generalize hpl : ps.getD i.toNat [] = p at *
 refine ⟨⟨i0, i1⟩, fun hw => ⟨⟨i0, i1⟩, ⟨w0, hw⟩, ?_⟩, fun hw => ?_⟩
 ·have hrow := hp.2 _ (getD_mem (d := []) (show w.toNat < p.length by omega))
  rw [drop_step [] w0 hw] at hQ
  generalize hr : p.getD w.toNat [] = row at *
  have hx := cell_sm ⟨s0, s1⟩ (getD_cell hrow (max 0 c).toNat)
  refine ⟨fun h => absurd hrow.1 h, fun h => ⟨⟨i0, i1⟩, ⟨w0, hw⟩, ⟨by omega, by omega⟩, inR_i64.2 (by omega), fit8 (by have := hp.1.2; omega), fun ys hy => ?_⟩⟩
  have hyl : ys.length = l.length + 1 := by rw [hy, List.length_append]; rfl
  rw [<- hyl, seg_all]
  refine ⟨inR_i64.2 (by have := hp.1.2; omega), Nat.le_refl _, mL_lt hw, ⟨⟨i0, i1⟩, ⟨hp, n0, n1⟩, ⟨c0, cn⟩, ⟨s0, s1⟩, ⟨show (0 : Int) <= w + 1 by omega, show w + 1 <= (p.length : Int) by omega⟩, by show ys.length <= (w + 1).toNat; omega⟩, fun l' hl' => hQ l' ?_⟩
  rw [hl', hy, List.append_assoc]; rfl
 ·rw [drop_end hw] at hQ
  exact hQ l (by show l = l ++ []; rw [List.append_nil])
theorem ok10C : Lp2Ok Try.prog 10 1 lc10c := lp2_of (n := 5) (ex := ex10c) (m := fun (_, _, ps, i, _, _, _, w, _) => mL (ps.getD i.toNat []) w) (good2_nilB _ []) fun (n, k, ps, i, c, s, l, w, ()) Q hx => by
 obtain ⟨⟨⟨a1, a2⟩, ⟨a3, a4, a5⟩, ⟨a6, a7⟩, ⟨a8, a9⟩, ⟨b1, b2⟩, b3⟩, hQ⟩ := hx
 exact h10C n k ps i c s l w Q a1 a2 a3 a4 a5 a6 a7 a8 a9 b1 b2 b3 hQ
theorem h10R (n : Int) (p : List (List Int)) (c s : Int) (l' : List Int) (G F : Prop) (hp : telling n p) (n0 : 3 <= n) (n1 : n <= 12) (hc : (c = -1 /\ s = 0) \/ (0 <= c /\ c < n /\ (s = 1 \/ s = -1))) (hl : l' = readK p c s) (hG : G) :
  (1 <= l'.length /\ l'.length <= 4) /\ ∀ a b e : Int, (a, b, e) = judgeV n p l' -> (¬ a = c -> F) /\ (a = c -> (¬ b = s -> F) /\ (b = s -> (¬ e = 0 -> F) /\ (e = 0 -> G))) := by
 have hlen : l'.length = p.length := by rw [hl]; unfold readK; rw [List.length_map]
 refine ⟨by rw [hlen]; exact hp.1.1, fun a b e he => ?_⟩
 rw [hl, judge_ok hp n0 n1 hc] at he
 injection he with ea eb
 injection eb with eb ee
 exact ⟨fun h => absurd ea h, fun _ => ⟨fun h => absurd eb h, fun _ => ⟨fun h => absurd ee h, fun _ => hG⟩⟩⟩
theorem h10L (n k : Int) (ps : List (List (List Int))) (i : Int) (Q : AX -> St -> Prop) (n0 : 3 <= n) (n1 : n <= 12) (i0 : 0 <= i) (i1 : i <= ps.length) (i2 : ps.length <= 2) (hp : ∀ p ∈ ps, telling n p) (hQ : Q (.exit 0) (stS 0 .nil ())) :
  xloop2 Try.prog { nm := true, fz := true, f := [(39, fc39), (33, fcRingF)], l2 := [(10, 1, lc10c)] } 5 10 0 lc10 ex10 (fun (_, _, ps, i, _) => mL ps i) (n, k, ps, i, ()) Q := by
 rw [v10L]
 simp only [fork_iff, req_iff, decide_eq_true_eq, decide_eq_false_iff_not, bne_iff_ne, ne_eq, bne_eq_false_iff_eq, beq_iff_eq, beq_eq_false_iff_ne, Nat.zero_add, Nat.le_refl, seg_all, true_and, List.nil_append, List.drop_zero]
 refine ⟨fun hi => ?_, fun _ => hQ⟩
 have ht := hp _ (getD_mem (d := []) (show i.toNat < ps.length by omega))
 have a1 := Int.emod_nonneg k (show 2 * n + 1 ≠ 0 by omega)
 have a2 := Int.emod_lt_of_pos k (show 0 < 2 * n + 1 by omega)
 have r2 : inR .i64 (2 * n) = true := inR_i64.2 (by omega)
 have r3 : inR .i64 (2 * n + 1) = true := inR_i64.2 (by omega)
 have hm : 0 < 2 * n + 1 /\ 2 * n + 1 <= 4611686018427387904 := by omega
 have hnext : inR .i64 (i + 1) = true /\ mL ps (i + 1) < mL ps i /\ lc10.spec (n, k, ps, i + 1, ()) Q := ⟨inR_i64.2 (by omega), mL_lt hi, ⟨⟨n0, n1⟩, ⟨show (0 : Int) <= i + 1 by omega, show i + 1 <= (ps.length : Int) by omega, i2⟩, hp⟩, hQ⟩
 refine ⟨r2, r3, hm, fun r hr => ?_⟩
 have hr : r = k % (2 * n + 1) := hr
 have hr0 : 0 <= r := by omega
 have hr1 : r < 2 * n + 1 := by omega
 have ed : r.tdiv 2 = r / 2 := Int.tdiv_eq_ediv_of_nonneg hr0
 have em : r.tmod 2 = r % 2 := Int.tmod_eq_emod_of_nonneg hr0
 refine ⟨inR_i64.2 (by rw [ed]; omega), r2, r3, hm, fun r' hr' => ?_⟩
 have hr' : r' = r := (show r' = k % (2 * n + 1) from hr').trans hr.symm
 subst hr'
 rw [ed, em]
 refine ⟨inR_i64.2 (by omega), inR_i64.2 (by omega), r2, r3, hm, fun r'' hr'' => ?_⟩
 have hr'' : r'' = r' := (show r'' = k % (2 * n + 1) from hr'').trans hr.symm
 subst hr''
 refine ⟨r2, fun h => ?_, fun h => ?_⟩
 ·refine ⟨⟨⟨i0, hi⟩, ⟨ht.1, n0, n1⟩, ⟨Int.le_refl (-1 : Int), show (-1 : Int) < n by omega⟩, ⟨by decide, by decide⟩, ⟨Int.le_refl (0 : Int), Int.natCast_nonneg _⟩, trivial⟩, fun l' hl' => ⟨⟨i0, hi⟩, ?_⟩⟩
  exact h10R n _ (-1) 0 l' _ _ ht n0 n1 (.inl ⟨rfl, rfl⟩) hl' hnext
 ·refine ⟨⟨⟨i0, hi⟩, ⟨ht.1, n0, n1⟩, ⟨show (-1 : Int) <= r'' / 2 by omega, show r'' / 2 < n by omega⟩, ⟨show (-1 : Int) <= 2 * (r'' % 2) - 1 by omega, show 2 * (r'' % 2) - 1 <= (1 : Int) by omega⟩, ⟨Int.le_refl (0 : Int), Int.natCast_nonneg _⟩, trivial⟩, fun l' hl' => ⟨⟨i0, hi⟩, ?_⟩⟩
  exact h10R n _ (r'' / 2) (2 * (r'' % 2) - 1) l' _ _ ht n0 n1 (.inr ⟨by omega, by omega, by omega⟩) hl' hnext
theorem ok10L : Lp2Ok Try.prog 10 0 lc10 := lp2_of (n := 5) (ex := ex10) (m := fun (_, _, ps, i, _) => mL ps i) ((((good2_nilB _ []).addL2 ok10C).addF ok33F).addF ok39) fun (n, k, ps, i, ()) Q hx => by
 obtain ⟨⟨⟨a1, a2⟩, ⟨a3, a4, a5⟩, a6⟩, hQ⟩ := hx
 exact h10L n k ps i Q a1 a2 a3 a4 a5 a6 hQ
theorem ok26F : FnOk Try.prog 26 fcFrom' := fun x K hx => ok26 x K (hx _ rfl)
theorem ok10 : FnOk Try.prog 10 fc10 := fn1_of (n := 5) (((((good2_nilB _ []).addL2 ok10L).addF okWorks').addF ok26F).addF ok38 |>.addF ok37) fun (n, p, k, ()) K hx => by
 obtain ⟨-, hK⟩ := hx
 show xfn1 Try.prog { nm := true, fz := true, f := [(37, fc37), (38, fc38), (26, fcFrom'), (19, fcWorks)], l2 := [(10, 0, lc10)] } 5 10 fc10 (n, p, k, ()) K
 rw [v10F]
 simp only [fork_iff, req_iff, decide_eq_true_eq, decide_eq_false_iff_not, bne_iff_ne, ne_eq, bne_eq_false_iff_eq, beq_iff_eq, beq_eq_false_iff_ne, Bool.not_eq_true', Bool.not_eq_false', true_and]
 intro r e he
 by_cases hn : 3 <= n /\ n <= 12
 ·have he : (r, e) = (weighT n, 0) := by rw [he]; exact if_pos hn
  injection he with hr he
  obtain ⟨w1, w2, w3⟩ := weigh_at hn.1 hn.2
  refine ⟨fun h => absurd he h, fun _ b hb => ⟨fun h => ?_, fun _ b e' he' => ⟨fun h => ?_, fun h => ?_⟩⟩⟩
  ·exact absurd hn (by rw [h] at hb; exact of_decide_eq_false hb.symm)
  ·unfold tellsV at he'
   rw [if_pos hn] at he'
   split at he'
   ·injection he' with _ h2; exact absurd h2 h
   ·injection he' with h1 h2
    exact ⟨fun _ => ⟨fun _ => hK, fun h => by rw [h1] at h; cases h⟩, fun h => absurd h2 h⟩
  ·have h : e' = 0 := h
   subst h
   have tr : telling n r := by rw [hr]; exact ⟨w1, w2⟩
   refine ⟨fun hb => ?_, fun hb => ?_⟩
   ·subst hb
    obtain ⟨-, -, hp, hc⟩ := tells_some he'.symm
    refine ⟨fun h => ?_, fun _ => ⟨fun _ ys hy => ?_, fun h => Bool.noConfusion h⟩⟩
    ·have := few_not hn.1 hp (by rw [<- w3, <- hr]; exact h)
     rw [this] at hc; cases hc
    ·have hyl : ys.length = 2 := by rw [hy]; rfl
     have e2 : seg 0 2 ys = ys := by rw [<- hyl]; exact seg_all ys
     rw [e2]
     refine ⟨by omega, ⟨hn, ⟨Int.le_refl (0 : Int), Int.natCast_nonneg _, by omega⟩, fun q hq => ?_⟩, hK⟩
     rw [hy] at hq
     rcases List.mem_cons.1 hq with rfl | hq
     ·exact tr
     ·rw [List.mem_singleton.1 hq]; exact ⟨hp, hc⟩
   ·subst hb
    refine ⟨fun h => Bool.noConfusion h, fun _ => ⟨⟨hn, ⟨Int.le_refl (0 : Int), by decide, by decide⟩, fun q hq => ?_⟩, hK⟩⟩
    rw [List.mem_singleton.1 hq]; exact tr
 ·have he : (r, e) = ([], 7) := by rw [he]; exact if_neg hn
  injection he with hr he
  refine ⟨fun _ => ⟨fun _ b hb => ⟨fun _ => ⟨fun _ => hK, fun h => absurd (by rw [hr]; rfl) h⟩, fun h => ?_⟩, fun h => absurd he h⟩, fun h => ?_⟩
  ·exact absurd (of_decide_eq_true (hb.symm.trans h)) hn
  ·have : e = 0 := h
   omega
end Go.P8
