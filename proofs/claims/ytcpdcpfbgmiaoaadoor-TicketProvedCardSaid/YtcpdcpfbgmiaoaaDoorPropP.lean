/- TicketProper: the same event again: the code keeps its contract. No conditions. -/
import Derived.Test.YtcpdcpfbgmiaoaaDoorPropS
import Derived.Test.YtcpdcpfbgmiaoaaDoorRollQ
set_option linter.all false
set_option maxRecDepth 100000
set_option maxHeartbeats 4000000
namespace Go.P3
open Go.Lom Go.Proofs Go
theorem h79L (w d0 : Int) (ts : List Tk) (es : List Ev) (b : Bool) (x : Ev) (c : Tx) (h : List Int) (ps : List Tx) (eds : List (List Int)) (d : Int) (cs : List Tx) (pl : Tx) (l : List Tk) (m i : Int) (Q : AX -> St -> Prop)
  (hm : m = l.length) (h0 : 0 <= i) (h1 : i <= l.length) (h4 : l.length <= 4) (h5 : (ps.length : Int) = i) (h6 : (eds.length : Int) = i)
  (hQ : Q (.exit 0) (stS 8 sh79e ((w, d0, ts, es, b, ()), (x.1, x.2.1, x.2.2.1, x.2.2.2.1, x.2.2.2.2, ()), (c, h, ps ++ (l.drop i.toNat).map (·.2.1), eds ++ (l.drop i.toNat).map (·.2.2.2.1), d, cs, pl, ()), ()))) :
  xloop2 Tryd.prog { nm := true } 5 79 0 lc79 (fun _ => some (sh79e, 8)) (fun (_, _, _, l, _, i, _) => mL l i) ((w, d0, ts, es, b, ()), (x.1, x.2.1, x.2.2.1, x.2.2.2.1, x.2.2.2.2, ()), (c, h, ps, eds, d, cs, pl, ()), l, m, i, ()) Q := by
 subst hm
 rw [v79L]
 simp only [fork_iff, req_iff, decide_eq_true_eq, decide_eq_false_iff_not, seg_all, Nat.zero_add, Nat.le_refl, true_and]
 refine ⟨fun hi => ⟨⟨h0, hi⟩, fits100 (by omega), fun ys hy => ⟨fits100 (by omega), fun zs hz => ?_⟩⟩, fun hi => ?_⟩
 ·have hy1 : ys.length = ps.length + 1 := by rw [hy, List.length_append]; rfl
  have hz1 : zs.length = eds.length + 1 := by rw [hz, List.length_append]; rfl
  rw [<- hy1, <- hz1, seg_all, seg_all]
  refine ⟨inR_i64.2 (by omega), Nat.le_refl _, Nat.le_refl _, mL_lt hi, ⟨show (0 : Int) <= i + 1 by omega, show i + 1 <= (l.length : Int) by omega, h4, show (ys.length : Int) = i + 1 by omega, show (zs.length : Int) = i + 1 by omega⟩, ?_⟩
  have e1 : ps ++ (l.drop i.toNat).map (·.2.1) = ys ++ (l.drop (i + 1).toNat).map (·.2.1) := by rw [drop_step T0 h0 hi, List.map_cons, hy, List.append_assoc]; rfl
  have e2 : eds ++ (l.drop i.toNat).map (·.2.2.2.1) = zs ++ (l.drop (i + 1).toNat).map (·.2.2.2.1) := by rw [drop_step T0 h0 hi, List.map_cons, hz, List.append_assoc]; rfl
  rw [e1, e2] at hQ
  exact hQ
 ·rw [drop_end hi, List.map_nil, List.map_nil, List.append_nil, List.append_nil] at hQ
  exact hQ
theorem ok79L : Lp2Ok Tryd.prog 79 0 lc79 := lp2_of (n := 5) (ex := fun _ => some (sh79e, 8)) (m := fun (_, _, _, l, _, i, _) => mL l i) (good2_nilN _) fun ((w, d0, ts, es, b, ()), (x1, x2, x3, x4, x5, ()), (c, h, ps, eds, d, cs, pl, ()), l, m, i, ()) Q hx => by
 obtain ⟨⟨g1, g2, g3, g4, g5, g6⟩, hQ⟩ := hx
 exact h79L w d0 ts es b (x1, x2, x3, x4, x5) c h ps eds d cs pl l m i Q g1 g2 g3 g4 g5 g6 hQ
theorem news_cut {s : RS} {x : Ev} {tk : List Tk} (h0 : ¬ x.2.2.2.2 < 0) : List.drop s.2.2.1.length (List.take ((s.2.2.1.length : Int) + x.2.2.2.2).toNat tk) = newsI s x tk := by
 unfold newsI
 rw [List.drop_take]
 congr 1
 omega
theorem news_len {s : RS} {x : Ev} {tk : List Tk} (h0 : ¬ x.2.2.2.2 < 0) (h1 : ¬ (s.2.2.1.length : Int) + x.2.2.2.2 > tk.length) : (newsI s x tk).length = x.2.2.2.2.toNat := by
 unfold newsI
 rw [List.length_take, List.length_drop]
 omega
theorem hT (w d0 k d n la ma : Int) (ts : List Tk) (es : List Ev) (tk : List Tk) (K : fcAgain.post.den -> Prop) (hs : okR (w, d0, ts, es)) (hr : fitsN (es.length + 1) 40 = true) (ht : okTk tk)
  (hK : ∀ (w1 d1 : Int) (ts1 : List Tk) (es1 : List Ev) (b : Bool), ((w1, d1, ts1, es1), b) = againI (w, d0, ts, es) (k, d, n, la, ma) tk -> K ((w1, d1, ts1, es1, true, ()), (), (), b, ())) (hk : 1 <= k /\ k <= 7) : againT w d0 k d n la ma ts es tk K := by
 unfold againT againT2 againT3
 simp only [fork_iff, req_iff, decide_eq_true_eq, decide_eq_false_iff_not, seg_all, Nat.zero_add, List.nil_append, List.drop_zero, Nat.le_refl, true_and, bne_iff_ne, bne_eq_false_iff_eq, ne_eq, beq_iff_eq, Bool.not_eq_true', Bool.not_eq_false', beq_eq_false_iff_ne]
 have hl : ts.length <= 256 := hs.len
 have out : againX (w, d0, ts, es) (k, d, n, la, ma) tk = true \/ oddB (k, d, n, la, ma) = true \/ k ≠ 1 /\ hasN (w, d0, ts, es) (k, d, n, la, ma) = false -> K ((w, d0, ts, es, true, ()), (), (), false, ()) := fun c => hK _ _ _ _ _ (by unfold againI; rw [if_pos c])
 refine ⟨fun h => out (.inl (decide_eq_true (.inl h))), fun h1 => ⟨fun h => out (.inl (decide_eq_true (.inr (.inl h)))), fun h2 => ⟨inR_i64.2 (by omega), fun h => out (.inl (decide_eq_true (.inr (.inr h)))), fun h3 => ?_⟩⟩⟩
 have hX : againX (w, d0, ts, es) (k, d, n, la, ma) tk = false := decide_eq_false (fun c => by rcases c with c | c | c; exact h1 c; exact h2 c; exact h3 c)
 rw [show List.drop ts.length (List.take ((ts.length : Int) + ma).toNat tk) = newsI (w, d0, ts, es) (k, d, n, la, ma) tk from news_cut (s := (w, d0, ts, es)) (x := (k, d, n, la, ma)) h1]
 have hN : (newsI (w, d0, ts, es) (k, d, n, la, ma) tk).length = ma.toNat := news_len (s := (w, d0, ts, es)) (x := (k, d, n, la, ma)) h1 h3
 have hmem : ∀ t ∈ newsI (w, d0, ts, es) (k, d, n, la, ma) tk, t ∈ tk := fun t hm => List.mem_of_mem_drop (List.mem_of_mem_take hm)
 have hpre : ∀ (h : List Int), ((k = 1 \/ k = 4) -> ma = 1) -> preD w d0 ts es true k h (List.map (fun x => x.2.1) (newsI (w, d0, ts, es) (k, d, n, la, ma) tk)) (List.map (fun x => x.2.2.2.1) (newsI (w, d0, ts, es) (k, d, n, la, ma) tk)) [] [] := fun h ho =>
  ⟨hs, rfl, hr, rfl, rfl, ⟨by rw [List.length_map, hN]; unfold big; omega, fun p hp => by
   obtain ⟨t, htm, rfl⟩ := List.mem_map.1 hp
   exact (ht.all t (hmem t htm)).1⟩, by rw [List.length_map, hN]; unfold big; omega, hk, fun c => by rw [List.length_map, hN, ho (.inl c)]; decide, fun c => by rw [List.length_map, hN, ho c]; decide⟩
 have hodd : ((k = 1 \/ k = 4) -> ma = 1) -> oddB (k, d, n, la, ma) = false := fun ho => decide_eq_false (fun c => by
  rcases c with c | ⟨c, e⟩
  ·exact c hk
  ·exact e (ho c))
 have done : ((k = 1 \/ k = 4) -> ma = 1) -> (k ≠ 1 -> hasN (w, d0, ts, es) (k, d, n, la, ma) = true) -> ∀ (w1 d1 : Int) (ts1 : List Tk) (es1 : List Ev) (cs1 : List Tx) (pl1 : Tx) (e : Int),
   ((w1, d1, ts1, es1), cs1, pl1, e) = stepA (w, d0, ts, es) (k, d, n, la, ma) tk -> K ((w1, d1, ts1, es1, true, ()), (), (), e == 0, ()) := fun ho hh w1 d1 ts1 es1 cs1 pl1 e he => hK w1 d1 ts1 es1 _ (by
  unfold againI
  rw [if_neg, <- he]
  ·exact Prod.ext rfl (by show (e == 0) = decide (e = 0); rw [Bool.eq_iff_iff, beq_iff_eq, decide_eq_true_eq])
  ·rintro (c | c | ⟨c, e⟩)
   ·rw [hX] at c; cases c
   ·rw [hodd ho] at c; cases c
   ·rw [hh c] at e; cases e)
 have odd1 : k = 1 \/ k = 4 -> ¬ ma = 1 -> K ((w, d0, ts, es, true, ()), (), (), false, ()) := fun c e => out (.inr (.inl (decide_eq_true (.inr ⟨c, e⟩))))
 refine ⟨fun hk1 => ⟨fun hn => out (.inr (.inr ⟨hk1, decide_eq_false hn⟩)), fun hn => ?_⟩, fun hk1 => ?_⟩
 ·have hh : hasN (w, d0, ts, es) (k, d, n, la, ma) = true := decide_eq_true hn
  refine ⟨inR_i64.2 (by omega), ⟨by omega, by omega⟩, by omega, ⟨show (0 : Int) <= n by omega, show n <= (99999999 : Int) by omega⟩, fun s hsc => ⟨⟨by omega, trivial⟩, inR_i64.2 (by omega), ⟨by omega, by omega, by omega⟩, ⟨Int.le_refl (0 : Int), Int.natCast_nonneg _, by rw [hN]; omega, trivial⟩,
   fun c => absurd c hk1, fun _ => ⟨fun hk4 => ⟨odd1 (.inr hk4), fun hm => ⟨hpre _ (fun _ => hm), fun w1 d1 ts1 es1 _ _ _ _ _ cs1 pl1 e he => done (fun _ => hm) (fun _ => hh) w1 d1 ts1 es1 cs1 pl1 e (he.trans ?_)⟩⟩,
    fun hk4 => ⟨hpre _ (fun c => (by rcases c with c | c; exact absurd c hk1; exact absurd c hk4)), fun w1 d1 ts1 es1 _ _ _ _ _ cs1 pl1 e he => done (fun c => (by rcases c with c | c; exact absurd c hk1; exact absurd c hk4)) (fun _ => hh) w1 d1 ts1 es1 cs1 pl1 e (he.trans ?_)⟩⟩⟩⟩
  all_goals
   unfold stepA
   rw [show codeR (w, d0, ts, es) (k, d, n, la, ma) = s from (if_pos hh).trans hsc.symm, show halfR (w, d0, ts, es) (k, d, n, la, ma) = (ts.getD (n - 1).toNat (0, [], 0, [], 0, 0)).2.2.2.1 from if_pos hh]
   rfl
 ·refine ⟨inR_i64.2 (by omega), ⟨by omega, by omega, by omega⟩, ⟨Int.le_refl (0 : Int), Int.natCast_nonneg _, by rw [hN]; omega, trivial⟩, fun _ => ⟨odd1 (.inl hk1), fun hm => ⟨hpre _ (fun _ => hm), fun w1 d1 ts1 es1 _ _ _ _ _ cs1 pl1 e he => done (fun _ => hm) (fun c => absurd hk1 c) w1 d1 ts1 es1 cs1 pl1 e (he.trans ?_)⟩⟩, fun c => absurd hk1 c⟩
  subst hk1
  rfl
theorem ok79 : F2Ok Tryd.prog 79 fcAgain := fn2_of (n := 8) (T := TG) ((((good2_nilB _ [5, 6]).addL2 ok79L).addF2 ok86).addF okCodeX |>.addF ok49) fun ((w, d0, ts, es, rdy, ()), (k, d, n, la, ma), tk, ()) K hx => by
 obtain ⟨⟨hs, hy, hr, ht⟩, hK⟩ := hx
 subst hy
 rw [v79F]
 have hT' := fun hk => hT w d0 k d n la ma ts es tk K hs hr ht hK hk
 refine fork_iff.2 ⟨fun c => hT' (by rw [beq_iff_eq] at c; omega), fun c1 => ?_⟩
 refine fork_iff.2 ⟨fun c => hT' (by rw [beq_iff_eq] at c; omega), fun c2 => ?_⟩
 refine fork_iff.2 ⟨fun c => hT' (by rw [beq_iff_eq] at c; omega), fun c3 => ?_⟩
 refine fork_iff.2 ⟨fun c => hT' (by rw [beq_iff_eq] at c; omega), fun c4 => ?_⟩
 refine fork_iff.2 ⟨fun c => hT' (by rw [beq_iff_eq] at c; omega), fun c5 => ?_⟩
 refine fork_iff.2 ⟨fun c => hT' (by rw [beq_iff_eq] at c; omega), fun c6 => ?_⟩
 refine fork_iff.2 ⟨fun c => hT' (by rw [beq_iff_eq] at c; omega), fun c7 => ?_⟩
 rw [beq_eq_false_iff_ne] at c1 c2 c3 c4 c5 c6 c7
 simp only [req_iff, decide_eq_true_eq, seg_all, Nat.zero_add, Nat.le_refl, true_and]
 refine hK _ _ _ _ _ ?_
 unfold againI
 rw [if_pos (.inr (.inl (decide_eq_true (.inl (fun c => by
  have c : 1 <= k /\ k <= 7 := c
  omega)))))]
end Go.P3
