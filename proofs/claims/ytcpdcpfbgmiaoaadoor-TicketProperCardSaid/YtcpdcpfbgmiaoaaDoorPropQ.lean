/- TicketProper: Proper, and the reference: the code keeps its contracts. No conditions. -/
import Derived.Test.YtcpdcpfbgmiaoaaDoorPropT
import Derived.Test.YtcpdcpfbgmiaoaaDoorPropP
import Derived.Test.YtcpdcpfbgmiaoaaDoorPropAP
import Derived.Test.YtcpdcpfbgmiaoaaDoorRefQ
set_option linter.all false
set_option maxRecDepth 100000
set_option maxHeartbeats 4000000
namespace Go.P3
open Go.Lom Go.Proofs Go
theorem fitsN_le {m n b : Nat} (h : fitsN n b = true) (hm : m <= n) : fitsN m b = true := by
 simp only [fitsN, Bool.and_eq_true, Nat.ble_eq] at h ⊢
 exact ⟨Nat.le_trans (Nat.mul_le_mul_right b hm) h.1, Nat.le_trans hm h.2⟩
theorem fitsN_big {n : Nat} (h : fitsN n 40 = true) : n <= 9000000000000000000 := by
 simp only [fitsN, Bool.and_eq_true, Nat.ble_eq] at h
 have := h.1
 omega
theorem h83L (w d0 : Int) (ts : List Tk) (es : List Ev) (x : Ev) (ps : List Tx) (eds : List (List Int)) (l : List Tk) (i : Int) (Q : AX -> St -> Prop)
  (h0 : 0 <= i) (h1 : i <= l.length) (h4 : l.length <= 4) (h5 : (ps.length : Int) = i) (h6 : (eds.length : Int) = i)
  (hQ : Q (.exit 0) (stS 6 sh83e ((w, d0, ts, es, ()), (x.1, x.2.1, x.2.2.1, x.2.2.2.1, x.2.2.2.2, ()), ps ++ (l.drop i.toNat).map (·.2.1), eds ++ (l.drop i.toNat).map (·.2.2.2.1), ()))) :
  xloop2 Tryd.prog { nm := true } 5 83 0 lc83 (fun _ => some (sh83e, 6)) (fun (_, _, l, _, _, i, _) => mL l i) ((w, d0, ts, es, ()), (x.1, x.2.1, x.2.2.1, x.2.2.2.1, x.2.2.2.2, ()), l, ps, eds, i, ()) Q := by
 rw [v83L]
 simp only [fork_iff, req_iff, decide_eq_true_eq, decide_eq_false_iff_not, seg_all, Nat.zero_add, Nat.le_refl, true_and]
 refine ⟨fun hi => ⟨⟨h0, hi⟩, ⟨h0, hi⟩, fits100 (by omega), fun ys hy => ⟨fits100 (by omega), fun zs hz => ?_⟩⟩, fun hi => ?_⟩
 ·have hy1 : ys.length = ps.length + 1 := by rw [hy, List.length_append]; rfl
  have hz1 : zs.length = eds.length + 1 := by rw [hz, List.length_append]; rfl
  rw [<- hy1, <- hz1, seg_all, seg_all]
  refine ⟨inR_i64.2 (by omega), Nat.le_refl _, Nat.le_refl _, mL_lt hi, ⟨show (0 : Int) <= i + 1 by omega, show i + 1 <= (l.length : Int) by omega, h4, show (ys.length : Int) = i + 1 by omega, show (zs.length : Int) = i + 1 by omega⟩, ?_⟩
  have e1 : ps ++ (l.drop i.toNat).map (·.2.1) = ys ++ (l.drop (i + 1).toNat).map (·.2.1) := by rw [drop_step T0 h0 hi, List.map_cons, hy, List.append_assoc]; rfl
  have e2 : eds ++ (l.drop i.toNat).map (·.2.2.2.1) = zs ++ (l.drop (i + 1).toNat).map (·.2.2.2.1) := by rw [drop_step T0 h0 hi, List.map_cons, hz, List.append_assoc]; rfl
  rw [e1, e2] at hQ
  exact hQ
 ·rw [drop_end hi, List.map_nil, List.map_nil, List.append_nil, List.append_nil] at hQ
  exact hQ
theorem ok83L : Lp2Ok Tryd.prog 83 0 lc83 := lp2_of (n := 5) (ex := fun _ => some (sh83e, 6)) (m := fun (_, _, l, _, _, i, _) => mL l i) (good2_nilN _) fun ((w, d0, ts, es, ()), (x1, x2, x3, x4, x5, ()), l, ps, eds, i, ()) Q hx => by
 obtain ⟨⟨g2, g3, g4, g5, g6⟩, hQ⟩ := hx
 exact h83L w d0 ts es (x1, x2, x3, x4, x5) ps eds l i Q g2 g3 g4 g5 g6 hQ
section
variable {w d0 k d n la ma : Int} {ts : List Tk} {es : List Ev} {tk : List Tk} {K : fcAgR.post.den -> Prop} (hs : okR (w, d0, ts, es)) (hr : roomy es)
 (hK : ∀ (w1 d1 : Int) (ts1 : List Tk) (es1 : List Ev) (b : Bool), ((w1, d1, ts1, es1), b) = againR (w, d0, ts, es) (k, d, n, la, ma) tk -> K ((w1, d1, ts1, es1, ()), (), (), b, ()))
include hs hr hK
theorem hLast {w1 d1 e : Int} {ts1 : List Tk} {es1 : List Ev} (hX : againX (w, d0, ts, es) (k, d, n, la, ma) tk = false) (ho : oddB (k, d, n, la, ma) = false)
  (h1 : (stepA (w, d0, ts, es) (k, d, n, la, ma) tk).1 = (w1, d1, ts1, es1)) (h2 : (stepA (w, d0, ts, es) (k, d, n, la, ma) tk).2.2.2 = e) : lastT w1 d1 k d n la ma ts1 es1 e K := by
 have hl := step_leaves (tk := tk) hs ho
 rw [h1, h2] at hl
 have hres : againR (w, d0, ts, es) (k, d, n, la, ma) tk = ((w1, d1, ts1, es1), decide (e = 0) && decide (lastE (w1, d1, ts1, es1) = (k, d, n, la, ma))) := by
  unfold againR
  rw [if_neg, h1, h2]
  rintro (c | c)
  ·rw [hX] at c; cases c
  ·rw [ho] at c; cases c
 unfold lastT
 simp only [fork_iff, req_iff, decide_eq_true_eq, seg_all, Nat.zero_add, Nat.le_refl, true_and, beq_iff_eq, beq_eq_false_iff_ne]
 refine ⟨fun he => ?_, fun he => hK _ _ _ _ _ (by rw [hres, decide_eq_false he]; rfl)⟩
 obtain ⟨n', la', ma', g1, -⟩ := hl.note he
 have g1 : es1 = es ++ [(k, d, n', la', ma')] := g1
 have hlen : es1.length = es.length + 1 := by rw [g1, List.length_append]; rfl
 have hb := fitsN_big hr
 refine ⟨inR_i64.2 (by omega), ⟨by omega, by omega⟩, by omega, hK _ _ _ _ _ ?_⟩
 rw [hres, decide_eq_true he, Bool.true_and]
 exact Prod.ext rfl (ev_eq (x := es1.getD ((es1.length : Int) - 1).toNat (0, 0, 0, 0, 0)) (y := (k, d, n, la, ma)))
theorem hKind (ht : okTk tk) (hX : againX (w, d0, ts, es) (k, d, n, la, ma) tk = false) : kindT w d0 k d n la ma ts es tk K (codeR (w, d0, ts, es) (k, d, n, la, ma)) (halfR (w, d0, ts, es) (k, d, n, la, ma)) := by
 have h0 : ¬ ma < 0 := fun c => by rw [show againX _ _ _ = true from decide_eq_true (.inl c)] at hX; cases hX
 have h4 : ¬ ma > 4 := fun c => by rw [show againX _ _ _ = true from decide_eq_true (.inr (.inl c))] at hX; cases hX
 have h3 : ¬ (ts.length : Int) + ma > tk.length := fun c => by rw [show againX _ _ _ = true from decide_eq_true (.inr (.inr c))] at hX; cases hX
 have hN := news_len (s := (w, d0, ts, es)) (x := (k, d, n, la, ma)) h0 h3
 have hmem : ∀ t ∈ newsI (w, d0, ts, es) (k, d, n, la, ma) tk, t ∈ tk := fun t hm => List.mem_of_mem_drop (List.mem_of_mem_take hm)
 have out : oddB (k, d, n, la, ma) = true -> K ((w, d0, ts, es, ()), (), (), false, ()) := fun c => hK _ _ _ _ _ (by unfold againR; rw [if_pos (.inr c)])
 have last := fun (w1 d1 e : Int) (ts1 : List Tk) (es1 : List Ev) (ho : oddB (k, d, n, la, ma) = false) h1 h2 => hLast (w1 := w1) (d1 := d1) (e := e) (ts1 := ts1) (es1 := es1) hs hr hK hX ho h1 h2
 unfold kindT kindT2 kindT3 kindT4 kindT5
 simp only [fork_iff, req_iff, decide_eq_true_eq, decide_eq_false_iff_not, seg_all, Nat.zero_add, List.nil_append, List.drop_zero, Nat.le_refl, true_and, bne_iff_ne, ne_eq, beq_iff_eq, beq_eq_false_iff_ne]
 rw [show List.drop ts.length (List.take ((ts.length : Int) + ma).toNat tk) = newsI (w, d0, ts, es) (k, d, n, la, ma) tk from news_cut (s := (w, d0, ts, es)) (x := (k, d, n, la, ma)) h0]
 have hN1 : (List.map (fun x => x.2.1) (newsI (w, d0, ts, es) (k, d, n, la, ma) tk)).length = ma.toNat := by rw [List.length_map]; exact hN
 have hN2 : (List.map (fun x => x.2.2.2.1) (newsI (w, d0, ts, es) (k, d, n, la, ma) tk)).length = ma.toNat := by rw [List.length_map]; exact hN
 have hp : ∀ p ∈ List.map (fun x => x.2.1) (newsI (w, d0, ts, es) (k, d, n, la, ma) tk), p.length <= 9223372036854775807 := fun p hp => by
  obtain ⟨t, htm, rfl⟩ := List.mem_map.1 hp
  exact (ht.all t (hmem t htm)).1
 have hp0 : ((List.map (fun x => x.2.1) (newsI (w, d0, ts, es) (k, d, n, la, ma) tk)).getD 0 []).length <= 9223372036854775807 := by
  rw [List.getD_eq_getElem?_getD]
  cases hc : (List.map (fun x => x.2.1) (newsI (w, d0, ts, es) (k, d, n, la, ma) tk))[0]? with
  | none => exact Nat.zero_le _
  | some p => exact hp p (List.mem_of_getElem? hc)
 have odd0 : 1 <= k /\ k <= 7 -> ((k = 1 \/ k = 4) -> ma = 1) -> oddB (k, d, n, la, ma) = false := fun hk ho => decide_eq_false (fun c => by
  rcases c with c | ⟨c, e⟩
  ·exact c hk
  ·exact e (ho c))
 have odd1 : k = 1 \/ k = 4 -> ¬ ma = 1 -> K ((w, d0, ts, es, ()), (), (), false, ()) := fun c e => out (decide_eq_true (.inr ⟨c, e⟩))
 have odd2 : ¬ (1 <= k /\ k <= 7) -> K ((w, d0, ts, es, ()), (), (), false, ()) := fun c => out (decide_eq_true (.inl c))
 have last' := fun (w1 d1 e : Int) (ts1 : List Tk) (es1 : List Ev) hk ho h1 h2 => last w1 d1 e ts1 es1 (odd0 hk ho) h1 h2
 have z1 : ma = 1 -> 0 < (List.map (fun x => x.2.1) (newsI (w, d0, ts, es) (k, d, n, la, ma) tk)).length := fun h => by rw [hN1, h]; decide
 have z2 : ma = 1 -> 0 < (List.map (fun x => x.2.2.2.1) (newsI (w, d0, ts, es) (k, d, n, la, ma) tk)).length := fun h => by rw [hN2, h]; decide
 have z3 : (List.map (fun x => x.2.1) (newsI (w, d0, ts, es) (k, d, n, la, ma) tk)).length <= 9223372036854775807 := by rw [hN1]; omega
 have z4 : (List.map (fun x => x.2.2.2.1) (newsI (w, d0, ts, es) (k, d, n, la, ma) tk)).length <= 9223372036854775807 := by rw [hN2]; omega
 clear last out hN hmem hX
 repeat' (first | (exfalso; omega) | exact hs | exact hr | exact hp | exact hp0 | exact odd1 (by omega) (by omega) | exact odd2 (by omega) | exact z3 | exact z4 | exact z1 (by omega) | exact z2 (by omega) | exact ⟨Int.le_refl 0, Int.ofNat_lt.2 (z1 (by omega))⟩ | exact ⟨Int.le_refl 0, Int.ofNat_lt.2 (z2 (by omega))⟩ | refine And.intro ?_ ?_ | intro h)
 all_goals
  revert h
  subst_vars
  intro he
  refine last' _ _ _ _ _ (by omega) (by omega) (congrArg (fun r => r.1) he).symm ?_
  first | exact (congrArg (fun r => r.2.2) he).symm | exact (congrArg (fun r => r.2) he).symm
end
theorem h83F (w d0 k d n la ma : Int) (ts : List Tk) (es : List Ev) (tk : List Tk) (K : fcAgR.post.den -> Prop) (hs : okR (w, d0, ts, es)) (hr : roomy es) (ht : okTk tk)
  (hK : ∀ (w1 d1 : Int) (ts1 : List Tk) (es1 : List Ev) (b : Bool), ((w1, d1, ts1, es1), b) = againR (w, d0, ts, es) (k, d, n, la, ma) tk -> K ((w1, d1, ts1, es1, ()), (), (), b, ())) :
  xfn2 Tryd.prog TGR 8 83 fcAgR ((w, d0, ts, es, ()), (k, d, n, la, ma), tk, ()) K := by
 rw [v83F]
 have hl : ts.length <= 256 := hs.len
 have out : againX (w, d0, ts, es) (k, d, n, la, ma) tk = true -> K ((w, d0, ts, es, ()), (), (), false, ()) := fun c => hK _ _ _ _ _ (by unfold againR; rw [if_pos (.inl c)])
 simp only [fork_iff, req_iff, decide_eq_true_eq, decide_eq_false_iff_not, seg_all, Nat.zero_add, Nat.le_refl, true_and]
 refine ⟨fun h => out (decide_eq_true (.inl h)), fun h1 => ⟨fun h => out (decide_eq_true (.inr (.inl h))), fun h2 => ⟨inR_i64.2 (by omega), fun h => out (decide_eq_true (.inr (.inr h))), fun h3 => ?_⟩⟩⟩
 have hX : againX (w, d0, ts, es) (k, d, n, la, ma) tk = false := decide_eq_false (fun c => by rcases c with c | c | c; exact h1 c; exact h2 c; exact h3 c)
 have hN := news_len (s := (w, d0, ts, es)) (x := (k, d, n, la, ma)) h1 h3
 have hc : (List.drop ts.length (List.take ((ts.length : Int) + ma).toNat tk)).length <= 4 := by
  rw [show List.drop ts.length (List.take ((ts.length : Int) + ma).toNat tk) = newsI (w, d0, ts, es) (k, d, n, la, ma) tk from news_cut (s := (w, d0, ts, es)) (x := (k, d, n, la, ma)) h1, hN]
  show ma.toNat <= 4
  omega
 have hq := hKind hs hr hK ht hX
 refine ⟨inR_i64.2 (by omega), ⟨by omega, by omega, by omega⟩, ⟨Int.le_refl (0 : Int), Int.natCast_nonneg _, hc, trivial⟩, fun hn => ?_, fun hn => ?_⟩
 ·have hh : hasN (w, d0, ts, es) (k, d, n, la, ma) = true := decide_eq_true hn
  refine ⟨inR_i64.2 (by omega), ⟨by omega, by omega⟩, by omega, ⟨show (0 : Int) <= n by omega, show n <= (99999999 : Int) by omega⟩, fun s hsc => ⟨⟨by omega, trivial⟩, ?_⟩⟩
  rw [show codeR (w, d0, ts, es) (k, d, n, la, ma) = s from (if_pos hh).trans hsc.symm, show halfR (w, d0, ts, es) (k, d, n, la, ma) = (ts.getD (n - 1).toNat (0, [], 0, [], 0, 0)).2.2.2.1 from if_pos hh] at hq
  exact hq
 ·have hh : ¬ hasN (w, d0, ts, es) (k, d, n, la, ma) = true := fun c => hn (of_decide_eq_true c)
  rw [show codeR (w, d0, ts, es) (k, d, n, la, ma) = [] from if_neg hh, show halfR (w, d0, ts, es) (k, d, n, la, ma) = [] from if_neg hh] at hq
  exact hq
theorem ok83 : F2Ok Tryd.prog 83 fcAgR := fn2_of (n := 8) (T := TGR) (((((((((good2_nilB _ []).addL2 ok83L).addF2 ok75).addF2 ok74).addF2 ok73).addF2 ok72).addF2 ok71).addF2 ok70).addF2 ok69 |>.addF okCode3 |>.addF ok28) fun ((w, d0, ts, es, ()), (k, d, n, la, ma), tk, ()) K hx =>
 h83F w d0 k d n la ma ts es tk K hx.1.1 hx.1.2.1 hx.1.2.2 hx.2
theorem edges_ok {s : RS} (h : okR s) : ∀ t ∈ s.2.2.1, t.2.2.2.1.length <= 100 := fun t ht => by
 obtain ⟨i, hi, rfl⟩ := List.mem_iff_getElem.1 ht
 have := (h.tk i _ (List.getElem?_eq_getElem hi)).edge
 unfold inB at this
 rw [Bool.and_eq_true, decide_eq_true_eq] at this
 have h1 := this.1.2
 omega
theorem drop_ev {l : List Ev} {i : Int} (h0 : 0 <= i) (h1 : i < l.length) : l.drop i.toNat = l.getD i.toNat E0 :: l.drop (i + 1).toNat := drop_step E0 h0 h1
theorem h42L (w d0 : Int) (ts : List Tk) (es : List Ev) (tk : List Tk) (l2 : List Ev) (i : Int) (Q : AX -> St -> Prop) (hs : okR (w, d0, ts, es)) (ht : okTk tk) (hr : roomL l2) (h0 : 0 <= i) (h1 : i <= l2.length) (h2 : (es.length : Int) <= i)
  (hN : runI tk (w, d0, ts, es) (l2.drop i.toNat) = none -> Q .ret (stS 0 shBI (false, 0, ())))
  (hS : ∀ (w1 d1 : Int) (ts1 : List Tk) (es1 : List Ev), runI tk (w, d0, ts, es) (l2.drop i.toNat) = some (w1, d1, ts1, es1) -> Q (.exit 0) (stS 3 sh42e (tk, l2, (w1, d1, ts1, es1, true, ()), ()))) :
  xloop2 Tryd.prog { nm := true, f2 := [(79, fcAgain)] } 5 42 0 lc42 ex42 (fun (_, l, _, _, _, i, _) => mL l i) (tk, l2, (w, d0, ts, es, true, ()), l2, l2.length, i, ()) Q := by
 have hr' : fitsN l2.length 40 = true := hr
 have hbig := fitsN_big hr'
 rw [v42L]
 simp only [fork_iff, req_iff, decide_eq_true_eq, decide_eq_false_iff_not, seg_all, Nat.zero_add, Nat.le_refl, true_and, Bool.not_eq_true', Bool.not_eq_false']
 refine ⟨fun hi => ?_, fun hi => ?_⟩
 ·have hi : i < (l2.length : Int) := hi
  obtain ⟨g1, -, -, g4⟩ := again_ok (x := l2.getD i.toNat E0) (tk := tk) hs
  refine ⟨⟨h0, hi⟩, ⟨hs, fitsN_le hr' (by omega), ht⟩, fun w1 d1 ts1 es1 b e => ?_⟩
  have e : ((w1, d1, ts1, es1), b) = againI (w, d0, ts, es) (l2.getD i.toNat E0) tk := e
  have hrun : runI tk (w, d0, ts, es) (l2.drop i.toNat) = if b = true then runI tk (w1, d1, ts1, es1) (l2.drop (i + 1).toNat) else none := by
   rw [drop_ev h0 hi]
   show (if (againI (w, d0, ts, es) (l2.getD i.toNat E0) tk).2 = true then runI tk (againI (w, d0, ts, es) (l2.getD i.toNat E0) tk).1 (l2.drop (i + 1).toNat) else none) = _
   rw [<- e]
  rw [<- e] at g1 g4
  rw [hrun] at hN hS
  refine ⟨fun hb => hN (by rw [hb]; rfl), fun hb => ⟨inR_i64.2 (by omega), mL_lt hi, ⟨g1, ht, hr, show (0 : Int) <= i + 1 by omega, show i + 1 <= (l2.length : Int) by omega, ?_⟩, fun c => hN (by rw [if_pos hb]; exact c), fun w2 d2 ts2 es2 c => hS w2 d2 ts2 es2 (by rw [if_pos hb]; exact c)⟩⟩
  have g4 : es1.length <= es.length + 1 := g4
  show (es1.length : Int) <= i + 1
  omega
 ·refine hS w d0 ts es ?_
  show runI tk (w, d0, ts, es) (l2.drop i.toNat) = _
  rw [drop_end hi]; rfl
theorem ok42L : Lp2Ok Tryd.prog 42 0 lc42 := lp2_of (n := 5) (ex := ex42) (m := fun (_, l, _, _, _, i, _) => mL l i) ((good2_nilN _).addF2 ok79) fun (tk, l, (w, d0, ts, es, b, ()), l2, m, i, ()) Q hx => by
 obtain ⟨⟨hs, hb, ht, hr, q1, q2, h0, h1, h2⟩, hN, hS⟩ := hx
 have hb : b = true := hb
 have q1 : l2 = l := q1
 have q2 : m = (l.length : Int) := q2
 subst hb q1 q2
 exact h42L w d0 ts es tk l2 i Q hs ht hr h0 h1 h2 hN hS
theorem h43L (w d0 : Int) (ts : List Tk) (es : List Ev) (tk : List Tk) (l : List Ev) (i : Int) (Q : AX -> St -> Prop) (hs : okR (w, d0, ts, es)) (ht : okTk tk) (hr : roomL l) (h0 : 0 <= i) (h1 : i <= l.length) (h2 : (es.length : Int) <= i)
  (hN : runR tk (w, d0, ts, es) (l.drop i.toNat) = none -> Q .ret (stS 0 shBI (false, 0, ())))
  (hS : ∀ (w1 d1 : Int) (ts1 : List Tk) (es1 : List Ev), runR tk (w, d0, ts, es) (l.drop i.toNat) = some (w1, d1, ts1, es1) -> Q (.exit 0) (stS 3 sh43e (tk, (w1, d1, ts1, es1, ()), ()))) :
  xloop2 Tryd.prog { nm := true, f2 := [(83, fcAgR)] } 5 43 0 lc43 ex43 (fun (_, l, _, i, _) => mL l i) (tk, l, (w, d0, ts, es, ()), i, ()) Q := by
 have hr' : fitsN l.length 40 = true := hr
 have hbig := fitsN_big hr'
 rw [v43L]
 simp only [fork_iff, req_iff, decide_eq_true_eq, decide_eq_false_iff_not, seg_all, Nat.zero_add, Nat.le_refl, true_and, Bool.not_eq_true', Bool.not_eq_false']
 refine ⟨fun hi => ?_, fun hi => ?_⟩
 ·have hi : i < (l.length : Int) := hi
  obtain ⟨g1, -, g4⟩ := againR_ok (x := l.getD i.toNat E0) (tk := tk) hs
  refine ⟨⟨h0, hi⟩, ⟨hs, fitsN_le hr' (by omega), ht⟩, fun w1 d1 ts1 es1 b e => ?_⟩
  have e : ((w1, d1, ts1, es1), b) = againR (w, d0, ts, es) (l.getD i.toNat E0) tk := e
  have hrun : runR tk (w, d0, ts, es) (l.drop i.toNat) = if b = true then runR tk (w1, d1, ts1, es1) (l.drop (i + 1).toNat) else none := by
   rw [drop_ev h0 hi]
   show (if (againR (w, d0, ts, es) (l.getD i.toNat E0) tk).2 = true then runR tk (againR (w, d0, ts, es) (l.getD i.toNat E0) tk).1 (l.drop (i + 1).toNat) else none) = _
   rw [<- e]
  rw [<- e] at g1 g4
  rw [hrun] at hN hS
  refine ⟨fun hb => hN (by rw [hb]; rfl), fun hb => ⟨inR_i64.2 (by omega), mL_lt hi, ⟨g1, ht, hr, show (0 : Int) <= i + 1 by omega, show i + 1 <= (l.length : Int) by omega, ?_⟩, fun c => hN (by rw [if_pos hb]; exact c), fun w2 d2 ts2 es2 c => hS w2 d2 ts2 es2 (by rw [if_pos hb]; exact c)⟩⟩
  have g4 : es1.length <= es.length + 1 := g4
  show (es1.length : Int) <= i + 1
  omega
 ·refine hS w d0 ts es ?_
  show runR tk (w, d0, ts, es) (l.drop i.toNat) = _
  rw [drop_end hi]; rfl
theorem ok43L : Lp2Ok Tryd.prog 43 0 lc43 := lp2_of (n := 5) (ex := ex43) (m := fun (_, l, _, i, _) => mL l i) ((good2_nilN _).addF2 ok83) fun (tk, l, (w, d0, ts, es, ()), i, ()) Q hx => by
 obtain ⟨⟨hs, ht, hr, h0, h1, h2⟩, hN, hS⟩ := hx
 exact h43L w d0 ts es tk l i Q hs ht hr h0 h1 h2 hN hS
end Go.P3
