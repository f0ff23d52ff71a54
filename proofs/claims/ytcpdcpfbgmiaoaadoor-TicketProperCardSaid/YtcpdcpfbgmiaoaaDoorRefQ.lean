/- Rolls by the reference: to divide, what can be asked, calls of the statements, TicketRolls: the code keeps its contracts. No conditions. -/
import Derived.Test.YtcpdcpfbgmiaoaaDoorRefB
import Derived.Test.YtcpdcpfbgmiaoaaDoorRefP
set_option linter.all false
set_option maxRecDepth 100000
set_option maxHeartbeats 4000000
namespace Go.P3
open Go.Lom Go.Proofs Go
theorem h39L (l : List Tx) (s : Tx) (i : Int) (Q : LQ) : sIx (fun t => decide (t = s)) l l.length i Q -> xloop2 Tryd.prog {} 5 39 0 lc39 ex141 (fun (l, _, i, _) => mL l i) (l, s, i, ()) Q := by
 intro hx
 obtain ⟨⟨h0, h1, hm, h2⟩, hQ1, hQ2⟩ := id hx
 rw [v39L]
 simp only [fork_iff, req_iff, decide_eq_true_eq, decide_eq_false_iff_not, beq_iff_eq, beq_eq_false_iff_ne, ne_eq]
 refine ⟨fun hi => ?_, fun hi => ?_⟩
 ·obtain ⟨a, b⟩ := ix_step ([] : Tx) (fun t => decide (t = s)) (lc := fun j => LC2.spec lc39 (l, s, j, ()) Q) hx hi fun h => h
  refine ⟨⟨h0, hi⟩, fun h => a (decide_eq_true h), fun h => b (decide_eq_false h)⟩
 ·rw [drop_end hi] at hQ1
  exact hQ1 rfl
theorem ok39L : Lp2Ok Tryd.prog 39 0 lc39 := lp2_of (n := 5) (ex := ex141) (m := fun (l, _, i, _) => mL l i) (good2_nil _) fun (l, s, i, ()) Q hx => h39L l s i Q hx
theorem firstIx_none {α : Type} (p : α -> Bool) : ∀ (l : List α) (i : Int), l.any p = false -> firstIx p l i = -1
 | [], _, _ => rfl
 | x :: l, i, h => by
  rw [List.any_cons, Bool.or_eq_false_iff] at h
  unfold firstIx; rw [if_neg (by rw [h.1]; decide), firstIx_none p l (i + 1) h.2]
theorem ok39 : FnOk Tryd.prog 39 fcSeekT := fn1_of (n := 5) ((good2_nil _).addL2 ok39L) fun (l, s, ()) K hx => by
 obtain ⟨h1, hK⟩ := hx
 show xfn1 Tryd.prog { l2 := [(39, 0, lc39)] } 5 39 fcSeekT (l, s, ()) K
 rw [v39F]
 exact ⟨⟨Int.le_refl 0, Int.natCast_nonneg _, rfl, h1⟩, fun h => hK _ (firstIx_none _ _ _ h).symm, fun h => hK _ rfl⟩
theorem first_iff {α : Type} {p : α -> Bool} {d : α} : ∀ (l : List α) (k : Nat) (j : Int), k < l.length -> p (l.getD k d) = true -> (firstIx p l j = j + k ↔ (l.take k).any p = false)
 | x :: l, 0, j, _, hp => by
  have hp : p x = true := hp
  unfold firstIx; rw [if_pos hp]; simp
 | x :: l, k + 1, j, hk, hp => by
  have hp : p (l.getD k d) = true := hp
  have hk : k < l.length := by simpa using hk
  have ih := first_iff l k (j + 1) hk hp
  unfold firstIx
  rw [List.take_succ_cons, List.any_cons]
  by_cases hx : p x = true
  ·rw [if_pos hx, hx]; simp; omega
  ·rw [if_neg hx]; simp only [Bool.not_eq_true] at hx
   rw [hx, Bool.false_or, <- ih]
   constructor <;> intro h <;> omega
theorem seek_at {l : List Tx} {k : Int} (h0 : 0 <= k) (h1 : k < l.length) {r : Int} (hr : r = firstIx (fun t => decide (t = l.getD k.toNat [])) l 0) : (r == k) = !(l.take k.toNat).any (eqT (l.getD k.toNat [])) := by
 have h := first_iff (p := fun t => decide (t = l.getD k.toNat [])) (d := []) l k.toNat 0 (by omega) (decide_eq_true rfl)
 rw [<- hr, show (0 : Int) + (k.toNat : Int) = k by omega] at h
 have he : ((l.take k.toNat).any fun t => decide (t = l.getD k.toNat [])) = (l.take k.toNat).any (eqT (l.getD k.toNat [])) := by
  congr 1; funext t; unfold eqT; exact decide_eq_decide.2 eq_comm
 rw [he] at h
 rw [Bool.eq_iff_iff, beq_iff_eq, Bool.not_eq_true']; exact h
theorem h73A (w d0 d i k : Int) (ts : List Tk) (es : List Ev) (ps : List Tx) (eds : List (List Int)) (ok : Bool) (Q : AX -> St -> Prop)
  (h0 : 0 <= k) (h1 : ok = true -> k <= ps.length) (h2 : ts.length <= 256) (h3 : ∀ p ∈ ps, p.length <= big) (h4 : ps.length <= big)
  (hQ : ∀ b : Bool, b = (ok && newsB (rT ts) ps (ps.length - k.toNat) k.toNat) -> Q (.exit 0) (stS 3 sh73ae ((w, d0, ts, es, ()), ps, eds, d, i, b, ()))) :
  xloop2 Tryd.prog { f := [(39, fcSeekT)], f2 := [(91, fcNewW)] } 5 73 0 lc73a (fun _ => some (sh73ae, 3)) (fun (_, ps, _, _, _, _, k, _) => mL ps k) ((w, d0, ts, es, ()), ps, eds, d, i, ok, k, ()) Q := by
 rw [v73A]
 have hbig := hbig
 simp only [fork_iff, req_iff, decide_eq_true_eq, decide_eq_false_iff_not, true_and]
 refine ⟨fun hok => ⟨fun hk => ?_, fun hk => hQ _ ?_⟩, fun hok => hQ _ (by rw [hok]; rfl)⟩
 ·subst hok
  have hw : (ps.getD k.toNat []).length <= big := h3 _ (getC_mem (by omega))
  rw [news_step (s := rT ts) h0 hk, Bool.true_and] at hQ
  have hle : k + 1 <= (ps.length : Int) := by omega
  refine ⟨⟨h0, hk⟩, ⟨h2, hw⟩, fun b hb => ⟨fun hbt => ⟨⟨h0, hk⟩, h4, fun r hr => ⟨inR_i64.2 (by omega), mL_lt hk, ?_⟩⟩, fun hbf => ⟨inR_i64.2 (by omega), mL_lt hk, ?_⟩⟩⟩
  ·rw [hbt] at hb
   have e : (wordB (ps.getD k.toNat []) && !hadB (rT ts) (ps.getD k.toNat [])) = true := hb.symm
   rw [e, Bool.true_and, <- seek_at h0 hk hr] at hQ
   exact ⟨⟨show (0 : Int) <= k + 1 by omega, fun _ => hle, h2, h3, h4⟩, hQ⟩
  ·rw [hbf] at hb
   have e : (wordB (ps.getD k.toNat []) && !hadB (rT ts) (ps.getD k.toNat [])) = false := hb.symm
   rw [e, Bool.false_and, Bool.false_and] at hQ
   exact ⟨⟨show (0 : Int) <= k + 1 by omega, fun h => (by cases h), h2, h3, h4⟩, fun b hb => hQ b (by rw [hb]; rfl)⟩
 ·rw [hok, show ps.length - k.toNat = 0 by omega]; rfl
theorem ok73A : Lp2Ok Tryd.prog 73 0 lc73a := lp2_of (n := 5) (ex := fun _ => some (sh73ae, 3)) (m := fun (_, ps, _, _, _, _, k, _) => mL ps k) (((good2_nil _).addF2 ok91).addF ok39) fun ((w, d0, ts, es, ()), ps, eds, d, i, ok, k, ()) Q hx => by
 obtain ⟨⟨g1, g2, g3, g4, g5⟩, hQ⟩ := hx
 exact h73A w d0 d i k ts es ps eds ok Q g1 g2 g3 g4 g5 hQ
theorem h73B (w d0 d i k : Int) (ts : List Tk) (es : List Ev) (ps : List Tx) (eds : List (List Int)) (ok : Bool) (Q : AX -> St -> Prop)
  (h0 : 0 <= k) (h1 : ok = true -> k <= eds.length) (h2 : eds.length <= big)
  (hQ : ∀ b : Bool, b = (ok && allE eds k) -> Q (.exit 2) (stS 3 sh73ae ((w, d0, ts, es, ()), ps, eds, d, i, b, ()))) :
  xloop2 Tryd.prog { f := [(60, fcEdge 0)] } 5 73 1 lc73b (fun _ => some (sh73ae, 3)) (fun (_, _, eds, _, _, _, k, _) => mL eds k) ((w, d0, ts, es, ()), ps, eds, d, i, ok, k, ()) Q := by
 rw [v73B]
 have hbig := hbig
 simp only [fork_iff, req_iff, decide_eq_true_eq, decide_eq_false_iff_not, true_and]
 refine ⟨fun hok => ⟨fun hk => ?_, fun hk => hQ _ (by rw [hok, allE_end hk]; rfl)⟩, fun hok => hQ _ (by rw [hok]; rfl)⟩
 subst hok
 rw [allE_step h0 hk, Bool.true_and] at hQ
 exact ⟨⟨h0, hk⟩, inR_i64.2 (by omega), mL_lt hk, ⟨show (0 : Int) <= k + 1 by omega, fun _ => show k + 1 <= (eds.length : Int) by omega, h2⟩, hQ⟩
theorem ok73B : Lp2Ok Tryd.prog 73 1 lc73b := lp2_of (n := 5) (ex := fun _ => some (sh73ae, 3)) (m := fun (_, _, eds, _, _, _, k, _) => mL eds k) ((good2_nil _).addF ok60) fun ((w, d0, ts, es, ()), ps, eds, d, i, ok, k, ()) Q hx => by
 obtain ⟨⟨g1, g2, g3⟩, hQ⟩ := hx
 exact h73B w d0 d i k ts es ps eds ok Q g1 g2 g3 hQ
theorem h73C (w d0 d i k : Int) (ts : List Tk) (es : List Ev) (ps : List Tx) (eds : List (List Int)) (cs : List Tx) (Q : AX -> St -> Prop)
  (h0 : 0 <= k) (h1 : k <= ps.length) (h2 : ps.length <= 4) (h3 : eds.length = ps.length) (h4 : eds.all (inB 0) = true) (h5 : (ts.length : Int) + (ps.length - k) <= 256) (h6 : (cs.length : Int) <= k) (h7 : 0 <= i) (h8 : i <= 256)
  (hQ : Q (.exit 4) (stS 5 sh73ce ((w, d0, addsI ts ps eds (i + 1) (ps.length - k.toNat) k.toNat, es, ()), ps, d, i, cs ++ codesI (ps.length - k.toNat) ((ts.length : Int) + 1), ()))) :
  xloop2 Tryd.prog { nm := true, f := [(106, fcId), (51, fcCodeX)] } 5 73 2 lc73c (fun _ => some (sh73ce, 5)) (fun (_, ps, _, _, _, _, k, _) => mL ps k) ((w, d0, ts, es, ()), ps, eds, d, i, cs, k, ()) Q := by
 rw [v73C]
 simp only [fork_iff, req_iff, decide_eq_true_eq, decide_eq_false_iff_not, Nat.zero_add, seg_self, Nat.le_refl, true_and]
 refine ⟨fun hi => ?_, fun hi => ?_⟩
 ·have hin : inB 0 (eds.getD k.toNat []) = true := List.all_eq_true.1 h4 _ (getC_mem (by omega))
  refine ⟨⟨h0, hi⟩, ⟨h0, by omega⟩, inR_i64.2 (by omega), inR_i64.2 (by omega), Nat.le_trans (edge16 hin) (by decide), fun g hg => ⟨fits100 (by omega), fun ys hys => ⟨⟨show (0 : Int) <= (ts.length : Int) + 1 by omega, show (ts.length : Int) + 1 <= 99999999 by omega⟩, fun s hs => ⟨fits100 (by omega), fun zs hzs => ?_⟩⟩⟩⟩
  have l1 : ys.length = ts.length + 1 := by rw [hys, List.length_append]; rfl
  have l2 : zs.length = cs.length + 1 := by rw [hzs, List.length_append]; rfl
  rw [seg_exact (show ts.length + 1 = ys.length by omega), seg_exact (show cs.length + 1 = zs.length by omega)]
  rw [adds_step h0 hi, show ps.length - k.toNat = (ps.length - (k + 1).toNat) + 1 by omega] at hQ
  simp only [codesI] at hQ
  refine ⟨inR_i64.2 (by omega), by omega, by omega, mL_lt hi, ⟨show (0 : Int) <= k + 1 by omega, show k + 1 <= (ps.length : Int) by omega, h2, h3, h4, ?_, ?_, h7, h8⟩, ?_⟩
  ·show ((ys.length : Nat) : Int) + _ <= 256
   omega
  ·show ((zs.length : Nat) : Int) <= k + 1
   omega
  ·show Q (.exit 4) (stS 5 sh73ce ((w, d0, addsI ys ps eds (i + 1) (ps.length - (k + 1).toNat) (k + 1).toNat, es, ()), ps, d, i, zs ++ codesI (ps.length - (k + 1).toNat) ((ys.length : Int) + 1), ()))
   rw [hys, hzs, hs, hg, List.append_assoc, List.length_append]
   exact hQ
 ·rw [show ps.length - k.toNat = 0 by omega] at hQ
  simp only [addsI, codesI, List.append_nil] at hQ
  exact hQ
theorem ok73C : Lp2Ok Tryd.prog 73 2 lc73c := lp2_of (n := 5) (ex := fun _ => some (sh73ce, 5)) (m := fun (_, ps, _, _, _, _, k, _) => mL ps k) (((good2_nilN _).addF okCode3).addF ok106) fun ((w, d0, ts, es, ()), ps, eds, d, i, cs, k, ()) Q hx => by
 obtain ⟨⟨g1, g2, g3, g4, g5, g6, g7, g8, g9⟩, hQ⟩ := hx
 exact h73C w d0 d i k ts es ps eds cs Q g1 g2 g3 g4 g5 g6 g7 g8 g9 hQ
theorem goodTR3 : Good2 Tryd.prog { TR with l2 := [(73, 0, lc73a), (73, 1, lc73b), (73, 2, lc73c)] } := ((goodTR.addL2 ok73C).addL2 ok73B).addL2 ok73A
theorem h73 (w d0 d : Int) (ts : List Tk) (es : List Ev) (c : Tx) (h : List Int) (ps : List Tx) (eds : List (List Int)) (K : fcRV.post.den -> Prop) (hok : okR (w, d0, ts, es)) (hroom : roomy es) (q1 : ∀ p ∈ ps, p.length <= big) (q2 : ps.length <= big) (q3 : eds.length <= big)
  (hK : ∀ (w1 d1 : Int) (ts1 : List Tk) (es1 : List Ev) (x : List Tx) (e : Int), ((w1, d1, ts1, es1), x, e) = divideI (w, d0, ts, es) c h ps eds d -> K ((w1, d1, ts1, es1, ()), (), (), (), (), (), x, e, ())) :
  xfn2 Tryd.prog { TR with l2 := [(73, 0, lc73a), (73, 1, lc73b), (73, 2, lc73c)] } 6 73 fcRV ((w, d0, ts, es, ()), c, h, ps, eds, d, ()) K := by
 rw [v73F]
 have hlen := hok.len
 have hday := hok.day
 have hwt := hok.wait
 simp only at hlen hday hwt
 simp only [fork_iff, req_iff, decide_eq_true_eq, decide_eq_false_iff_not, bne_iff_ne, ne_eq, bne_eq_false_iff_eq, beq_iff_eq, beq_eq_false_iff_ne, Bool.not_eq_true', Bool.not_eq_false', Nat.zero_add, seg_self, gt_iff_lt, true_and, Nat.le_refl, List.nil_append, Decidable.not_not, adds_len, seg_len, Int.sub_zero]
 refine ⟨hok, fun i e he hi => ?_⟩
 have hbad0 : e ≠ 0 -> K ((w, d0, ts, es, ()), (), (), (), (), (), [], e, ()) := fun hne => hK _ _ _ _ _ _ (by unfold divideI; rw [if_pos (by rw [<- he]; exact hne), <- he])
 refine ⟨fun hne => ⟨fun _ => hbad0 hne, fun hz => absurd hz hne⟩, fun hz => ?_⟩
 subst hz
 have hi := hi rfl
 have h0 := he.symm
 obtain ⟨hd, -, hn1, hn2, -⟩ := bring_ok h0
 generalize hn : (numberI c).1 = n at *
 subst hi
 simp only at hd hn2
 have hedge := (roll_tk hok hn1 hn2).edge
 simp only at hedge
 refine ⟨⟨by omega, by omega⟩, by omega, fun h2 => hK _ _ _ _ _ _ (by unfold divideI; rw [if_neg (by rw [h0]; decide)]; unfold stI; rw [hn, if_pos (by exact h2)]), fun h2 => ⟨⟨by omega, by omega⟩, by omega, fun n' f hf => ?_⟩⟩
 have h2 : ¬ (tkI ts n).2.2.1 = 2 := h2
 have hf : f = fitsE (tkI ts n) h := by
  rw [fits_E hedge]
  exact (congrArg Prod.snd hf)
 refine ⟨fun hne => hK _ _ _ _ _ _ (by unfold divideI; rw [if_neg (by rw [h0]; decide)]; unfold stI; rw [hn, if_neg (by exact h2), if_pos (by rw [<- hf]; exact hne), <- hf]), fun hz => ?_⟩
 have h3 : fitsE (tkI ts n) h = 0 := by rw [<- hf, hz]
 have pre : ∀ {α : Prop}, α -> α := fun a => a
 have base : divideI (w, d0, ts, es) c h ps eds d = if (decide (2 <= ps.length /\ ps.length <= 4) && newsB (rT ts) ps ps.length 0) = false then ((w, d0, ts, es), [], 33) else if (decide (eds.length = ps.length) && eds.all (inB 0)) = false then ((w, d0, ts, es), [], 31) else if ts.length + ps.length > 256 then ((w, d0, ts, es), [], 6) else
   (doneI (w, d0, ts, es) 5 d n (addsI (turnI ts n 3 0) ps eds n ps.length 0), codesI ps.length ((ts.length : Int) + 1), 0) := by
  unfold divideI; rw [if_neg (by rw [h0]; decide)]; unfold stI; rw [hn, if_neg (by exact h2), if_neg (by rw [h3]; decide), news_eq (s := (w, d0, ts, es)) (s' := rT ts) rfl]
 have e1 : decide ((2 : Int) <= (ps.length : Int) /\ (ps.length : Int) <= 4) = decide (2 <= ps.length /\ ps.length <= 4) := decide_eq_decide.2 (by omega)
 have e2 : ((eds.length : Int) == (ps.length : Int)) = decide (eds.length = ps.length) := by rw [Bool.eq_iff_iff, beq_iff_eq, decide_eq_true_eq]; omega
 have e3 : allE eds 0 = eds.all (inB 0) := rfl
 rw [e1, e2, e3]
 refine ⟨⟨Int.le_refl (0 : Int), fun _ => Int.natCast_nonneg _, hlen, q1, q2⟩, fun b hb => ⟨fun hbf => hK _ _ _ _ _ _ (by rw [base, if_pos (by rw [<- hb]; exact hbf)]), fun hbt => ⟨⟨Int.le_refl (0 : Int), fun _ => Int.natCast_nonneg _, q3⟩, fun b2 hb2 => ⟨fun hb2f => hK _ _ _ _ _ _ (by rw [base, if_neg (by rw [<- hb, hbt]; decide), if_pos (by rw [<- hb2]; exact hb2f)]), fun hb2t => ?_⟩⟩⟩⟩
 rw [hbt] at hb
 rw [hb2t] at hb2
 have c1 := hb.symm
 have c2 := hb2.symm
 simp only [Bool.and_eq_true, decide_eq_true_eq] at c1 c2
 have base2 : divideI (w, d0, ts, es) c h ps eds d = if ts.length + ps.length > 256 then ((w, d0, ts, es), [], 6) else
   (doneI (w, d0, ts, es) 5 d n (addsI (turnI ts n 3 0) ps eds n ps.length 0), codesI ps.length ((ts.length : Int) + 1), 0) := by
  rw [base, if_neg (by rw [<- hb]; decide), if_neg (by rw [<- hb2]; decide)]
 refine ⟨inR_i64.2 (by omega), fun hfull => hK _ _ _ _ _ _ (by rw [base2, if_pos (by omega)]), fun hfull => ⟨⟨by omega, by omega⟩, by omega, ⟨by omega, by omega⟩, by omega, fun ys hys => ?_⟩⟩
 have hl := congrArg List.length hys
 simp only [List.length_set] at hl
 have ht : ys = turnI ts n 3 0 := set_turn hys
 have hmin : min ts.length ys.length = ts.length := by omega
 rw [seg_exact (show ts.length = ys.length by omega)]
 simp only [hmin]
 have good : ∀ (ts1 : List Tk) (es1 : List Ev) (x : List Tx), ts1 = addsI ys ps eds (n - 1 + 1) ps.length 0 -> es1 = es ++ [(5, d, n - 1 + 1, ((ts.length + ps.length : Nat) : Int), (ps.length : Int))] -> x = codesI ps.length ((ts.length : Int) + 1) -> K ((w, d, ts1, es1, ()), (), (), (), (), (), x, 0, ()) := fun ts1 es1 x g1 g2 g3 => hK _ _ _ _ _ _ (by
  rw [base2, if_neg (by omega)]
  have hl1 : ts1.length = ts.length + ps.length := by rw [g1, adds_len, hl]
  have g1' : ts1 = addsI (turnI ts n 3 0) ps eds n ps.length 0 := by rw [g1, ht, show n - 1 + 1 = n by omega]
  unfold doneI; simp only
  rw [<- g1', hl1, if_pos (by omega), if_pos (by omega), g2, g3, show n - 1 + 1 = n by omega, show ((ts.length + ps.length : Nat) : Int) - (ts.length : Int) = (ps.length : Int) by omega])
 refine ⟨by omega, ⟨Int.le_refl (0 : Int), Int.natCast_nonneg _, by omega, by omega, c2.2, by omega, Int.le_refl 0, show (0 : Int) <= n - 1 by omega, show n - 1 <= (256 : Int) by omega⟩, inR_i64.2 (by omega), fun hpos => ⟨hroom, fun zs hzs => ?_⟩, fun hpos => absurd (show (0 : Int) < (ps.length : Int) by omega) hpos⟩
 have l2 : zs.length = es.length + 1 := by rw [hzs, List.length_append]; rfl
 refine ⟨by omega, ?_⟩
 rw [seg_exact (show es.length + 1 = zs.length by omega)]
 refine good _ _ _ ?_ ?_ ?_
 ·first | rfl | exact seg_exact (by rw [adds_len]; omega)
 ·rw [hzs]
 ·first | rfl | (rw [hl])
theorem ok73 : F2Ok Tryd.prog 73 fcRV := fn2_of (n := 6) goodTR3 fun ((w, d0, ts, es, ()), c, h, ps, eds, d, ()) K hx => by
 obtain ⟨⟨g1, g2, g3, g4, g5⟩, hK⟩ := hx
 exact h73 w d0 d ts es c h ps eds K g1 g2 g3 g4 g5 hK
end Go.P3
