/- Rolls by the reference: what can be asked, calls of the statements, TicketRolls: the code keeps its contracts. No conditions. -/
import Derived.Test.YtcpdcpfbgmiaoaaDoorRefQ
set_option linter.constructorNameAsVariable false
set_option linter.unusedVariables false
set_option linter.unusedSimpArgs false
set_option maxRecDepth 100000
set_option maxHeartbeats 4000000
namespace Go.P3
open Go.Lom Go.Proofs Go

theorem h76L (w d0 : Int) (ts : List Tk) (es : List Ev) (p : Tx) (i : Int) (Q : AX → St → Prop)
    (h0 : 0 ≤ i) (h1 : i ≤ ts.length) (h2 : ts.length ≤ 256) (h3 : ∀ t ∈ ts, 0 ≤ t.1 ∧ t.1 ≤ 99999999)
    (hF : ((ts.drop i.toNat).any fun t => named p t && liveB t) = false → Q (.exit 0) (stS 3 sh76e ((w, d0, ts, es, ()), ())))
    (hT : ((ts.drop i.toNat).any fun t => named p t && liveB t) = true → Q .ret (stS 3 sh76r ((liveK (ts.drop i.toNat) p).1, 0, (w, d0, ts, es, ()), ()))) :
    xloop2 Tryd.prog { f := [(51, fcCodeX)] } 5 76 0 lc76 ex76 (fun (r, _, i, _) => mL r.2.2.1 i) ((w, d0, ts, es, ()), p, i, ()) Q := by
  rw [v76L]
  simp only [fork_iff, req_iff, decide_eq_true_eq, decide_eq_false_iff_not, beq_iff_eq, beq_eq_false_iff_ne, ne_eq, true_and]
  refine ⟨fun hi => ⟨⟨h0, hi⟩, by omega, ?_⟩, fun hi => hF (by rw [drop_end hi]; rfl)⟩
  have hm : ts.getD i.toNat T0 ∈ ts := by rw [List.getD_eq_getElem?_getD, List.getElem?_eq_getElem (show i.toNat < ts.length by omega)]; exact List.getElem_mem _
  have hb := h3 _ hm
  rw [drop_step T0 h0 hi] at hF hT
  rw [show (0, [], 0, [], 0, 0) = T0 from rfl]
  generalize ts.getD i.toNat T0 = t at *
  have go : askB p t = false → inR .i64 (i + 1) = true ∧ mL ts (i + 1) < mL ts i ∧ LC2.spec lc76 ((w, d0, ts, es, ()), p, i + 1, ()) Q := fun ha => by
    rw [List.any_cons, show (named p t && liveB t) = false from ha, Bool.false_or] at hF hT
    rw [live_next ha] at hT
    exact ⟨inR_i64.2 (by omega), mL_lt hi, ⟨⟨show (0 : Int) ≤ i + 1 by omega, show i + 1 ≤ (ts.length : Int) by omega, h2, h3⟩, hF, hT⟩⟩
  have here : askB p t = true → ∀ s : Tx, s = codeS t.1 → Q .ret (stS 3 sh76r (s, 0, (w, d0, ts, es, ()), ())) := fun ha s hs => by
    rw [List.any_cons, show (named p t && liveB t) = true from ha, Bool.true_or, live_here ha] at hT
    rw [hs]; exact hT rfl
  have go := fun ha => (fun g => (⟨g.1, g.2.1, g.2.2.1, g.2.2.2⟩ : _ ∧ _ ∧ _ ∧ _)) (go ha)
  refine ⟨fun hp => ⟨fun h1 => ⟨hb, fun s hs => here (ask_true hp (.inl h1)) s hs⟩, fun h1 => ⟨fun h2 => ⟨hb, fun s hs => here (ask_true hp (.inr h2)) s hs⟩, fun h2 => go (ask_false (.inr (fun e => e.elim h1 h2)))⟩⟩, fun hp => go (ask_false (.inl hp))⟩
theorem ok76L : Lp2Ok Tryd.prog 76 0 lc76 := lp2_of (n := 5) (ex := ex76) (m := fun (r, _, i, _) => mL r.2.2.1 i) ((good2_nil _).addF okCode3) fun ((w, d0, ts, es, ()), p, i, ()) Q hx => by
  obtain ⟨⟨g3, g4, g5, g6⟩, hF, hT⟩ := hx
  exact h76L w d0 ts es p i Q g3 g4 g5 g6 hF hT
theorem ok76 : F2Ok Tryd.prog 76 fcRL := fn2_of (n := 5) ((good2_nil _).addL2 ok76L) fun ((w, d0, ts, es, ()), p, ()) K hx => by
  obtain ⟨h1, hK⟩ := hx
  have hm := num_mem h1
  have hl := h1.len
  simp only at hm hl
  show xfn2 Tryd.prog { l2 := [(76, 0, lc76)] } 5 76 fcRL ((w, d0, ts, es, ()), p, ()) K
  rw [v76F]
  simp only [req_iff, decide_eq_true_eq, Nat.zero_add, seg_self, Nat.le_refl, true_and, List.drop_zero]
  refine ⟨⟨Int.le_refl (0 : Int), Int.natCast_nonneg _, hl, fun t ht => ⟨Int.le_trans (show (0 : Int) ≤ 1 by decide) (hm t ht).1.1, Int.le_trans (hm t ht).1.2 (show (256 : Int) ≤ 99999999 by decide)⟩⟩, fun h => hK _ _ (by unfold liveI; rw [live_none h]), fun h => hK _ _ ?_⟩
  unfold liveI
  exact Prod.ext rfl (live_some h).symm
theorem h77L (w d0 : Int) (ts : List Tk) (es : List Ev) (n : Int) (o : List Int) (Q : AX → St → Prop)
    (h0 : 0 ≤ n) (h1 : n ≤ ts.length) (h2 : ts.length ≤ 256) (h3 : (o.length : Int) + n ≤ 256) (h4 : ∀ i : Int, 1 ≤ i → i ≤ ts.length → 0 ≤ (tkI ts i).2.2.2.2.2 ∧ (tkI ts i).2.2.2.2.2 ≤ i - 1)
    (hQ : Q (.exit 0) (stS 4 sh77e (o ++ lineK ts n.toNat n, (w, d0, ts, es, ()), ()))) :
    xloop2 Tryd.prog { nm := true } 5 77 0 lc77 (fun _ => some (sh77e, 4)) (fun (_, n, _) => n.toNat) ((w, d0, ts, es, ()), n, o, ()) Q := by
  rw [v77L]
  simp only [fork_iff, req_iff, decide_eq_true_eq, decide_eq_false_iff_not, Nat.zero_add, seg_self, Nat.le_refl, true_and]
  refine ⟨fun hn => ⟨fits100 (by omega), fun ys hys => ?_⟩, fun hn => ?_⟩
  · have hb := h4 n (by omega) h1
    have l1 : ys.length = o.length + 1 := by rw [hys, List.length_append]; rfl
    rw [line_step h4 hn h1] at hQ
    rw [show ts.getD (n - 1).toNat (0, [], 0, [], 0, 0) = tkI ts n from rfl]
    generalize (tkI ts n).2.2.2.2.2 = m at *
    refine ⟨inR_i64.2 (by omega), by omega, by omega, by omega, by omega, ⟨show (0 : Int) ≤ m by omega, show m ≤ (ts.length : Int) by omega, h2, ?_, h4⟩, ?_⟩
    · show ((seg 0 (o.length + 1) ys).length : Int) + m ≤ 256
      rw [seg_exact (by omega)]; omega
    · show Q (.exit 0) (stS 4 sh77e (seg 0 (o.length + 1) ys ++ lineK ts m.toNat m, (w, d0, ts, es, ()), ()))
      rw [seg_exact (show o.length + 1 = ys.length by omega), hys, List.append_assoc]
      exact hQ
  · rw [show n.toNat = 0 by omega] at hQ
    simp only [lineK, List.append_nil] at hQ
    exact hQ
theorem ok77L : Lp2Ok Tryd.prog 77 0 lc77 := lp2_of (n := 5) (ex := fun _ => some (sh77e, 4)) (m := fun (_, n, _) => n.toNat) (good2_nilN _) fun ((w, d0, ts, es, ()), n, o, ()) Q hx => by
  obtain ⟨⟨g1, g2, g3, g4, g5⟩, hQ⟩ := hx
  exact h77L w d0 ts es n o Q g1 g2 g3 g4 g5 hQ
theorem ok77 : F2Ok Tryd.prog 77 fcRN := fn2_of (n := 5) (((good2_nil _).addL2 ok77L).addF okNum3) fun ((w, d0, ts, es, ()), p, ()) K hx => by
  obtain ⟨h1, hK⟩ := hx
  have hm := comes_ok h1
  have hl := h1.len
  simp only at hm hl
  show xfn2 Tryd.prog { f := [(17, fcNumX)], l2 := [(77, 0, lc77)] } 5 77 fcRN ((w, d0, ts, es, ()), p, ()) K
  rw [v77F]
  intro r e hre
  simp only [fork_iff, req_iff, decide_eq_true_eq, decide_eq_false_iff_not, Nat.zero_add, seg_self, Nat.le_refl, true_and, bne_iff_ne, ne_eq, bne_eq_false_iff_eq, List.nil_append]
  refine ⟨fun h => hK _ _ (by unfold lineI; rw [← hre]; simp [h]), fun h => ⟨fun h2 => hK _ _ (by unfold lineI; rw [← hre]; simp [h, h2]), fun h2 => ?_⟩⟩
  have hr := num_one hre h
  refine ⟨⟨show (0 : Int) ≤ r by omega, show r ≤ (ts.length : Int) by omega, hl, by omega, hm⟩, hK _ _ (by unfold lineI; rw [← hre]; simp [h, h2])⟩
/-! calls -/
section
variable {s r : RS} {c p x : Tx} {h g : List Int} {ps xs : List Tx} {eds : List (List Int)} {d e : Int}
theorem due1 (hd : (r, x, e) = issueI s p g d) (hg : g = eds.getD 0 []) : callI s (1, d, c, p, h, ps, eds) = (r, [x], [], e) := by
  have ec : callI s (1, d, c, p, h, ps, eds) = ((issueI s p (eds.getD 0 []) d).1, [(issueI s p (eds.getD 0 []) d).2.1], [], (issueI s p (eds.getD 0 []) d).2.2) := rfl
  rw [ec, ← hg, ← hd]
theorem due2 (hd : (r, e) = blockI s c d) : callI s (2, d, c, p, h, ps, eds) = (r, [[]], [], e) := by
  have ec : callI s (2, d, c, p, h, ps, eds) = ((blockI s c d).1, [[]], [], (blockI s c d).2) := rfl
  rw [ec, ← hd]
theorem due3 (hd : (r, e) = freeI s c h d) : callI s (3, d, c, p, h, ps, eds) = (r, [[]], [], e) := by
  have ec : callI s (3, d, c, p, h, ps, eds) = ((freeI s c h d).1, [[]], [], (freeI s c h d).2) := rfl
  rw [ec, ← hd]
theorem due4 (hd : (r, x, e) = replaceI s c g d) (hg : g = eds.getD 0 []) : callI s (4, d, c, p, h, ps, eds) = (r, [x], [], e) := by
  have ec : callI s (4, d, c, p, h, ps, eds) = ((replaceI s c (eds.getD 0 []) d).1, [(replaceI s c (eds.getD 0 []) d).2.1], [], (replaceI s c (eds.getD 0 []) d).2.2) := rfl
  rw [ec, ← hg, ← hd]
theorem due5 (hd : (r, xs, e) = divideI s c h ps eds d) : callI s (5, d, c, p, h, ps, eds) = (r, xs, [], e) := by
  have ec : callI s (5, d, c, p, h, ps, eds) = ((divideI s c h ps eds d).1, (divideI s c h ps eds d).2.1, [], (divideI s c h ps eds d).2.2) := rfl
  rw [ec, ← hd]
theorem due6 (hd : (r, x, e) = redeemI s c h d) : callI s (6, d, c, p, h, ps, eds) = (r, [x], [], e) := by
  have ec : callI s (6, d, c, p, h, ps, eds) = ((redeemI s c h d).1, [(redeemI s c h d).2.1], [], (redeemI s c h d).2.2) := rfl
  rw [ec, ← hd]
theorem due7 (hd : (r, x, e) = forfeitI s c d) : callI s (7, d, c, p, h, ps, eds) = (r, [x], [], e) := by
  have ec : callI s (7, d, c, p, h, ps, eds) = ((forfeitI s c d).1, [(forfeitI s c d).2.1], [], (forfeitI s c d).2.2) := rfl
  rw [ec, ← hd]
end
theorem ok34 : F2Ok Tryd.prog 34 fcDue := fn2_of (n := 8) (T := { nm := true, f2 := [(69, fcRI), (70, fcRB), (71, fcRF), (72, fcRR), (73, fcRV), (74, fcRD), (75, fcRG), (76, fcRL), (77, fcRN)] })
    ((((((((((good2_nilN _).addF2 ok77).addF2 ok76).addF2 ok75).addF2 ok74).addF2 ok73).addF2 ok72).addF2 ok71).addF2 ok70).addF2 ok69) fun ((w, d0, ts, es, ()), (k, d, c, p, h, ps, eds), ()) K hx => by
  obtain ⟨⟨h1, h3, h4⟩, hK⟩ := hx
  have h1 : okR (w, d0, ts, es) := h1
  have q1 : p.length ≤ big := h4.pledge
  have q2 : ps.length ≤ big ∧ ∀ p ∈ ps, p.length ≤ big := h4.names
  have q3 : eds.length ≤ big := h4.edges
  have hK : ∀ (w1 d1 : Int) (ts1 : List Tk) (es1 : List Ev) (tx : List Tx) (l : List Int) (e : Int), callI (w, d0, ts, es) (k, d, c, p, h, ps, eds) = ((w1, d1, ts1, es1), tx, l, e) → K ((w1, d1, ts1, es1, ()), (), tx, l, e, ()) := fun w1 d1 ts1 es1 tx l e hc => hK w1 d1 ts1 es1 tx l e hc.symm
  show xfn2 Tryd.prog { nm := true, f2 := [(69, fcRI), (70, fcRB), (71, fcRF), (72, fcRR), (73, fcRV), (74, fcRD), (75, fcRG), (76, fcRL), (77, fcRN)] } 8 34 fcDue ((w, d0, ts, es, ()), (k, d, c, p, h, ps, eds), ()) K
  rw [v34F]
  simp only [fork_iff, req_iff, decide_eq_true_eq, decide_eq_false_iff_not, beq_iff_eq, beq_eq_false_iff_ne, ne_eq, Nat.zero_add, seg_self, Nat.le_refl, true_and]
  refine ⟨fun k1 => ?_, fun k1 => ⟨fun k2 => ?_, fun k2 => ⟨fun k3 => ?_, fun k3 => ⟨fun k4 => ?_, fun k4 => ⟨fun k5 => ?_, fun k5 => ⟨fun k6 => ?_, fun k6 => ⟨fun k7 => ?_, fun k7 => ⟨fun k8 => ?_, fun k8 => ?_⟩⟩⟩⟩⟩⟩⟩⟩
  · subst k1
    exact ⟨fun e0 => ⟨⟨h1, h3, q1⟩, fun w1 d1 ts1 es1 x e hd => hK _ _ _ _ _ _ _ (due1 hd (getD_nil (by omega)))⟩, fun e0 => ⟨⟨Int.le_refl 0, by omega⟩, ⟨h1, h3, q1⟩, fun w1 d1 ts1 es1 x e hd => hK _ _ _ _ _ _ _ (due1 hd rfl)⟩⟩
  · subst k2; exact ⟨⟨h1, h3⟩, fun w1 d1 ts1 es1 e hd => hK _ _ _ _ _ _ _ (due2 hd)⟩
  · subst k3; exact ⟨⟨h1, h3⟩, fun w1 d1 ts1 es1 e hd => hK _ _ _ _ _ _ _ (due3 hd)⟩
  · subst k4
    exact ⟨fun e0 => ⟨⟨h1, h3⟩, fun w1 d1 ts1 es1 x e hd => hK _ _ _ _ _ _ _ (due4 hd (getD_nil (by omega)))⟩, fun e0 => ⟨⟨Int.le_refl 0, by omega⟩, ⟨h1, h3⟩, fun w1 d1 ts1 es1 x e hd => hK _ _ _ _ _ _ _ (due4 hd rfl)⟩⟩
  · subst k5; exact ⟨⟨h1, h3, q2.2, q2.1, q3⟩, fun w1 d1 ts1 es1 x e hd => hK _ _ _ _ _ _ _ (due5 hd)⟩
  · subst k6; exact ⟨⟨h1, h3⟩, fun w1 d1 ts1 es1 x e hd => hK _ _ _ _ _ _ _ (due6 hd)⟩
  · subst k7; exact ⟨⟨h1, h3⟩, fun w1 d1 ts1 es1 x e hd => hK _ _ _ _ _ _ _ (due7 hd)⟩
  · exact ⟨h1, fun x e hl => hK _ _ _ _ _ _ _ (call8 k8 hl)⟩
  · exact ⟨h1, fun x e hl => hK _ _ _ _ _ _ _ (call9 k1 k2 k3 k4 k5 k6 k7 k8 hl)⟩

/-! TicketRolls -/
theorem h35L (a : List Tx) (i : Int) (Q : AX → St → Prop) (hl : a.length ≤ 1000) (h0 : 0 ≤ i) (h1 : i ≤ a.length) (hQ : Q (.exit 0) (stS 0 sh35e (true, ()))) : xloop2 Tryd.prog {} 5 35 0 lc35 (fun _ => some (sh35e, 0)) (fun (a, _, _, i, _) => mL a i) (a, a, true, i, ()) Q := by
  rw [v35L]
  simp only [fork_iff, req_iff, decide_eq_true_eq, decide_eq_false_iff_not, beq_self_eq_true]
  refine ⟨fun hi => ⟨⟨h0, hi⟩, ⟨h0, hi⟩, inR_i64.2 (by omega), mL_lt hi, ?_⟩, fun _ => hQ⟩
  exact ⟨⟨trivial, trivial, hl, show (0 : Int) ≤ i + 1 by omega, show i + 1 ≤ (a.length : Int) by omega⟩, hQ⟩
theorem ok35L : Lp2Ok Tryd.prog 35 0 lc35 := lp2_of (n := 5) (ex := fun _ => some (sh35e, 0)) (m := fun (a, _, _, i, _) => mL a i) (good2_nil _) fun (a, b, ok, i, ()) Q hx => by
  obtain ⟨⟨g1, g2, g3, g4, g5⟩, hQ⟩ := hx
  have g1 : a = b := g1
  have g2 : ok = true := g2
  subst g1 g2
  exact h35L a i Q g3 g4 g5 hQ
theorem ok35 : FnOk Tryd.prog 35 fcSameX := fn1_of (n := 5) ((good2_nil _).addL2 ok35L) fun (a, b, ()) K hx => by
  obtain ⟨⟨g1, g2⟩, hK⟩ := hx
  have g1 : a = b := g1
  subst g1
  show xfn1 Tryd.prog { l2 := [(35, 0, lc35)] } 5 35 fcSameX (a, a, ()) K
  rw [v35F]
  exact ⟨⟨rfl, beq_self_eq_true _, g2, Int.le_refl (0 : Int), Int.natCast_nonneg _⟩, hK⟩
theorem codes_len : ∀ (k : Nat) (n : Int), (codesI k n).length = k
  | 0, _ => rfl
  | k + 1, n => by unfold codesI; rw [List.length_cons, codes_len k]
theorem lineK_len {l : List Tk} : ∀ (k : Nat) (n : Int), (lineK l k n).length ≤ k
  | 0, _ => Nat.le_refl _
  | k + 1, n => by
    unfold lineK
    split
    · rw [List.length_cons]; exact Nat.succ_le_succ (lineK_len k _)
    · exact Nat.zero_le _
theorem call_sizes {s : RS} (h : okR s) (c : Cl) : (callI s c).2.1.length ≤ 1000 ∧ (callI s c).2.2.1.length ≤ 100000 := by
  obtain ⟨k, d, c, p, g, ps, eds⟩ := c
  have hdiv : (divideI s c g ps eds d).2.1.length ≤ 1000 := by
    unfold divideI
    split
    · exact Nat.zero_le _
    split
    · exact Nat.zero_le _
    split
    · exact Nat.zero_le _
    split
    · exact Nat.zero_le _
    rename_i h3
    split
    · exact Nat.zero_le _
    split
    · exact Nat.zero_le _
    · simp only [Bool.not_eq_false, Bool.and_eq_true, decide_eq_true_eq] at h3
      rw [codes_len]; omega
  have hline : (lineI s c).1.length ≤ 100000 := by
    unfold lineI
    split
    · exact Nat.zero_le _
    split
    · exact Nat.zero_le _
    · refine Nat.le_trans (lineK_len _ _) ?_
      have := h.len
      omega
  unfold callI
  simp only
  repeat' split
  all_goals first | exact ⟨(by decide : 1 ≤ 1000), (by decide : 0 ≤ 100000)⟩ | exact ⟨hdiv, Nat.zero_le _⟩ | exact ⟨Nat.zero_le _, hline⟩ | exact ⟨by simp, by simp⟩
theorem h8L (w d0 : Int) (ts : List Tk) (es : List Ev) (l : List Cl) (i : Int) (Q : AX → St → Prop) (hok : okR (w, d0, ts, es)) (hl : okLs l) (h0 : 0 ≤ i) (h1 : i ≤ 60) (h2 : (es.length : Int) ≤ i)
    (hQ : ∀ (w1 d1 : Int) (ts1 : List Tk) (es1 : List Ev), okR (w1, d1, ts1, es1) → es1.length ≤ 60 → Q (.exit 0) (stS 6 sh8e ((w1, d1, ts1, es1, true, ()), (w1, d1, ts1, es1, ()), ()))) :
    xloop2 Tryd.prog { f := [(35, fcSameX), (20, fcSame)], f2 := [(31, fcCall), (34, fcDue)] } 5 8 0 lc8 (fun _ => some (sh8e, 6)) (fun (_, _, _, i, _) => (60 - i).toNat) (l, (w, d0, ts, es, true, ()), (w, d0, ts, es, ()), i, ()) Q := by
  rw [v8L]
  simp only [fork_iff, req_iff, decide_eq_true_eq, decide_eq_false_iff_not, bne_iff_ne, bne_eq_false_iff_eq, ne_eq, Nat.zero_add, seg_self, Nat.le_refl, true_and]
  refine ⟨fun hi => ⟨fun h60 => ⟨⟨h0, hi⟩, ?_⟩, fun h60 => hQ _ _ _ _ hok (by omega)⟩, fun hi => hQ _ _ _ _ hok (by omega)⟩
  have hc : l.getD i.toNat C0 ∈ l := getC_mem (by omega)
  have hcl := hl.all _ hc
  rw [show (0, 0, [], [], [], [], []) = C0 from rfl]
  generalize l.getD i.toNat C0 = cl at *
  refine ⟨⟨hok, fits100 (by omega), hcl⟩, fun w1 d1 ts1 es1 tx l1 e1 hc1 => ⟨⟨h0, hi⟩, ⟨hok, fits100 (by omega), hcl⟩, fun w2 d2 ts2 es2 tx2 l2 e2 hc2 => ?_⟩⟩
  have heq := hc1.trans hc2.symm
  simp only [Prod.mk.injEq] at heq
  obtain ⟨⟨rfl, rfl, rfl, rfl⟩, rfl, rfl, rfl⟩ := heq
  obtain ⟨s1, s2⟩ := call_sizes hok cl
  obtain ⟨g1, g2, g3⟩ := call_ok hok cl
  rw [← hc1] at s1 s2 g1 g3
  have g3 : es1.length ≤ es.length + 1 := g3
  refine ⟨⟨rfl, s1⟩, ⟨rfl, s2⟩, fun h => absurd rfl h, fun _ => ⟨inR_i64.2 (by omega), ?_, ?_, hQ⟩⟩
  · show ((60 : Int) - (i + 1)).toNat < ((60 : Int) - i).toNat
    omega
  · first
      | exact ⟨g1, rfl, hl, show (0 : Int) ≤ i + 1 by omega, show i + 1 ≤ (60 : Int) by omega, show (es1.length : Int) ≤ i + 1 by omega⟩
      | exact ⟨g1, rfl, rfl, hl, show (0 : Int) ≤ i + 1 by omega, show i + 1 ≤ (60 : Int) by omega, show (es1.length : Int) ≤ i + 1 by omega⟩
theorem ok8L : Lp2Ok Tryd.prog 8 0 lc8 := lp2_of (n := 5) (ex := fun _ => some (sh8e, 6)) (m := fun (_, _, _, i, _) => (60 - i).toNat) (((((good2_nil _).addF2 ok34).addF2 ok31).addF ok20).addF ok35) fun (l, (w, d0, ts, es, b, ()), (w', d0', ts', es', ()), i, ()) Q hx => by
  obtain ⟨⟨g1, g2, g3, g4, g5, g6, g7⟩, hQ⟩ := hx
  have g2 : b = true := g2
  have g3 : (w', d0', ts', es') = (w, d0, ts, es) := g3
  simp only [Prod.mk.injEq] at g3
  obtain ⟨rfl, rfl, rfl, rfl⟩ := g3
  subst g2
  exact h8L w' d0' ts' es' l i Q g1 g4 g5 g6 g7 hQ
theorem ok8NL : Lp2Ok Tryd.prog 8 0 lc8n := lp2_of (n := 5) (ex := fun _ => some (sh8ne, 0)) (m := fun (_, _, _, i, _) => (60 - i).toNat) (good2_nil _) fun (l, (), (), i, ()) Q hx => by
  obtain ⟨-, hQ⟩ := hx
  show xloop2 Tryd.prog {} 5 8 0 lc8n (fun _ => some (sh8ne, 0)) (fun (_, _, _, i, _) => (60 - i).toNat) (l, (), (), i, ()) Q
  rw [v8NL]
  simp only [fork_iff]
  exact ⟨fun _ => ⟨fun _ => hQ, fun _ => hQ⟩, fun _ => hQ⟩
theorem okRolls (hw : FnOk Tryd.prog 21 fcWorks) : FnOk Tryd.prog 8 fcLawC := fn1_ex fun (wt, l, ()) K hx => by
  obtain ⟨hl, hK⟩ := hx
  by_cases hwt : 0 ≤ (show Int from wt) ∧ (show Int from wt) ≤ 1000
  rotate_left
  · refine ⟨{ f := [(49, fcWith), (28, fcFrom), (21, fcWorks)], l2 := [(8, 0, lc8n)] }, 5, ((((good2_nil _).addL2 ok8NL).addF hw).addF ok28).addF ok49, ?_⟩
    rw [v8N]
    simp only [fork_iff, Bool.not_eq_true', Bool.not_eq_false', decide_eq_true_eq, decide_eq_false_iff_not]
    have hlen := hl.len
    first
      | exact ⟨fun _ => ⟨fun _ => ⟨⟨Int.le_refl (0 : Int), hlen⟩, hK⟩, fun h => absurd h hwt⟩, fun h => absurd h hwt⟩
      | exact ⟨fun _ => ⟨⟨Int.le_refl (0 : Int), hlen⟩, hK⟩, fun h => absurd h hwt⟩
  refine ⟨{ f := [(49, fcWith), (28, fcFrom), (21, fcWorks), (36, fcSameT), (37, fcSameE)], f2 := [(30, fcTix), (38, fcEvs)], l2 := [(8, 0, lc8)] }, 5, ((((((((good2_nil _).addL2 ok8L).addF2 ok38).addF2 ok30).addF ok37).addF ok36).addF hw).addF ok28).addF ok49, ?_⟩
  rw [v8F]
  simp only [fork_iff, req_iff, decide_eq_true_eq, decide_eq_false_iff_not, Bool.not_eq_true', Bool.not_eq_false', Nat.zero_add, seg_self, Nat.le_refl, true_and]
  refine ⟨fun h => absurd hwt h, fun _ => ⟨fun h => absurd hwt h, fun _ => ⟨⟨new_ok hwt, rfl, hl, Int.le_refl (0 : Int), show (0 : Int) ≤ 60 by decide, Int.le_refl 0⟩, fun w1 d1 ts1 es1 hok hes => ?_⟩⟩⟩
  have hm := num_mem hok
  have hlen := hok.len
  simp only at hm hlen
  have hed : ∀ t ∈ ts1, t.2.2.2.1.length ≤ 100 := fun t ht => Nat.le_trans (hm t ht).2 (by decide)
  refine ⟨⟨hlen, hed⟩, fun lt hlt => ?_⟩
  subst hlt
  exact ⟨⟨rfl, by omega, hed⟩, by omega, fun le hle => by subst hle; exact ⟨⟨rfl, by omega⟩, hK⟩⟩
end Go.P3
