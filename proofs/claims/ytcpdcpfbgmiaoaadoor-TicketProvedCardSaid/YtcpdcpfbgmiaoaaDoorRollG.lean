/- Rolls: what can be asked of a roll: the code keeps its contracts. No conditions. -/
import Derived.Test.YtcpdcpfbgmiaoaaDoorRollF
import Derived.Test.YtcpdcpfbgmiaoaaDoorRollDP
set_option linter.all false
set_option maxRecDepth 100000
namespace Go.P3
open Go.Lom Go.Proofs Go
abbrev askB (p : Tx) (t : Tk) : Bool := named p t && liveB t
theorem liveB_iff {t : Tk} : liveB t = true ↔ t.2.2.1 = 1 \/ t.2.2.1 = 2 := by unfold liveB; exact decide_eq_true_iff
theorem ask_true {p : Tx} {t : Tk} (h1 : t.2.1 = p) (h2 : t.2.2.1 = 1 \/ t.2.2.1 = 2) : askB p t = true := by
 show (named p t && liveB t) = true
 rw [liveB_iff.2 h2, show named p t = true from decide_eq_true h1]; rfl
theorem ask_false {p : Tx} {t : Tk} (h : ¬ t.2.1 = p \/ ¬ (t.2.2.1 = 1 \/ t.2.2.1 = 2)) : askB p t = false := by
 show (named p t && liveB t) = false
 rcases h with h | h
 ·rw [show named p t = false from decide_eq_false h]; rfl
 ·rw [show liveB t = false from decide_eq_false h, Bool.and_false]
theorem live_here {p : Tx} {t : Tk} {l : List Tk} (h : askB p t = true) : liveK (t :: l) p = (codeS t.1, 0) := by
 have h' : named p t = true /\ liveB t = true := by simpa using h
 unfold liveK; rw [if_pos h']
theorem live_next {p : Tx} {t : Tk} {l : List Tk} (h : askB p t = false) : liveK (t :: l) p = liveK l p := by
 have h' : ¬ (named p t = true /\ liveB t = true) := by
  intro e
  have : (named p t && liveB t) = true := by rw [e.1, e.2]; rfl
  rw [show (named p t && liveB t) = false from h] at this; cases this
 conv => lhs; unfold liveK
 rw [if_neg h']
theorem live_none {p : Tx} : ∀ {l : List Tk}, (l.any fun t => named p t && liveB t) = false -> liveK l p = ([], 4)
 | [], _ => rfl
 | t :: l, h => by
  rw [List.any_cons, Bool.or_eq_false_iff] at h
  rw [live_next h.1, live_none h.2]
theorem live_some {p : Tx} : ∀ {l : List Tk}, (l.any fun t => named p t && liveB t) = true -> (liveK l p).2 = 0
 | [], h => by simp at h
 | t :: l, h => by
  cases ha : askB p t with
  | true => rw [live_here ha]
  | false =>
   rw [live_next ha]
   rw [List.any_cons, show (named p t && liveB t) = false from ha, Bool.false_or] at h
   exact live_some h
theorem h48L (w d0 : Int) (ts : List Tk) (es : List Ev) (b : Bool) (p : Tx) (i : Int) (Q : AX -> St -> Prop)
  (h0 : 0 <= i) (h1 : i <= ts.length) (h2 : ts.length <= 256) (h3 : ∀ t ∈ ts, 0 <= t.1 /\ t.1 <= 99999999)
  (hF : ((ts.drop i.toNat).any fun t => named p t && liveB t) = false -> Q (.exit 0) (stS 3 sh48e ((w, d0, ts, es, b, ()), ())))
  (hT : ((ts.drop i.toNat).any fun t => named p t && liveB t) = true -> Q .ret (stS 3 sh48r ((liveK (ts.drop i.toNat) p).1, 0, (w, d0, ts, es, b, ()), ()))) :
  xloop2 Tryd.prog { f := [(50, fcCodeX)] } 5 48 0 lc48 ex48 (fun (r, _, _, _, i, _) => mL r.2.2.1 i) ((w, d0, ts, es, b, ()), p, ts.length, (ts.length : Int), i, ()) Q := by
 rw [v48L]
 simp only [fork_iff, req_iff, decide_eq_true_eq, decide_eq_false_iff_not, beq_iff_eq, beq_eq_false_iff_ne, ne_eq, true_and]
 refine ⟨fun hi => ⟨⟨h0, hi⟩, by omega, ?_⟩, fun hi => hF (by rw [drop_end hi]; rfl)⟩
 have hm : ts.getD i.toNat T0 ∈ ts := by rw [List.getD_eq_getElem?_getD, List.getElem?_eq_getElem (show i.toNat < ts.length by omega)]; exact List.getElem_mem _
 have hb := h3 _ hm
 rw [drop_step T0 h0 hi] at hF hT
 rw [show (0, [], 0, [], 0, 0) = T0 from rfl]
 generalize ts.getD i.toNat T0 = t at *
 have go : askB p t = false -> inR .i64 (i + 1) = true /\ mL ts (i + 1) < mL ts i /\ LC2.spec lc48 ((w, d0, ts, es, b, ()), p, ts.length, (ts.length : Int), i + 1, ()) Q := fun ha => by
  rw [List.any_cons, show (named p t && liveB t) = false from ha, Bool.false_or] at hF hT
  rw [live_next ha] at hT
  exact ⟨inR_i64.2 (by omega), mL_lt hi, ⟨⟨rfl, rfl, show (0 : Int) <= i + 1 by omega, show i + 1 <= (ts.length : Int) by omega, h2, h3⟩, hF, hT⟩⟩
 have here : askB p t = true -> ∀ s : Tx, s = codeS t.1 -> Q .ret (stS 3 sh48r (s, 0, (w, d0, ts, es, b, ()), ())) := fun ha s hs => by
  rw [List.any_cons, show (named p t && liveB t) = true from ha, Bool.true_or, live_here ha] at hT
  rw [hs]; exact hT rfl
 have go := fun ha => (fun g => (⟨g.1, g.2.1, g.2.2.1.2.2, g.2.2.2⟩ : _ /\ _ /\ _ /\ _)) (go ha)
 refine ⟨fun hp => ⟨fun h1 => ⟨hb, fun s hs => here (ask_true hp (.inl h1)) s hs⟩, fun h1 => ⟨fun h2 => ⟨hb, fun s hs => here (ask_true hp (.inr h2)) s hs⟩, fun h2 => go (ask_false (.inr (fun e => e.elim h1 h2)))⟩⟩, fun hp => go (ask_false (.inl hp))⟩
theorem ok48L : Lp2Ok Tryd.prog 48 0 lc48 := lp2_of (n := 5) (ex := ex48) (m := fun (r, _, _, _, i, _) => mL r.2.2.1 i) ((good2_nil _).addF okCodeX) fun ((w, d0, ts, es, b, ()), p, n, m, i, ()) Q hx => by
 obtain ⟨⟨g1, g2, g3, g4, g5, g6⟩, hF, hT⟩ := hx
 have g1 : n = ts.length := g1
 have g2 : m = (ts.length : Int) := g2
 subst g1 g2
 exact h48L w d0 ts es b p i Q g3 g4 g5 g6 hF hT
theorem num_mem {s : RS} (h : okR s) : ∀ t ∈ s.2.2.1, (1 <= t.1 /\ t.1 <= 256) /\ t.2.2.2.1.length <= 16 := fun t ht => by
 obtain ⟨i, hi⟩ := List.mem_iff_getElem?.1 ht
 have h1 := h.tk i t hi
 have h2 : i < s.2.2.1.length := (List.getElem?_eq_some_iff.1 hi).1
 have h3 := h.len
 exact ⟨by rw [h1.num]; omega, edge16 h1.edge⟩
theorem ok48 : F2Ok Tryd.prog 48 fcLive := fn2_of (n := 5) ((good2_nil _).addL2 ok48L) fun ((w, d0, ts, es, rdy, ()), p, ()) K hx => by
 obtain ⟨⟨h1, h2⟩, hK⟩ := hx
 have h2 : rdy = true := h2
 subst h2
 have hm := num_mem h1
 have hl := h1.len
 simp only at hm hl
 show xfn2 Tryd.prog { l2 := [(48, 0, lc48)] } 5 48 fcLive ((w, d0, ts, es, true, ()), p, ()) K
 rw [v48F]
 simp only [req_iff, decide_eq_true_eq, Nat.zero_add, seg_self, Nat.le_refl, true_and, List.drop_zero]
 refine ⟨⟨Int.le_refl (0 : Int), Int.natCast_nonneg _, hl, fun t ht => ⟨Int.le_trans (show (0 : Int) <= 1 by decide) (hm t ht).1.1, Int.le_trans (hm t ht).1.2 (show (256 : Int) <= 99999999 by decide)⟩⟩, fun h => hK _ _ (by unfold liveI; rw [live_none h]), fun h => hK _ _ ?_⟩
 unfold liveI
 exact Prod.ext rfl (live_some h).symm
theorem lineK_fuel {l : List Tk} (hl : ∀ i : Int, 1 <= i -> i <= l.length -> 0 <= (tkI l i).2.2.2.2.2 /\ (tkI l i).2.2.2.2.2 <= i - 1) : ∀ (k : Nat) (n : Int), n <= l.length -> n.toNat <= k -> lineK l k n = lineK l n.toNat n
 | 0, n, h1, h2 => by rw [show n.toNat = 0 by omega]
 | k + 1, n, h1, h2 => by
  by_cases hn : n > 0
  ·obtain ⟨m, hm⟩ : ∃ m, n.toNat = m + 1 := ⟨n.toNat - 1, by omega⟩
   rw [hm]
   unfold lineK
   rw [if_pos hn, if_pos hn]
   have hb := hl n (by omega) h1
   rw [lineK_fuel hl k _ (by omega) (by omega), lineK_fuel hl m _ (by omega) (by omega)]
  ·rw [show n.toNat = 0 by omega]
   unfold lineK; rw [if_neg hn]
theorem line_step {l : List Tk} (hl : ∀ i : Int, 1 <= i -> i <= l.length -> 0 <= (tkI l i).2.2.2.2.2 /\ (tkI l i).2.2.2.2.2 <= i - 1) {n : Int} (h0 : n > 0) (h1 : n <= l.length) : lineK l n.toNat n = n :: lineK l ((tkI l n).2.2.2.2.2).toNat (tkI l n).2.2.2.2.2 := by
 obtain ⟨m, hm⟩ : ∃ m, n.toNat = m + 1 := ⟨n.toNat - 1, by omega⟩
 rw [hm]
 have hb := hl n (by omega) h1
 conv => lhs; unfold lineK
 rw [if_pos h0, lineK_fuel hl m _ (by omega) (by omega)]
theorem h44L (w d0 : Int) (ts : List Tk) (es : List Ev) (b : Bool) (n : Int) (o : List Int) (Q : AX -> St -> Prop)
  (h0 : 0 <= n) (h1 : n <= ts.length) (h2 : ts.length <= 256) (h3 : (o.length : Int) + n <= 256) (h4 : ∀ i : Int, 1 <= i -> i <= ts.length -> 0 <= (tkI ts i).2.2.2.2.2 /\ (tkI ts i).2.2.2.2.2 <= i - 1)
  (hQ : Q (.exit 0) (stS 4 sh44e (o ++ lineK ts n.toNat n, (w, d0, ts, es, b, ()), ()))) :
  xloop2 Tryd.prog { nm := true } 5 44 0 lc44 (fun _ => some (sh44e, 4)) (fun (_, n, _) => n.toNat) ((w, d0, ts, es, b, ()), n, o, ()) Q := by
 rw [v44L]
 simp only [fork_iff, req_iff, decide_eq_true_eq, decide_eq_false_iff_not, Nat.zero_add, seg_self, Nat.le_refl, true_and]
 refine ⟨fun hn => ⟨fits100 (by omega), fun ys hys => ?_⟩, fun hn => ?_⟩
 ·have hb := h4 n (by omega) h1
  have l1 : ys.length = o.length + 1 := by rw [hys, List.length_append]; rfl
  rw [line_step h4 hn h1] at hQ
  rw [show ts.getD (n - 1).toNat (0, [], 0, [], 0, 0) = tkI ts n from rfl]
  generalize (tkI ts n).2.2.2.2.2 = m at *
  refine ⟨inR_i64.2 (by omega), by omega, by omega, by omega, by omega, ⟨show (0 : Int) <= m by omega, show m <= (ts.length : Int) by omega, h2, ?_, h4⟩, ?_⟩
  ·show ((seg 0 (o.length + 1) ys).length : Int) + m <= 256
   rw [seg_exact (by omega)]; omega
  ·show Q (.exit 0) (stS 4 sh44e (seg 0 (o.length + 1) ys ++ lineK ts m.toNat m, (w, d0, ts, es, b, ()), ()))
   rw [seg_exact (show o.length + 1 = ys.length by omega), hys, List.append_assoc]
   exact hQ
 ·rw [show n.toNat = 0 by omega] at hQ
  simp only [lineK, List.append_nil] at hQ
  exact hQ
theorem ok44L : Lp2Ok Tryd.prog 44 0 lc44 := lp2_of (n := 5) (ex := fun _ => some (sh44e, 4)) (m := fun (_, n, _) => n.toNat) (good2_nilN _) fun ((w, d0, ts, es, b, ()), n, o, ()) Q hx => by
 obtain ⟨⟨g1, g2, g3, g4, g5⟩, hQ⟩ := hx
 exact h44L w d0 ts es b n o Q g1 g2 g3 g4 g5 hQ
theorem comes_ok {s : RS} (h : okR s) : ∀ i : Int, 1 <= i -> i <= s.2.2.1.length -> 0 <= (tkI s.2.2.1 i).2.2.2.2.2 /\ (tkI s.2.2.1 i).2.2.2.2.2 <= i - 1 := fun i a b => by
 have := (roll_tk h a b).comes; omega
theorem ok44 : F2Ok Tryd.prog 44 fcLine := fn2_of (n := 5) (((good2_nil _).addL2 ok44L).addF okNumX) fun ((w, d0, ts, es, rdy, ()), p, ()) K hx => by
 obtain ⟨⟨h1, h2⟩, hK⟩ := hx
 have h2 : rdy = true := h2
 subst h2
 have hm := comes_ok h1
 have hl := h1.len
 simp only at hm hl
 show xfn2 Tryd.prog { f := [(16, fcNumX)], l2 := [(44, 0, lc44)] } 5 44 fcLine ((w, d0, ts, es, true, ()), p, ()) K
 rw [v44F]
 intro r e hre
 simp only [fork_iff, req_iff, decide_eq_true_eq, decide_eq_false_iff_not, Nat.zero_add, seg_self, Nat.le_refl, true_and, bne_iff_ne, ne_eq, bne_eq_false_iff_eq, List.nil_append]
 refine ⟨fun h => hK _ _ (by unfold lineI; rw [<- hre]; simp [h]), fun h => ⟨fun h2 => hK _ _ (by unfold lineI; rw [<- hre]; simp [h, h2]), fun h2 => ?_⟩⟩
 have hr := num_one hre h
 refine ⟨⟨show (0 : Int) <= r by omega, show r <= (ts.length : Int) by omega, hl, by omega, hm⟩, hK _ _ (by unfold lineI; rw [<- hre]; simp [h, h2])⟩
theorem h30L (w d0 : Int) (ts : List Tk) (es : List Ev) (b : Bool) (i : Int) (Q : AX -> St -> Prop)
  (h0 : 0 <= i) (h1 : i <= ts.length) (h2 : ts.length <= 256) (h3 : ∀ t ∈ ts, t.2.2.2.1.length <= 100)
  (hQ : Q (.exit 0) (stS 4 sh30e (ts, (w, d0, ts, es, b, ()), ()))) :
  xloop2 Tryd.prog { nm := true, f := [(64, fcId)] } 5 30 0 lc30 (fun _ => some (sh30e, 4)) (fun (r, _, _, _, i, _) => mL r.2.2.1 i) ((w, d0, ts, es, b, ()), ts.take i.toNat, ts.length, (ts.length : Int), i, ()) Q := by
 rw [v30L]
 simp only [fork_iff, req_iff, decide_eq_true_eq, decide_eq_false_iff_not, Nat.zero_add, seg_self, Nat.le_refl, true_and]
 refine ⟨fun hi => ⟨⟨h0, hi⟩, by omega, ?_⟩, fun hi => ?_⟩
 ·have hm : ts.getD i.toNat T0 ∈ ts := by rw [List.getD_eq_getElem?_getD, List.getElem?_eq_getElem (show i.toNat < ts.length by omega)]; exact List.getElem_mem _
  have ht : ts.take (i + 1).toNat = ts.take i.toNat ++ [ts.getD i.toNat T0] := by
   rw [show (i + 1).toNat = i.toNat + 1 by omega, List.take_add_one, List.getD_eq_getElem?_getD, List.getElem?_eq_getElem (show i.toNat < ts.length by omega)]; rfl
  have hb := h3 _ hm
  rw [show (0, [], 0, [], 0, 0) = T0 from rfl]
  generalize ts.getD i.toNat T0 = t at *
  have lt : (ts.take i.toNat).length = i.toNat := by rw [List.length_take]; omega
  refine ⟨hb, fun g hg => ⟨fits100 (by omega), fun ys hys => ?_⟩⟩
  have l1 : ys.length = (ts.take i.toNat).length + 1 := by rw [hys, List.length_append]; rfl
  refine ⟨inR_i64.2 (by omega), by omega, mL_lt hi, ⟨show (0 : Int) <= i + 1 by omega, show i + 1 <= (ts.length : Int) by omega, h2, ?_, h3⟩, hQ⟩
  show seg 0 ((ts.take i.toNat).length + 1) ys = ts.take (i + 1).toNat
  rw [seg_exact (by omega), hys, ht, hg]
 ·rw [List.take_of_length_le (by omega)]; exact hQ
theorem ok30L : Lp2Ok Tryd.prog 30 0 lc30 := lp2_of (n := 5) (ex := fun _ => some (sh30e, 4)) (m := fun (r, _, _, _, i, _) => mL r.2.2.1 i) ((good2_nilN _).addF ok64) fun ((w, d0, ts, es, b, ()), o, n, m, i, ()) Q hx => by
 obtain ⟨⟨g1, g2, g3, g4, g5, g6, g7⟩, hQ⟩ := hx
 have g1 : n = ts.length := g1
 have g2 : m = (ts.length : Int) := g2
 have g6 : o = ts.take i.toNat := g6
 subst g1 g2 g6
 exact h30L w d0 ts es b i Q g3 g4 g5 g7 hQ
theorem ok30 : F2Ok Tryd.prog 30 fcTix := fn2_of (n := 5) ((good2_nil _).addL2 ok30L) fun ((w, d0, ts, es, b, ()), ()) K hx => by
 obtain ⟨⟨h1, h2⟩, hK⟩ := hx
 show xfn2 Tryd.prog { l2 := [(30, 0, lc30)] } 5 30 fcTix ((w, d0, ts, es, b, ()), ()) K
 rw [v30F]
 simp only [req_iff, decide_eq_true_eq, Nat.zero_add, seg_self, Nat.le_refl, true_and]
 exact ⟨⟨Int.le_refl (0 : Int), Int.natCast_nonneg _, h1, rfl, h2⟩, hK _ rfl⟩
theorem ok38 : F2Ok Tryd.prog 38 fcEvs := fn2_of (n := 5) ((good2_nil _).addF2 ok78) fun ((w, d0, ts, es, b, ()), ()) K hx => by
 obtain ⟨h1, hK⟩ := hx
 show xfn2 Tryd.prog { f2 := [(78, fcClE)] } 5 38 fcEvs ((w, d0, ts, es, b, ()), ()) K
 rw [v38F]
 simp only [req_iff, decide_eq_true_eq, Nat.zero_add, seg_self, Nat.le_refl, true_and]
 exact ⟨h1, hK _ rfl⟩
end Go.P3
