/- TicketOnce: the code keeps its contracts. No conditions. -/
import Derived.Test.YtcpdcpfbgmiaoaaDoorOnceM
import Derived.Test.YtcpdcpfbgmiaoaaDoorRefQ
set_option linter.constructorNameAsVariable false
set_option linter.unusedVariables false
set_option linter.unusedSimpArgs false
set_option maxRecDepth 100000
set_option maxHeartbeats 4000000
namespace Go.P3
open Go.Lom Go.Proofs Go

theorem h40A (r : rolV) (o : List Tx) (t : List Tk) (x : List Ev) (i : Int) (Q : AX → St → Prop) (hs : sortedE x) (hl : x.length ≤ 1000) (h1 : 1 ≤ i) (hQ : Q (.exit 0) (stS 5 sh40x (r, o, t, ()))) :
    xloop2 Tryd.prog {} 5 40 0 lc40a (fun _ => some (sh40x, 5)) (fun (_, _, _, x, i, _) => mL x i) (r, o, t, x, i, ()) Q := by
  rw [v40A]
  simp only [fork_iff, req_iff, decide_eq_true_eq, decide_eq_false_iff_not, Nat.zero_add, seg_self, Nat.le_refl, true_and]
  refine ⟨fun hi => ⟨⟨by omega, hi⟩, inR_i64.2 (by omega), ⟨by omega, by omega⟩, fun hlt => ?_, fun hge => ⟨inR_i64.2 (by omega), mL_lt hi, ⟨hs, hl, show (1 : Int) ≤ i + 1 by omega⟩, hQ⟩⟩, fun hi => hQ⟩
  exfalso
  have h := hs (i - 1).toNat (by omega)
  rw [show (i - 1).toNat + 1 = i.toNat by omega] at h
  exact absurd hlt (Int.not_lt.2 h)
theorem ok40A : Lp2Ok Tryd.prog 40 0 lc40a := lp2_of (n := 5) (ex := fun _ => some (sh40x, 5)) (m := fun (_, _, _, x, i, _) => mL x i) (good2_nil _) fun (r, o, t, x, i, ()) Q hx => by
  obtain ⟨⟨g1, g2, g3⟩, hQ⟩ := hx
  exact h40A r o t x i Q g1 g2 g3 hQ
theorem pcs_drop {t : List Tk} {k : Int} (h0 : 0 ≤ k) (h1 : k < t.length) : (pcs t).drop k.toNat = ((t.getD k.toNat T0).2.1, (t.getD k.toNat T0).2.2.2.2.2) :: (pcs t).drop (k + 1).toNat := by
  unfold pcs
  rw [← List.map_drop, drop_step T0 h0 h1, List.map_cons, List.map_drop]
theorem h40C (r : rolV) (o : List Tx) (t : List Tk) (i m k : Int) (dv : Bool) (Q : AX → St → Prop) (i0 : 0 ≤ i) (i1 : i < t.length) (hl : t.length ≤ 256) (k0 : 0 ≤ k) (k1 : k ≤ t.length) (m0 : 0 ≤ m) (m1 : m ≤ k)
    (hQ : ∀ (m' : Int) (d' : Bool), m' = m + ((t.drop k.toNat).countP fun y => named (t.getD i.toNat T0).2.1 y && !(decide (3 ≤ y.2.2.1 ∧ y.2.2.1 ≤ 5)) : Nat) → d' = (dv || ((pcs t).drop k.toNat).any (divOne (pcs t) (t.getD i.toNat T0).2.1)) → Q (.exit 4) (stS 5 sh40cx (r, o, t, i, m', d', ()))) :
    xloop2 Tryd.prog { f := [(28, fcFrom)] } 5 40 2 lc40c (fun _ => some (sh40cx, 5)) (fun (_, _, t, _, _, _, k, _) => mL t k) (r, o, t, i, m, dv, k, ()) Q := by
  rw [v40C]
  simp only [fork_iff, req_iff, decide_eq_true_eq, decide_eq_false_iff_not, beq_iff_eq, beq_eq_false_iff_ne, ne_eq, Nat.zero_add, seg_self, Nat.le_refl, true_and, Bool.not_eq_true', Bool.not_eq_false', gt_iff_lt]
  refine ⟨fun hk => ?_, fun hk => hQ _ _ (by rw [drop_end hk]; simp) (by rw [List.drop_eq_nil_of_le (by rw [pcs_len]; omega)]; simp)⟩
  rw [drop_step T0 k0 hk, pcs_drop k0 hk] at hQ
  have hz : 0 < (t.getD k.toNat T0).2.2.2.2.2 → (t.getD k.toNat T0).2.2.2.2.2 ≤ (t.length : Int) → nameAt' (pcs t) (t.getD k.toNat T0).2.2.2.2.2 = (t.getD ((t.getD k.toNat T0).2.2.2.2.2 - 1).toNat T0).2.1 := fun a b => name_pcs (by omega) b
  simp only [List.countP_cons, List.any_cons] at hQ
  rw [show (0, [], 0, [], 0, 0) = T0 from rfl]
  generalize ht : t.getD k.toNat T0 = y at *
  generalize hp : (t.getD i.toNat T0).2.1 = p at *
  obtain ⟨y1, y2, y3, y4, y5, y6⟩ := y
  dsimp only at hz hQ ⊢
  generalize (t.getD (y6 - 1).toNat T0).2.1 = z at *
  have go : ∀ (m2 : Int) (d2 : Bool), m2 = m + (if (named p ((y1, y2, y3, y4, y5, y6) : Tk) && !(decide (3 ≤ y3 ∧ y3 ≤ 5))) = true then 1 else 0) → d2 = (dv || divOne (pcs t) p (y2, y6)) →
      inR .i64 (k + 1) = true ∧ mL t (k + 1) < mL t k ∧ LC2.spec lc40c (r, o, t, i, m2, d2, k + 1, ()) Q := fun m2 d2 e1 e2 =>
    ⟨inR_i64.2 (by omega), mL_lt hk, ⟨⟨i0, i1, hl, show (0 : Int) ≤ k + 1 by omega, show k + 1 ≤ (t.length : Int) by omega, show (0 : Int) ≤ m2 by rw [e1]; split <;> omega, show m2 ≤ k + 1 by rw [e1]; split <;> omega⟩, fun m' d' a b => by
      rw [hp] at a b
      exact hQ m' d' (by rw [a, e1]; push_cast; split <;> simp <;> omega) (by rw [b, e2, Bool.or_assoc])⟩⟩
  have hnm : named p ((y1, y2, y3, y4, y5, y6) : Tk) = decide (y2 = p) := rfl
  rw [hnm] at go
  have go2 : ∀ (m2 : Int) (d2 : Bool), m2 = m + (if (decide (y2 = p) && !(decide (3 ≤ y3 ∧ y3 ≤ 5))) = true then 1 else 0) → d2 = (dv || (decide (0 < y6) && decide (y6 ≤ (t.length : Int)) && decide (nameAt' (pcs t) y6 = p) && !decide (y2 = p))) → _ := fun m2 d2 e1 e2 => (fun g => (⟨g.1, g.2.1, g.2.2.1, g.2.2.2⟩ : _ ∧ _ ∧ _ ∧ _)) (go m2 d2 e1 (by rw [e2]; unfold divOne; rw [pcs_len]))
  simp only [hp] at go2
  have im : inR .i64 (m + 1) = true := inR_i64.2 (by omega)
  repeat' (first
    | exact go2 _ _ (by simp [*]) (by simp [*])
    | refine And.intro ?_ ?_
    | intro _
    | exact im
    | omega
    | exact inR_i64.2 (by omega))
theorem ok40C : Lp2Ok Tryd.prog 40 2 lc40c := lp2_of (n := 5) (ex := fun _ => some (sh40cx, 5)) (m := fun (_, _, t, _, _, _, k, _) => mL t k) ((good2_nil _).addF ok28) fun (r, o, t, i, m, dv, k, ()) Q hx => by
  obtain ⟨⟨g1, g2, g3, g4, g5, g6, g7⟩, hQ⟩ := hx
  exact h40C r o t i m k dv Q g1 g2 g3 g4 g5 g6 g7 hQ
theorem st_mem {s : RS} (h : okR s) : ∀ t ∈ s.2.2.1, 1 ≤ t.2.2.1 ∧ t.2.2.1 ≤ 5 := fun t ht => by
  obtain ⟨i, hi⟩ := List.mem_iff_getElem?.1 ht
  exact (h.tk i t hi).st
theorem cnt_live {ts : List Tk} (h : ∀ t ∈ ts, 1 ≤ t.2.2.1 ∧ t.2.2.1 ≤ 5) (p : Tx) : ts.countP (fun y => named p y && !(decide (3 ≤ y.2.2.1 ∧ y.2.2.1 ≤ 5))) = manyI ts p := by
  unfold manyI
  refine List.countP_congr fun y hy => ?_
  have hb := h y hy
  have : (!(decide (3 ≤ y.2.2.1 ∧ y.2.2.1 ≤ 5))) = liveB y := by
    unfold liveB
    rw [← decide_not]
    exact decide_eq_decide.2 (by omega)
  rw [this]
theorem firstIx_iff {l : List Tx} {p : Tx} {r : Int} (hr : r = firstIx (fun t => decide (t = p)) l 0) : (0 ≤ r ↔ l.any (eqT p) = true) := by
  have he : (l.any fun t => decide (t = p)) = l.any (eqT p) := by
    congr 1; funext t; unfold eqT; exact decide_eq_decide.2 eq_comm
  obtain ⟨h1, h2⟩ := firstIx_ge (fun t => decide (t = p)) l 0 (by omega)
  rw [he, ← hr] at h1 h2
  cases ha : l.any (eqT p) with
  | true => have := h2 ha; simp [this]
  | false => have := h1 ha; simp; omega
theorem live_many {s : RS} {p : Tx} : (manyI s.2.2.1 p = 0 → liveI s p = ([], 4)) ∧ (manyI s.2.2.1 p ≠ 0 → (liveI s p).2 = 0) := by
  refine ⟨fun h => ?_, fun h => ?_⟩
  · unfold liveI
    refine live_none ?_
    rw [List.any_eq_false]
    intro t ht e
    unfold manyI at h
    rw [List.countP_eq_zero] at h
    exact h t ht e
  · unfold liveI
    refine live_some ?_
    unfold manyI at h
    have := List.countP_pos_iff.1 (Nat.pos_of_ne_zero h)
    obtain ⟨t, ht, e⟩ := this
    exact List.any_eq_true.2 ⟨t, ht, e⟩
theorem h40B (w d0 : Int) (ts : List Tk) (es : List Ev) (o : List Tx) (i : Int) (Q : AX → St → Prop) (hok : okR (w, d0, ts, es)) (ho : o.length ≤ 1000) (i0 : 0 ≤ i) (hc : ∀ j : Nat, j < ts.length → manyI ts (ts.getD j T0).2.1 = wantI ts o (ts.getD j T0).2.1) (hQ : Q (.exit 2) (stS 5 .nil ())) :
    xloop2 Tryd.prog { f := [(39, fcSeekT)], l2 := [(40, 2, lc40c)], f2 := [(48, fcLive)] } 5 40 1 lc40b (fun _ => some (.nil, 5)) (fun (_, _, t, i, _) => mL t i) ((w, d0, ts, es, true, ()), o, ts, i, ()) Q := by
  rw [v40B]
  have hlen := hok.len
  simp only at hlen
  simp only [fork_iff, req_iff, decide_eq_true_eq, decide_eq_false_iff_not, beq_iff_eq, beq_eq_false_iff_ne, bne_iff_ne, bne_eq_false_iff_eq, ne_eq, Nat.zero_add, seg_self, Nat.le_refl, true_and, Bool.not_eq_true', Bool.not_eq_false', List.drop_zero, Bool.false_or, Int.zero_add]
  refine ⟨fun hi => ⟨⟨i0, hi, hlen, Int.le_refl (0 : Int), Int.natCast_nonneg _, Int.le_refl (0 : Int), Int.le_refl 0⟩, fun m' d' hm hd => ?_⟩, fun _ => hQ⟩
  have hcj := hc i.toNat (by omega)
  rw [show (0, [], 0, [], 0, 0) = T0 from rfl]
  rw [cnt_live (st_mem hok)] at hm
  generalize (ts.getD i.toNat T0).2.1 = p at *
  have hd' : d' = divB (pcs ts) p := hd
  obtain ⟨l1, l2⟩ := live_many (s := (w, d0, ts, es)) (p := p)
  simp only at l1 l2
  have go : inR .i64 (i + 1) = true := inR_i64.2 (by omega)
  have gm : mL ts (i + 1) < mL ts i := mL_lt hi
  have g0 : (0 : Int) ≤ i + 1 := by omega
  have ob : o.length ≤ 9223372036854775807 := Nat.le_trans ho (by decide)
  unfold wantI at hcj
  refine ⟨fun hdt => ?_, fun hdf => ?_⟩
  · rw [← hd', hdt, Bool.true_or, if_pos rfl] at hcj
    rw [hcj] at hm
    subst hm
    refine ⟨⟨i0, hi⟩, ⟨hok, trivial⟩, fun s e hse => ?_⟩
    rw [l1 hcj] at hse
    obtain ⟨rfl, rfl⟩ := Prod.mk.inj hse
    repeat' (first
      | refine And.intro ?_ ?_
      | (intro hb; exact absurd (by decide) hb)
      | (intro hb; exact absurd hb (by decide))
      | intro _
      | exact go
      | exact gm
      | exact hok
      | exact ho
      | exact g0
      | exact hc
      | exact hc _ (by assumption)
      | exact hQ
      | trivial
      | omega)
  · refine ⟨⟨i0, hi⟩, ob, fun r hr => ?_⟩
    have hri := firstIx_iff hr
    refine ⟨fun hr0 => ?_, fun hr0 => ?_⟩
    · rw [hri.1 hr0, Bool.or_true, if_pos rfl] at hcj
      rw [hcj] at hm
      subst hm
      refine ⟨⟨i0, hi⟩, ⟨hok, trivial⟩, fun s e hse => ?_⟩
      rw [l1 hcj] at hse
      obtain ⟨rfl, rfl⟩ := Prod.mk.inj hse
      repeat' (first
        | refine And.intro ?_ ?_
        | (intro hb; exact absurd (by decide) hb)
        | (intro hb; exact absurd hb (by decide))
        | intro _
        | exact go
        | exact gm
        | exact hok
        | exact ho
        | exact g0
        | exact hc
        | exact hc _ (by assumption)
        | exact hQ
        | trivial
        | omega)
    · have hof : o.any (eqT p) = false := by
        cases h : o.any (eqT p) with
        | true => exact absurd (hri.2 h) hr0
        | false => rfl
      rw [← hd', hdf, hof, Bool.false_or, if_neg (by decide)] at hcj
      rw [hcj] at hm
      subst hm
      refine ⟨⟨i0, hi⟩, ⟨hok, trivial⟩, fun s e hse => ?_⟩
      have he : e = 0 := by
        have := l2 (by rw [hcj]; decide)
        rw [← hse] at this; exact this
      subst he
      repeat' (first
        | refine And.intro ?_ ?_
        | (intro hb; exact absurd (by decide) hb)
        | (intro hb; exact absurd hb (by decide))
        | intro _
        | exact go
        | exact gm
        | exact hok
        | exact ho
        | exact g0
        | exact hc
        | exact hc _ (by assumption)
        | exact hQ
        | trivial
        | omega)
theorem ok40B : Lp2Ok Tryd.prog 40 1 lc40b := lp2_of (n := 5) (ex := fun _ => some (.nil, 5)) (m := fun (_, _, t, i, _) => mL t i) ((((good2_nil _).addF2 ok48).addL2 ok40C).addF ok39) fun ((w, d0, ts, es, b, ()), o, t, i, ()) Q hx => by
  obtain ⟨⟨g1, g2, g3, g4, g5, g6⟩, hQ⟩ := hx
  have g2 : b = true := g2
  have g3 : t = ts := g3
  subst g2 g3
  exact h40B w d0 t es o i Q g1 g4 g5 g6 hQ
theorem ok40 : F2Ok Tryd.prog 40 fcSing := fn2_of (n := 5) (((((good2_nil _).addL2 ok40B).addL2 ok40A).addF2 ok38).addF2 ok30) fun ((w, d0, ts, es, rdy, ()), o, ()) K hx => by
  obtain ⟨⟨g1, g2, g3, g4, g5, g6⟩, hK⟩ := hx
  have g2 : rdy = true := g2
  subst g2
  have hm := num_mem g1
  have hlen := g1.len
  simp only at hm hlen
  show xfn2 Tryd.prog { f2 := [(30, fcTix), (38, fcEvs)], l2 := [(40, 0, lc40a), (40, 1, lc40b)] } 5 40 fcSing ((w, d0, ts, es, true, ()), o, ()) K
  rw [v40F]
  simp only [req_iff, decide_eq_true_eq, Nat.zero_add, seg_self, Nat.le_refl, true_and]
  refine ⟨⟨hlen, fun t ht => Nat.le_trans (hm t ht).2 (by decide)⟩, fun lt hlt => ⟨g3, fun le hle => ?_⟩⟩
  subst hlt hle
  exact ⟨⟨g5, g3, Int.le_refl (1 : Int)⟩, ⟨g1, rfl, g4, Int.le_refl (0 : Int), g6⟩, hK⟩
end Go.P3
