/- Rolls: comparisons, a roll after calls, TicketRefuses: the code keeps its contracts. No conditions. -/
import Derived.Test.YtcpdcpfbgmiaoaaDoorRollN
import Derived.Test.YtcpdcpfbgmiaoaaDoorRollK
import Derived.Test.YtcpdcpfbgmiaoaaDoorCodesP
set_option linter.constructorNameAsVariable false
set_option linter.unusedVariables false
set_option linter.unusedSimpArgs false
set_option maxRecDepth 100000
set_option maxHeartbeats 4000000
namespace Go.P3
open Go.Lom Go.Proofs Go

theorem h37L (a : List Ev) (i : Int) (Q : AX → St → Prop) (hl : a.length ≤ 1000) (h0 : 0 ≤ i) (h1 : i ≤ a.length) (hQ : Q (.exit 0) (stS 0 .nil ())) : xloop2 Tryd.prog {} 5 37 0 lc37 exB4 (fun (a, _, i, _) => mL a i) (a, a, i, ()) Q := by
  rw [v37L]
  simp only [fork_iff, req_iff, decide_eq_true_eq, decide_eq_false_iff_not, beq_self_eq_true, Bool.and_self, Bool.not_true, Bool.false_eq_true, false_imp_iff, true_and, true_imp_iff, Bool.and_true]
  refine ⟨fun hi => ⟨⟨h0, hi⟩, ⟨h0, hi⟩, inR_i64.2 (by omega), mL_lt hi, ?_⟩, fun _ => hQ⟩
  first
    | exact ⟨⟨rfl, hl, show (0 : Int) ≤ i + 1 by omega, show i + 1 ≤ (a.length : Int) by omega⟩, hQ⟩
    | exact ⟨⟨hl, show (0 : Int) ≤ i + 1 by omega, show i + 1 ≤ (a.length : Int) by omega⟩, hQ⟩
theorem ok37L : Lp2Ok Tryd.prog 37 0 lc37 := lp2_of (n := 5) (ex := exB4) (m := fun (a, _, i, _) => mL a i) (good2_nil _) fun (a, b, i, ()) Q hx => by
  obtain ⟨⟨g1, g2, g3, g4⟩, hQ⟩ := hx
  have g1 : a = b := g1
  subst g1
  exact h37L a i Q g2 g3 g4 hQ
theorem ok37 : FnOk Tryd.prog 37 fcSameE := fn1_of (n := 5) ((good2_nil _).addL2 ok37L) fun (a, b, ()) K hx => by
  obtain ⟨⟨g1, g2⟩, hK⟩ := hx
  have g1 : a = b := g1
  subst g1
  show xfn1 Tryd.prog { l2 := [(37, 0, lc37)] } 5 37 fcSameE (a, a, ()) K
  rw [v37F]
  simp only [fork_iff, bne_self_eq_false, Bool.false_eq_true, false_imp_iff, true_and, true_imp_iff]
  exact ⟨⟨g2, Int.le_refl (0 : Int), Int.natCast_nonneg _⟩, hK⟩
theorem h36L (a : List Tk) (i : Int) (Q : AX → St → Prop) (hl : a.length ≤ 1000) (h0 : 0 ≤ i) (h1 : i ≤ a.length) (h2 : ∀ t ∈ a, t.2.2.2.1.length ≤ 100) (hQ : Q (.exit 0) (stS 0 .nil ())) : xloop2 Tryd.prog { f := [(20, fcSame)] } 5 36 0 lc36 exB4 (fun (a, _, i, _) => mL a i) (a, a, i, ()) Q := by
  rw [v36L]
  simp only [fork_iff, req_iff, decide_eq_true_eq, decide_eq_false_iff_not, bne_self_eq_false, beq_self_eq_true, Bool.not_true, Bool.false_eq_true, false_imp_iff, true_and, true_imp_iff, and_true]
  refine ⟨fun hi => ⟨⟨h0, hi⟩, ⟨h0, hi⟩, ?_⟩, fun _ => hQ⟩
  have hm : a.getD i.toNat T0 ∈ a := getC_mem (by omega)
  have hb := h2 _ hm
  refine ⟨Nat.le_trans hb (by decide), inR_i64.2 (by omega), mL_lt hi, ?_⟩
  first
    | exact ⟨⟨rfl, hl, show (0 : Int) ≤ i + 1 by omega, show i + 1 ≤ (a.length : Int) by omega, h2⟩, hQ⟩
    | exact ⟨⟨hl, show (0 : Int) ≤ i + 1 by omega, show i + 1 ≤ (a.length : Int) by omega, h2⟩, hQ⟩
theorem ok36L : Lp2Ok Tryd.prog 36 0 lc36 := lp2_of (n := 5) (ex := exB4) (m := fun (a, _, i, _) => mL a i) ((good2_nil _).addF ok20) fun (a, b, i, ()) Q hx => by
  obtain ⟨⟨g1, g2, g3, g4, g5⟩, hQ⟩ := hx
  have g1 : a = b := g1
  subst g1
  exact h36L a i Q g2 g3 g4 g5 hQ
theorem ok36 : FnOk Tryd.prog 36 fcSameT := fn1_of (n := 5) ((good2_nil _).addL2 ok36L) fun (a, b, ()) K hx => by
  obtain ⟨⟨g1, g2, g3⟩, hK⟩ := hx
  have g1 : a = b := g1
  subst g1
  show xfn1 Tryd.prog { l2 := [(36, 0, lc36)] } 5 36 fcSameT (a, a, ()) K
  rw [v36F]
  simp only [fork_iff, bne_self_eq_false, Bool.false_eq_true, false_imp_iff, true_and, true_imp_iff]
  exact ⟨⟨g2, Int.le_refl (0 : Int), Int.natCast_nonneg _, g3⟩, hK⟩

/-! a roll after calls -/
theorem fold_ok : ∀ (cs : List Cl) {s : RS}, okR s → okR (cs.foldl stepI s) ∧ (cs.foldl stepI s).1 = s.1 ∧ (cs.foldl stepI s).2.2.2.length ≤ s.2.2.2.length + cs.length
  | [], s, h => ⟨h, rfl, Nat.le_refl _⟩
  | c :: cs, s, h => by
    obtain ⟨h1, h2, h3⟩ := call_ok h c
    obtain ⟨g1, g2, g3⟩ := fold_ok cs (s := stepI s c) h1
    refine ⟨g1, g2.trans h2, Nat.le_trans g3 ?_⟩
    have h3 : (stepI s c).2.2.2.length ≤ s.2.2.2.length + 1 := h3
    rw [List.length_cons]; omega
theorem take_step {l : List Cl} {i : Int} (h0 : 0 ≤ i) (h1 : i < l.length) (h2 : i < 60) : (l.take 60).drop i.toNat = l.getD i.toNat C0 :: (l.take 60).drop (i + 1).toNat := by
  have hl : i < ((l.take 60).length : Int) := by rw [List.length_take]; omega
  rw [drop_step C0 h0 hl]
  congr 1
  rw [List.getD_eq_getElem?_getD, List.getD_eq_getElem?_getD, List.getElem?_take, if_pos (by omega)]
theorem take_end {l : List Cl} {i : Int} (h : ¬ i < l.length ∨ ¬ i < 60) : (l.take 60).drop i.toNat = [] := List.drop_eq_nil_of_le (by rw [List.length_take]; omega)
theorem h41L (w d0 : Int) (ts : List Tk) (es : List Ev) (l : List Cl) (i : Int) (Q : AX → St → Prop) (hok : okR (w, d0, ts, es)) (hl : okLs l) (h0 : 0 ≤ i) (h1 : i ≤ 60) (h2 : (es.length : Int) ≤ i)
    (hQ : ∀ (w1 d1 : Int) (ts1 : List Tk) (es1 : List Ev), (w1, d1, ts1, es1) = ((l.take 60).drop i.toNat).foldl stepI (w, d0, ts, es) → Q (.exit 0) (stS 3 sh41e ((w1, d1, ts1, es1, true, ()), ()))) :
    xloop2 Tryd.prog { f2 := [(31, fcCall)] } 5 41 0 lc41 (fun _ => some (sh41e, 3)) (fun (_, _, i, _) => (60 - i).toNat) (l, (w, d0, ts, es, true, ()), i, ()) Q := by
  rw [v41L]
  simp only [fork_iff, req_iff, decide_eq_true_eq, decide_eq_false_iff_not, Nat.zero_add, seg_self, Nat.le_refl, true_and]
  refine ⟨fun hi => ⟨fun h60 => ⟨⟨h0, hi⟩, ?_⟩, fun h60 => hQ _ _ _ _ (by rw [take_end (.inr h60)]; rfl)⟩, fun hi => hQ _ _ _ _ (by rw [take_end (.inl hi)]; rfl)⟩
  have hc : l.getD i.toNat C0 ∈ l := getC_mem (by omega)
  have hcl := hl.all _ hc
  rw [take_step h0 hi h60] at hQ
  rw [show (0, 0, [], [], [], [], []) = C0 from rfl]
  generalize l.getD i.toNat C0 = cl at *
  refine ⟨⟨hok, fits100 (by omega), hcl⟩, fun w1 d1 ts1 es1 tx l2 e1 hcall => ⟨inR_i64.2 (by omega), ?_, ?_, ?_⟩⟩
  · show ((60 : Int) - (i + 1)).toNat < ((60 : Int) - i).toNat
    omega
  · obtain ⟨g1, g2, g3⟩ := call_ok hok cl
    rw [← hcall] at g1 g3
    have g3 : es1.length ≤ es.length + 1 := g3
    first
      | exact ⟨g1, hl, show (0 : Int) ≤ i + 1 by omega, show i + 1 ≤ (60 : Int) by omega, show (es1.length : Int) ≤ i + 1 by omega⟩
      | exact ⟨g1, rfl, hl, show (0 : Int) ≤ i + 1 by omega, show i + 1 ≤ (60 : Int) by omega, show (es1.length : Int) ≤ i + 1 by omega⟩
  · intro w2 d2 ts2 es2 he
    refine hQ w2 d2 ts2 es2 ?_
    rw [List.foldl_cons, show stepI (w, d0, ts, es) cl = (w1, d1, ts1, es1) from by unfold stepI; rw [← hcall]]
    exact he
theorem ok41L : Lp2Ok Tryd.prog 41 0 lc41 := lp2_of (n := 5) (ex := fun _ => some (sh41e, 3)) (m := fun (_, _, i, _) => (60 - i).toNat) ((good2_nil _).addF2 ok31) fun (l, (w, d0, ts, es, b, ()), i, ()) Q hx => by
  obtain ⟨⟨g1, g2, g3, g4, g5, g6⟩, hQ⟩ := hx
  have g2 : b = true := g2
  subst g2
  exact h41L w d0 ts es l i Q g1 g3 g4 g5 g6 hQ
theorem ok41 : F2Ok Tryd.prog 41 fcAfter := fn2_of (n := 5) (((good2_nil _).addL2 ok41L).addF ok49) fun (wt, l, ()) K hx => by
  obtain ⟨⟨g1, g2, g3⟩, hK⟩ := hx
  have g1 : (0 : Int) ≤ wt := g1
  have g2 : wt ≤ (1000 : Int) := g2
  show xfn2 Tryd.prog { f := [(49, fcWith)], l2 := [(41, 0, lc41)] } 5 41 fcAfter (wt, l, ()) K
  rw [v41F]
  simp only [fork_iff, req_iff, decide_eq_true_eq, Bool.not_eq_true', Bool.not_eq_false', decide_eq_false_iff_not, Nat.zero_add, seg_self, Nat.le_refl, true_and, List.drop_zero]
  exact ⟨fun h => absurd ⟨g1, g2⟩ h, fun h => ⟨⟨new_ok h, g3, Int.le_refl (0 : Int), show (0 : Int) ≤ 60 by decide, Int.le_refl 0⟩, fun w1 d1 ts1 es1 he => hK _ _ _ _ he⟩⟩

/-! TicketRefuses -/
theorem fn1_ex {P : Program} {k : Nat} {c : FC} (h : ∀ x K, c.spec x K → ∃ T n, Good2 P T ∧ xfn1 P T n k c x K) : FnOk P k c := fun x K hx => by
  obtain ⟨T, n, hT, h⟩ := h x K hx
  exact pc_of (P := P) (k := k) (spec := fun x' K' => xfn1 P T n k c x' K') (xcall_ok hT.tab n) (fun fn fb hf hb => hT.tab.lp k fn fb hf hb) (fun x' K' hx' => by unfold xfn1 at hx'; exact hx') x K h
theorem after_fact {wt : Int} (h : 0 ≤ wt ∧ wt ≤ 1000) {l : List Cl} {r : RS} (hr : r = (l.take 60).foldl stepI (wt, 0, [], [])) : okR r ∧ r.1 = wt ∧ r.2.2.2.length ≤ 60 := by
  obtain ⟨h1, h2, h3⟩ := fold_ok (l.take 60) (new_ok h)
  rw [← hr] at h1 h2 h3
  refine ⟨h1, h2, Nat.le_trans h3 ?_⟩
  rw [List.length_take]; simp only [List.length_nil]; omega
theorem okRefuses (hw : FnOk Tryd.prog 21 fcWorks) : FnOk Tryd.prog 10 fcRef := fn1_ex fun (wt, l, c, ()) K hx => by
  obtain ⟨⟨hl, hc⟩, hK⟩ := hx
  by_cases hwt : 0 ≤ (show Int from wt) ∧ (show Int from wt) ≤ 1000
  rotate_left
  · refine ⟨{ f := [(49, fcWith), (21, fcWorks)] }, 5, ((good2_nil _).addF hw).addF ok49, ?_⟩
    rw [v10N]
    simp only [fork_iff, Bool.not_eq_true', Bool.not_eq_false', decide_eq_true_eq, decide_eq_false_iff_not]
    exact ⟨fun _ => ⟨fun _ => hK, fun h => absurd h hwt⟩, fun h => absurd h hwt⟩
  refine ⟨{ f := [(37, fcSameE), (36, fcSameT), (28, fcFrom), (21, fcWorks)], f2 := [(41, fcAfter), (31, fcCall), (30, fcTix), (38, fcEvs)] }, 5, (((((((((good2_nil _).addF2 ok38).addF2 ok30).addF2 ok31).addF2 ok41)).addF hw).addF ok28).addF ok36).addF ok37, ?_⟩
  rw [v10F]
  simp only [fork_iff, req_iff, decide_eq_true_eq, decide_eq_false_iff_not, beq_iff_eq, beq_eq_false_iff_ne, ne_eq, Nat.zero_add, seg_self, Nat.le_refl, true_and, List.drop_zero]
  refine ⟨⟨hwt.1, hwt.2, hl⟩, fun w1 d1 ts1 es1 hr1 => ⟨⟨hwt.1, hwt.2, hl⟩, fun w2 d2 ts2 es2 hr2 => ?_⟩⟩
  obtain ⟨a1, a2, a3⟩ := after_fact hwt hr1
  have e12 : (w1, d1, ts1, es1) = (w2, d2, ts2, es2) := hr1.trans hr2.symm
  simp only [Prod.mk.injEq] at e12
  obtain ⟨rfl, rfl, rfl, rfl⟩ := e12
  have a3 : es1.length ≤ 60 := a3
  refine ⟨⟨a1, fits100 (by omega), hc⟩, fun w3 d3 ts3 es3 tx l3 e hcall => ?_⟩
  obtain ⟨b1, b2, b3⟩ := call_ok a1 c
  obtain ⟨c1, c2⟩ := call_leaves a1 c
  rw [← hcall] at b1 b3 c1 c2
  have b3 : es3.length ≤ es1.length + 1 := b3
  have m1 := num_mem a1
  have m3 := num_mem b1
  have n1 := a1.len
  have n3 := b1.len
  simp only at m1 m3 n1 n3
  have same : (w3, d3, ts3, es3) = (w1, d1, ts1, es1) → es3 = es1 ∧ ts3 = ts1 := fun e => by
    simp only [Prod.mk.injEq] at e; exact ⟨e.2.2.2, e.2.2.1⟩
  have tail : (w3, d3, ts3, es3) = (w1, d1, ts1, es1) → es3 = es1 ∧ es3.length ≤ 1000 ∧ (ts3.length ≤ 256 ∧ ∀ t ∈ ts3, t.2.2.2.1.length ≤ 100) ∧ (ts1.length ≤ 256 ∧ ∀ t ∈ ts1, t.2.2.2.1.length ≤ 100) ∧ ts3 = ts1 := fun e =>
    ⟨(same e).1, by omega, ⟨n3, fun t ht => Nat.le_trans (m3 t ht).2 (by decide)⟩, ⟨n1, fun t ht => Nat.le_trans (m1 t ht).2 (by decide)⟩, (same e).2⟩
  have fin : (w3, d3, ts3, es3) = (w1, d1, ts1, es1) → ∀ le : List Ev, le = es3 → ∀ le1 : List Ev, le1 = es1 → (le = le1 ∧ le.length ≤ 1000) ∧ (ts3.length ≤ 256 ∧ ∀ t ∈ ts3, t.2.2.2.1.length ≤ 100) ∧ ∀ lt : List Tk, lt = ts3 → (ts1.length ≤ 256 ∧ ∀ t ∈ ts1, t.2.2.2.1.length ≤ 100) ∧ ∀ lt1 : List Tk, lt1 = ts1 → (lt = lt1 ∧ lt.length ≤ 1000 ∧ ∀ t ∈ lt, t.2.2.2.1.length ≤ 100) ∧ K (true, ()) := fun e le h1 le1 h2 => by
    obtain ⟨t1, t2, t3, t4, t5⟩ := tail e
    subst h1 h2
    exact ⟨⟨t1, t2⟩, t3, fun lt hlt => ⟨t4, fun lt1 hlt1 => ⟨⟨by rw [hlt, hlt1, t5], by rw [hlt]; omega, by rw [hlt]; exact t3.2⟩, hK⟩⟩⟩
  refine ⟨fun hk => ⟨by omega, fun le hle => ⟨by omega, fun le1 hle1 => ⟨fun he => ?_, fun he => ?_⟩⟩⟩, fun hk => ⟨by omega, fun le hle => ⟨by omega, fun le1 hle1 => ?_⟩⟩⟩
  · obtain ⟨n, la, ma, q1, q2, q3⟩ := (c1 hk).note he
    have q1 : es3 = es1 ++ [(c.1, c.2.1, n, la, ma)] := q1
    subst hle hle1
    have ql : le.length = le1.length + 1 := by rw [q1, List.length_append]; rfl
    have qt : le.take le1.length = le1 := by rw [q1, List.take_left]
    have qg : le.getD le1.length E0 = (c.1, c.2.1, n, la, ma) := by rw [q1, List.getD_eq_getElem?_getD, List.getElem?_append_right (Nat.le_refl _), Nat.sub_self]; rfl
    refine ⟨inR_i64.2 (by omega), fun _ => ⟨⟨by omega, by omega⟩, ⟨qt, by rw [qt]; omega⟩, ⟨by omega, by omega⟩, ?_⟩, fun h => absurd (by omega) h⟩
    rw [show (0, 0, 0, 0, 0) = E0 from rfl, qg]
    exact ⟨fun _ => ⟨⟨by omega, by omega⟩, fun _ => hK, fun h => absurd rfl h⟩, fun h => absurd rfl h⟩
  · have hs := (c1 hk).same he
    exact fin hs le hle le1 hle1
  · exact fin (c2 hk) le hle le1 hle1
end Go.P3
