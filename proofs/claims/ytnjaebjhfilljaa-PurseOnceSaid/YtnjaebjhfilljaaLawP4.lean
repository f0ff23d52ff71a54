/- The theorem of the purse: the code keeps its contracts. No conditions. -/
import Derived.Test.YtnjaebjhfilljaaLawP2
set_option linter.constructorNameAsVariable false
set_option linter.unusedVariables false
set_option linter.unusedSimpArgs false
set_option maxRecDepth 100000
set_option maxHeartbeats 4000000
namespace Go.P7
open Go.Lom Go.Proofs Go

theorem h32L (a b : List Su) (t d i : Int) (Q : AX → St → Prop) (g1 : stepsS a b t d) (h0 : 0 ≤ i) (h1 : i ≤ a.length) (hQ : Q (.exit 0) (stS 0 .nil ())) : xloop2 Try.prog {} 5 32 0 lc32 (fun _ => some (.nil, 0)) (fun (a, _, _, _, i, _) => mL a i) (a, b, t, d, i, ()) Q := by
  rw [v32L]
  have hlen := g1.len
  have hterm := g1.term
  simp only [fork_iff, req_iff, decide_eq_true_eq, decide_eq_false_iff_not, true_and]
  refine ⟨fun hi => ⟨⟨h0, hi⟩, ⟨h0, by omega⟩, ?_⟩, fun _ => hQ⟩
  have hst := g1.all i.toNat (by omega)
  have hdy := g1.days _ (getSu_mem (show i.toNat < a.length by omega))
  have go : inR .i64 (i + 1) = true ∧ mL a (i + 1) < mL a i ∧ LC2.spec lc32 (a, b, t, d, i + 1, ()) Q := ⟨inR_i64.2 (by omega), mL_lt hi, ⟨⟨g1, show (0 : Int) ≤ i + 1 by omega, show i + 1 ≤ (a.length : Int) by omega⟩, hQ⟩⟩
  obtain ⟨go1, go2, go3⟩ := go
  have go3 : (stepsS a b t d ∧ 0 ≤ i + 1 ∧ i + 1 ≤ (a.length : Int)) ∧ Q (.exit 0) (stS 0 .nil ()) := go3
  rw [show (([], 0, 0, 0, 0) : Su) = U0 from rfl]
  generalize a.getD i.toNat U0 = x at *
  generalize b.getD i.toNat U0 = y at *
  obtain ⟨x1, x2, x3, x4, x5⟩ := x
  simp only at hdy
  have ir : inR .i64 (x3 + t) = true := inR_i64.2 (by omega)
  rcases hst with rfl | ⟨hx, ⟨rfl, hd⟩ | ⟨rfl, hd⟩⟩
  · simp only [beq_self_eq_true, Bool.and_self, Bool.true_eq_false, Bool.false_eq_true, false_imp_iff, true_imp_iff, and_true, true_and]
    exact ⟨go1, go2, go3⟩
  · simp only at hx
    subst hx
    simp only at hd
    simp only [overI, beq_self_eq_true, Bool.and_self, Bool.true_and, Bool.and_true, Bool.true_eq_false, Bool.false_eq_true, false_imp_iff, true_imp_iff, and_true, true_and, ir, hd, decide_true]
    have n12 : ((1 : Int) == 2) = false := by decide
    have n23 : ((2 : Int) == 3) = false := by decide
    have n11 : ((1 : Int) != 1) = false := by decide
    have ndd : (d != d) = false := by simp
    simp only [n12, n23, n11, ndd, Bool.false_and, Bool.not_true, Bool.false_eq_true, false_imp_iff, true_imp_iff, true_and, Bool.true_eq_false, and_true]
    exact ⟨go1, go2, go3⟩
  · simp only at hx
    subst hx
    simp only at hd
    simp only [overI, beq_self_eq_true, Bool.and_self, Bool.true_and, Bool.and_true, Bool.true_eq_false, Bool.false_eq_true, false_imp_iff, true_imp_iff, and_true, true_and, ir, hd, decide_true]
    have n12 : ((1 : Int) == 3) = false := by decide
    have n23 : ((3 : Int) == 2) = false := by decide
    have n11 : ((1 : Int) != 1) = false := by decide
    have ndd : (d != d) = false := by simp
    have hge : decide (d ≥ x3 + t) = true := decide_eq_true hd
    simp only [n12, n23, n11, ndd, hge, Bool.false_and, Bool.not_true, Bool.not_false, Bool.false_eq_true, false_imp_iff, true_imp_iff, true_and, Bool.true_eq_false, and_true]
    exact ⟨go1, go2, go3⟩
theorem ok32L : Lp2Ok Try.prog 32 0 lc32 := lp2_of (n := 5) (ex := fun _ => some (.nil, 0)) (m := fun (a, _, _, _, i, _) => mL a i) (good2_nil _) fun (a, b, t, d, i, ()) Q hx => h32L a b t d i Q hx.1.1 hx.1.2.1 hx.1.2.2 hx.2
theorem ok32 : FnOk Try.prog 32 fcSteady := fn1_of (n := 5) ((good2_nil _).addL2 ok32L) fun (a, b, t, d, ()) K hx => by
  obtain ⟨g1, hK⟩ := hx
  show xfn1 Try.prog { l2 := [(32, 0, lc32)] } 5 32 fcSteady (a, b, t, d, ()) K
  rw [v32F]
  exact ⟨⟨g1, Int.le_refl (0 : Int), Int.natCast_nonneg _⟩, hK⟩
theorem h10B (tm : Int) (l : List Ac) (ss : List Su) (ns : List Nt) (dy wf t : Int) (m : List (Tx × Int)) (b : Bool) (b0 b1 b2 b3 : Int) (bf : List Su) (i : Int) (os : List Po) (k : Int) (Q : AX → St → Prop) (h0 : 0 ≤ k) (h1 : k ≤ os.length) (hl : os.length ≤ 8) (hx : ∀ o ∈ os, 0 ≤ o.2.2 ∧ o.2.2 ≤ 67108864) (c0 : 0 ≤ b0) (c1 : b0 ≤ 68719476736 + k * 67108864)
    (hQ : ∀ r : Int, r = b0 + leftN (os.drop k.toNat) → Q (.exit 3) (stS 5 sh10 (tm, l, (ss, ns, dy, wf, t, m, b, ()), (r, b1, b2, b3, ()), bf, i, ()))) :
    xloop2 Try.prog {} 5 10 1 lc10b (fun _ => some (sh10, 5)) (fun (_, _, _, _, _, _, os, k, _) => mL os k) (tm, l, (ss, ns, dy, wf, t, m, b, ()), (b0, b1, b2, b3, ()), bf, i, os, k, ()) Q := by
  rw [v10B]
  simp only [fork_iff, req_iff, decide_eq_true_eq, decide_eq_false_iff_not, Nat.zero_add, seg_self, Nat.le_refl, true_and]
  refine ⟨fun hi => ⟨⟨h0, hi⟩, ?_⟩, fun hi => hQ _ (by rw [drop_end hi]; simp [leftN])⟩
  have hlt : k.toNat < os.length := by omega
  have hm := hx (os.getD k.toNat (0, [], 0)) (by rw [List.getD_eq_getElem?_getD, List.getElem?_eq_getElem hlt]; exact List.getElem_mem _)
  rw [drop_step (0, [], 0) h0 hi] at hQ
  unfold leftN at hQ
  rw [List.map_cons, List.sum_cons] at hQ
  generalize os.getD k.toNat (0, [], 0) = o at *
  exact ⟨inR_i64.2 (by omega), inR_i64.2 (by omega), mL_lt hi, ⟨⟨show (0 : Int) ≤ k + 1 by omega, show k + 1 ≤ (os.length : Int) by omega, hl, hx, show (0 : Int) ≤ b0 + o.2.2 by omega, show b0 + o.2.2 ≤ 68719476736 + (k + 1) * 67108864 by omega⟩, fun r hr => hQ r (by have hr : r = b0 + o.2.2 + ((os.drop (k + 1).toNat).map (·.2.2)).sum := hr; omega)⟩⟩
theorem ok10B : Lp2Ok Try.prog 10 1 lc10b := lp2_of (n := 5) (ex := fun _ => some (sh10, 5)) (m := fun (_, _, _, _, _, _, os, k, _) => mL os k) (good2_nil _) fun (tm, l, (ss, ns, dy, wf, t, m, b, ()), (b0, b1, b2, b3, ()), bf, i, os, k, ()) Q hx => by
  obtain ⟨⟨g1, g2, g3, g4, g5, g6⟩, hQ⟩ := hx
  exact h10B tm l ss ns dy wf t m b b0 b1 b2 b3 bf i os k Q g1 g2 g3 g4 g5 g6 hQ
theorem h10L (ss : List Su) (ns : List Nt) (dy wf t : Int) (m : List (Tx × Int)) (l : List Ac) (b0 b1 b2 b3 i : Int) (Q : AX → St → Prop) (g1 : okP (dy, wf, t, ss, ns)) (g3 : mapS m ss) (gb : booksOk (dy, wf, t, ss, ns) b0 b1 b2 b3 i) (g5 : okLA l) (g6 : 0 ≤ i) (g7 : i ≤ 60) (g8 : (ns.length : Int) ≤ i)
    (fin : Q (.exit 0) (stS 0 .nil ())) :
    xloop2 Try.prog { nm := true, f := [(32, fcSteady), (23, fcSum)], f2 := [(30, fcDone), (31, fcSus), (33, fcHolds)], l2 := [(10, 1, lc10b)] } 5 10 0 lc10 (fun _ => some (.nil, 0)) (fun (_, _, _, _, _, i, _) => (60 - i).toNat) (t, l, (ss, ns, dy, wf, t, m, true, ()), (b0, b1, b2, b3, ()), ss, i, ()) Q := by
  rw [v10L]
  simp only [fork_iff, req_iff, decide_eq_true_eq, decide_eq_false_iff_not, beq_iff_eq, beq_eq_false_iff_ne, bne_iff_ne, bne_eq_false_iff_eq, ne_eq, Bool.not_eq_true', Bool.not_eq_false', Nat.zero_add, seg_self, Nat.le_refl, true_and, List.drop_zero]
  refine ⟨fun hi => ⟨fun h60 => ⟨⟨g6, hi⟩, ?_⟩, fun _ => fin⟩, fun _ => fin⟩
  have ha := la_at g5 g6 hi
  rw [show ((0, 0, 0, [], [], []) : Ac) = A0 from rfl]
  generalize l.getD i.toNat A0 = a at *
  have hn : ns.length ≤ 1000 := by omega
  refine ⟨⟨g1, hn, g3, ha⟩, fun ss1 ns1 dy1 wf1 m1 os li e he hm1 => ?_⟩
  have hk := okP_act g1 a
  have hnt := notes_act (dy, wf, t, ss, ns) a
  have hout := act_out g1 a
  have hst := act_steps g1 a
  have hbk := fun h => books_act g1 (a := a) gb h
  have hbad := act_bad (s := (dy, wf, t, ss, ns)) (a := a)
  obtain ⟨hb1, hb2, -⟩ := okP_bd g1
  rw [← he] at hk hnt hout hst hbk hbad
  obtain ⟨hc1, hc2, -⟩ := okP_bd hk
  simp only at hnt hbad hbk hst hb1 hb2 hc1 hc2
  have hlen := hk.len
  simp only at hlen
  obtain ⟨po1, po2⟩ := hout.po
  obtain ⟨li1, li2⟩ := hout.li
  simp only at po1 po2 li1 li2
  obtain ⟨c1, c2, c3, c4⟩ := id gb
  simp only at c1 c2
  have hir : inR .i64 (i + 1) = true := inR_i64.2 (by omega)
  have hmm : ((60 : Int) - (i + 1)).toNat < ((60 : Int) - i).toNat := by omega
  have hfit : fitS 0 li := fitS_of (B := 17179869184) li2 (Int.le_refl 0) (by omega) (by decide)
  have hlb : li.length ≤ big := Nat.le_trans li1 (by decide)
  refine ⟨by omega, fun l2 hl2 => ?_⟩
  subst hl2
  refine ⟨fun h => absurd hst.len.1 (by omega), fun _ => ⟨⟨g6, hi⟩, hst, ?_⟩⟩
  have tail : ∀ x0 x1 x2 x3, booksOk (dy1, wf1, t, l2, ns1) x0 x1 x2 x3 (i + 1) → ∀ w : Int, w = waitsN l2 → inR .i64 (x1 + w) = true ∧ inR .i64 (x1 + w + wf1) = true ∧ inR .i64 (x1 + w + wf1 + x3) = true ∧ (¬ x0 = x1 + w + wf1 + x3 → Q .ret (stS 0 .nil ())) ∧
      (x0 = x1 + w + wf1 + x3 → inR .i64 (wf1 + x3) = true ∧ (¬ x2 = wf1 + x3 → Q .ret (stS 0 .nil ())) ∧ (x2 = wf1 + x3 → inR .i64 (i + 1) = true ∧ ((60 : Int) - (i + 1)).toNat < ((60 : Int) - i).toNat ∧
        (okP (dy1, wf1, t, l2, ns1) ∧ mapS m1 l2 ∧ sameL l2 l2 ∧ booksOk (dy1, wf1, t, l2, ns1) x0 x1 x2 x3 (i + 1) ∧ okLA l ∧ 0 ≤ i + 1 ∧ i + 1 ≤ 60 ∧ (ns1.length : Int) ≤ i + 1) ∧ Q (.exit 0) (stS 0 .nil ()))) := fun x0 x1 x2 x3 hb w hw => by
    obtain ⟨d1, d2, d3, d4⟩ := id hb
    simp only at d1 d2
    refine ⟨inR_i64.2 (by omega), inR_i64.2 (by omega), inR_i64.2 (by omega), fun h => absurd (by rw [hw]; exact d1) h, fun _ => ⟨inR_i64.2 (by omega), fun h => absurd d2 h, fun _ => ⟨hir, hmm, ⟨hk, hm1, rfl, hb, g5, by omega, by omega, by omega⟩, fin⟩⟩⟩
  refine ⟨fun he0 => ?_, fun he0 => ⟨⟨g6, hi⟩, fun k1 => ?_, fun k1 => ⟨fun k2 => ?_, fun k2 => ⟨fun k3 => ?_, fun k3 => ?_⟩⟩⟩⟩
  · have e := hbad he0
    simp only [Prod.mk.injEq, true_and] at e
    obtain ⟨rfl, rfl, rfl, rfl⟩ := e
    exact ⟨hir, hmm, ⟨hk, hm1, rfl, ⟨c1, c2, c3, by omega⟩, g5, show (0 : Int) ≤ i + 1 by omega, show i + 1 ≤ (60 : Int) by omega, show (ns1.length : Int) ≤ i + 1 by omega⟩, fin⟩
  · have hb := (hbk he0).1 k1
    exact ⟨⟨Int.le_refl (0 : Int), Int.natCast_nonneg _, po1, fun o ho => (po2 o ho).2, show (0 : Int) ≤ b0 by omega, show b0 ≤ (68719476736 : Int) + 0 * 67108864 by omega⟩, fun b hb0 => ⟨⟨hk, trivial⟩, by rw [hb0]; exact tail _ _ _ _ hb⟩⟩
  · have hb := (hbk he0).2.1 k1 k2
    have h := id hb
    obtain ⟨d1, d2, d3, d4⟩ := h
    simp only at d1 d2
    exact ⟨⟨hlb, hfit⟩, inR_i64.2 (by omega), ⟨hk, trivial⟩, tail _ _ _ _ hb⟩
  · have hb := (hbk he0).2.2.1 k1 k2 k3
    have h := id hb
    obtain ⟨d1, d2, d3, d4⟩ := h
    simp only at d1 d2
    exact ⟨⟨hlb, hfit⟩, inR_i64.2 (by omega), ⟨hk, trivial⟩, tail _ _ _ _ hb⟩
  · have hb := (hbk he0).2.2.2 k1 k2 k3
    have h := id hb
    obtain ⟨d1, d2, d3, d4⟩ := h
    simp only at d1 d2
    exact ⟨⟨hlb, hfit⟩, inR_i64.2 (by omega), ⟨hk, trivial⟩, tail _ _ _ _ hb⟩
theorem ok10L : Lp2Ok Try.prog 10 0 lc10 := lp2_of (n := 5) (ex := fun _ => some (.nil, 0)) (m := fun (_, _, _, _, _, i, _) => (60 - i).toNat) (((((((good2_nilN _).addL2 ok10B).addF2 ok33).addF2 ok31).addF2 ok30).addF okSum).addF ok32) fun (tm, l, (ss, ns, dy, wf, t, m, b, ()), (b0, b1, b2, b3, ()), bf, i, ()) Q hx => by
  obtain ⟨⟨g1, g2, g3, g4, g5, g6, g7, g8, g9, g10⟩, hQ⟩ := hx
  have g2 : b = true := g2
  have g4 : tm = t := g4
  have g5 : bf = ss := g5
  subst g2 g4 g5
  exact h10L bf ns dy wf tm m l b0 b1 b2 b3 i Q g1 g3 g6 g7 g8 g9 g10 hQ
theorem h10F (t : Int) (l : List Ac) (K : dens [.b] → Prop) (hl : okLA l) (hK : K (true, ())) : xfn1 Try.prog { f := [(19, fcWorks)], l2 := [(10, 0, lc10)] } 6 10 fcOnce (t, l, ()) K := by
  rw [v10F]
  simp only [fork_iff, req_iff, decide_eq_true_eq, decide_eq_false_iff_not, bne_iff_ne, bne_eq_false_iff_eq, ne_eq, Bool.not_eq_true', Bool.not_eq_false', ge_iff_le, Nat.zero_add, seg_self, Nat.le_refl, true_and]
  have bk : booksOk (0, 0, t, [], []) 0 0 0 0 0 := ⟨by simp [sumB_nil], by simp, by decide, by decide⟩
  repeat' (first
    | exact hK
    | exact okP_new (by assumption) (by assumption)
    | exact mapS_nil
    | exact bk
    | exact hl
    | refine And.intro ?_ ?_
    | intro _
    | rfl
    | exact Int.le_refl (0 : Int)
    | decide)
theorem ok10 : FnOk Try.prog 10 fcOnce := fn1_of (n := 6) (((good2_nil _).addL2 ok10L).addF okWorks') fun (t, l, ()) K hx => h10F t l K hx.1 hx.2
end Go.P7
