/- The statements of purses: the code keeps its contracts. No conditions. -/
import Derived.Test.YtnjaebjhfilljaaLawL
set_option linter.constructorNameAsVariable false
set_option linter.unusedVariables false
set_option linter.unusedSimpArgs false
set_option maxRecDepth 100000
set_option maxHeartbeats 4000000
namespace Go.P7
open Go.Lom Go.Proofs Go

theorem ok36L : Lp2Ok Try.prog 36 0 lc36 := lp2_of (n := 5) (ex := fun _ => some (.nil, 0)) (m := fun (a, _, i, _) => mL a i) (good2_nil _) fun (a, b, i, ()) Q hx => by
  obtain ⟨⟨g1, g2, g3, g4⟩, hQ⟩ := hx
  have g1 : b = a := g1.symm
  subst g1
  have key : ∀ (a : List Su) (i : Int), a.length ≤ 2000 → 0 ≤ i → i ≤ a.length → xloop2 Try.prog {} 5 36 0 lc36 (fun _ => some (.nil, 0)) (fun (a, _, i, _) => mL a i) (a, a, i, ()) Q := fun a i h2 h3 h4 => by
    rw [v36L]
    simp only [fork_iff, req_iff, decide_eq_true_eq, decide_eq_false_iff_not, beq_self_eq_true, Bool.and_true, Bool.not_true, Bool.false_eq_true, false_imp_iff, true_imp_iff, true_and]
    exact ⟨fun hi => ⟨⟨h3, hi⟩, ⟨h3, hi⟩, inR_i64.2 (by omega), mL_lt hi, ⟨⟨h2, show (0 : Int) ≤ i + 1 by omega, show i + 1 ≤ (a.length : Int) by omega⟩, hQ⟩⟩, fun _ => hQ⟩
  exact key _ i g2 g3 g4
theorem ok36 : FnOk Try.prog 36 fcSS := fn1_of (n := 5) ((good2_nil _).addL2 ok36L) fun (a, b, ()) K hx => by
  obtain ⟨⟨g1, g2⟩, hK⟩ := hx
  have g1 : b = a := g1.symm
  subst g1
  show xfn1 Try.prog { l2 := [(36, 0, lc36)] } 5 36 fcSS (b, b, ()) K
  rw [v36F]
  simp only [fork_iff, req_iff, decide_eq_true_eq, decide_eq_false_iff_not, beq_self_eq_true, bne_self_eq_false, Bool.false_eq_true, false_imp_iff, true_imp_iff, true_and]
  repeat' (first | exact hK | exact g2 | exact Int.le_refl (0 : Int) | exact Int.natCast_nonneg _ | refine And.intro ?_ ?_ | intro _)
theorem ok35L : Lp2Ok Try.prog 35 0 lc35 := lp2_of (n := 5) (ex := fun _ => some (.nil, 0)) (m := fun (a, _, i, _) => mL a i) (good2_nil _) fun (a, b, i, ()) Q hx => by
  obtain ⟨⟨g1, g2, g3, g4⟩, hQ⟩ := hx
  have g1 : b = a := g1.symm
  subst g1
  have key : ∀ (a : List Nt) (i : Int), a.length ≤ 2000 → 0 ≤ i → i ≤ a.length → xloop2 Try.prog {} 5 35 0 lc35 (fun _ => some (.nil, 0)) (fun (a, _, i, _) => mL a i) (a, a, i, ()) Q := fun a i h2 h3 h4 => by
    rw [v35L]
    simp only [fork_iff, req_iff, decide_eq_true_eq, decide_eq_false_iff_not, beq_self_eq_true, Bool.and_true, Bool.not_true, Bool.false_eq_true, false_imp_iff, true_imp_iff, true_and]
    exact ⟨fun hi => ⟨⟨h3, hi⟩, ⟨h3, hi⟩, inR_i64.2 (by omega), mL_lt hi, ⟨⟨h2, show (0 : Int) ≤ i + 1 by omega, show i + 1 ≤ (a.length : Int) by omega⟩, hQ⟩⟩, fun _ => hQ⟩
  exact key _ i g2 g3 g4
theorem ok35 : FnOk Try.prog 35 fcSN := fn1_of (n := 5) ((good2_nil _).addL2 ok35L) fun (a, b, ()) K hx => by
  obtain ⟨⟨g1, g2⟩, hK⟩ := hx
  have g1 : b = a := g1.symm
  subst g1
  show xfn1 Try.prog { l2 := [(35, 0, lc35)] } 5 35 fcSN (b, b, ()) K
  rw [v35F]
  simp only [fork_iff, req_iff, decide_eq_true_eq, decide_eq_false_iff_not, beq_self_eq_true, bne_self_eq_false, Bool.false_eq_true, false_imp_iff, true_imp_iff, true_and]
  repeat' (first | exact hK | exact g2 | exact Int.le_refl (0 : Int) | exact Int.natCast_nonneg _ | refine And.intro ?_ ?_ | intro _)

/-! PurseActs -/
def A0 : Ac := (0, 0, 0, [], [], [])
theorem la_at {l : List Ac} (h : okLA l) {i : Int} (h0 : 0 ≤ i) (h1 : i < l.length) : okA (l.getD i.toNat A0) := by
  have hi : i.toNat < l.length := by omega
  refine h.all _ ?_
  rw [List.getD_eq_getElem?_getD, List.getElem?_eq_getElem hi]; exact List.getElem_mem _
theorem h12L (ss : List Su) (ns : List Nt) (dy wf t : Int) (m : List (Tx × Int)) (l : List Ac) (p : Tx) (i : Int) (Q : AX → St → Prop) (g1 : okP (dy, wf, t, ss, ns)) (g3 : mapS m ss) (g5 : okLA l) (g6 : 0 ≤ i) (g7 : i ≤ 60) (g8 : (ns.length : Int) ≤ i)
    (hQ : ∀ (ss1 : List Su) (ns1 : List Nt) (dy1 wf1 : Int) (m1 : List (Tx × Int)), okP (dy1, wf1, t, ss1, ns1) → mapS m1 ss1 → ns1.length ≤ 60 → Q (.exit 0) (stS 7 sh12e (p, (ss1, ns1, dy1, wf1, t, m1, true, ()), (t, dy1, wf1, ss1, ns1, ()), ()))) :
    xloop2 Try.prog { f := [(22, fcSameP), (16, fcSame)], f2 := [(30, fcDone), (38, fcDue)] } 5 12 0 lc12 (fun _ => some (sh12e, 7)) (fun (_, _, _, _, i, _) => (60 - i).toNat) (l, p, (ss, ns, dy, wf, t, m, true, ()), (t, dy, wf, ss, ns, ()), i, ()) Q := by
  rw [v12L]
  have fin := hQ ss ns dy wf m g1 g3 (by omega)
  simp only [fork_iff, req_iff, decide_eq_true_eq, decide_eq_false_iff_not, bne_iff_ne, bne_eq_false_iff_eq, ne_eq, Bool.not_eq_true', Bool.not_eq_false', Nat.zero_add, seg_self, Nat.le_refl, true_and]
  refine ⟨fun hi => ⟨fun h60 => ⟨⟨g6, hi⟩, ?_⟩, fun _ => fin⟩, fun _ => fin⟩
  have ha := la_at g5 g6 hi
  rw [show ((0, 0, 0, [], [], []) : Ac) = A0 from rfl]
  generalize l.getD i.toNat A0 = a at *
  have hn : ns.length ≤ 1000 := by omega
  refine ⟨⟨g1, hn, g3, ha⟩, fun ss1 ns1 dy1 wf1 m1 os l1 e he hm1 => ⟨⟨g6, hi⟩, ⟨g1, hn, ha⟩, fun ss2 ns2 dy2 wf2 os2 l2 e2 he2 => ?_⟩⟩
  have hk := okP_act g1 a
  have hout := act_out g1 a
  have hnt := notes_act (dy, wf, t, ss, ns) a
  have e12 := he.trans he2.symm
  rw [← he] at hk hout hnt
  simp only [Prod.mk.injEq, true_and] at e12
  obtain ⟨⟨rfl, rfl, rfl, rfl⟩, rfl, rfl, rfl⟩ := e12
  simp only at hnt
  refine ⟨⟨Nat.le_trans hout.po.1 (by decide), fun x hx => Nat.le_trans (hout.po.2 x hx).1 (by decide)⟩, fun h => absurd rfl h, fun _ => ⟨Nat.le_trans hout.li.1 (by decide), fun h => absurd rfl h, fun _ => ⟨fun h => absurd rfl h, fun _ => ⟨inR_i64.2 (by omega), ?_, ⟨⟨hk, hm1, rfl, g5, show (0 : Int) ≤ i + 1 by omega, show i + 1 ≤ (60 : Int) by omega, show (ns1.length : Int) ≤ i + 1 by omega⟩, hQ⟩⟩⟩⟩⟩
  show ((60 : Int) - (i + 1)).toNat < ((60 : Int) - i).toNat
  omega
theorem ok12L : Lp2Ok Try.prog 12 0 lc12 := lp2_of (n := 5) (ex := fun _ => some (sh12e, 7)) (m := fun (_, _, _, _, i, _) => (60 - i).toNat) (((((good2_nil _).addF2 ok38).addF2 ok30).addF okSame).addF ok22) fun (l, p, (ss, ns, dy, wf, t, m, b, ()), (t2, dy2, wf2, ss2, ns2, ()), i, ()) Q hx => by
  obtain ⟨⟨g1, g2, g3, g4, g5, g6, g7, g8⟩, hQ⟩ := hx
  have g2 : b = true := g2
  have g4 : ((dy2, wf2, t2, ss2, ns2) : PS) = (dy, wf, t, ss, ns) := g4
  obtain ⟨rfl, rfl, rfl, rfl, rfl⟩ : dy2 = dy ∧ wf2 = wf ∧ t2 = t ∧ ss2 = ss ∧ ns2 = ns := by simpa using g4
  subst g2
  exact h12L _ _ _ _ _ m l p i Q g1 g3 g5 g6 g7 g8 hQ
theorem h12F (t : Int) (l : List Ac) (p : Tx) (K : dens [.b] → Prop) (hl : okLA l) (hK : K (true, ())) : xfn1 Try.prog { f := [(24, fcFrom), (19, fcWorks), (36, fcSS), (35, fcSN)], f2 := [(33, fcHolds), (39, fcOwed), (40, fcROwed), (41, fcRWaits), (31, fcSus), (34, fcNts)], l2 := [(12, 0, lc12)] } 6 12 fcActs (t, l, p, ()) K := by
  rw [v12F]
  simp only [fork_iff, req_iff, decide_eq_true_eq, decide_eq_false_iff_not, bne_iff_ne, bne_eq_false_iff_eq, ne_eq, Bool.not_eq_true', Bool.not_eq_false', ge_iff_le, Nat.zero_add, seg_self, Nat.le_refl, true_and, beq_self_eq_true, Bool.true_eq_false, Bool.false_eq_true, false_imp_iff, true_imp_iff, and_true]
  refine ⟨fun h0 => ⟨fun h1 => ⟨fun _ => hK, fun h => absurd h.2 h1⟩, fun h1 => ⟨fun h => absurd ⟨h0, h1⟩ h, fun _ => ⟨⟨okP_new h0 h1, mapS_nil, rfl, hl, Int.le_refl (0 : Int), by decide⟩, fun ss1 ns1 dy1 wf1 m1 k1 k2 k3 => ?_⟩⟩⟩, fun h0 => ⟨fun _ => hK, fun h => absurd h.1 h0⟩⟩
  have hlen := k1.len
  simp only at hlen
  have hlen1 : ss1.length ≤ 1000 := by omega
  have hlen2 : ns1.length ≤ 1000 := by omega
  have hlen3 : ss1.length ≤ 2000 := by omega
  have hlen4 : ns1.length ≤ 2000 := by omega
  refine ⟨k1, fun w hw => ⟨⟨k1, k2⟩, fun x e hx => ⟨k1, fun x1 e1 hx1 => ⟨k1, fun n hn => ?_⟩⟩⟩⟩
  have e12 := hx.trans hx1.symm
  simp only [Prod.mk.injEq] at e12
  obtain ⟨rfl, rfl⟩ := e12
  obtain rfl : w = n := hw.trans hn.symm
  simp only [beq_self_eq_true, Bool.and_true, Bool.true_eq_false, Bool.false_eq_true, false_imp_iff, true_imp_iff, and_true, true_and]
  repeat' (first
    | exact hK
    | exact hlen1
    | exact hlen2
    | exact hlen3
    | exact hlen4
    | (intro ls hls; subst hls)
    | refine And.intro ?_ ?_
    | rfl
    | assumption)
theorem ok12 : FnOk Try.prog 12 fcActs := fn1_of (n := 6) ((((((((((((good2_nil _).addL2 ok12L).addF2 ok34).addF2 ok31).addF2 ok41).addF2 ok40).addF2 ok39).addF2 ok33).addF ok35).addF ok36).addF okWorks').addF ok24) fun (t, l, p, ()) K hx => h12F t l p K hx.1 hx.2
end Go.P7
