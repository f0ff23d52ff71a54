/- The statements of purses (refusals): the code keeps its contracts. No conditions. -/
import Derived.Test.YtnjaebjhfilljaaLawP2
set_option linter.constructorNameAsVariable false
set_option linter.unusedVariables false
set_option linter.unusedSimpArgs false
set_option maxRecDepth 100000
set_option maxHeartbeats 4000000
namespace Go.P7
open Go.Lom Go.Proofs Go

theorem h11L (ss : List Su) (ns : List Nt) (dy wf t : Int) (m m2 : List (Tx × Int)) (l : List Ac) (b : Ac) (i : Int) (Q : AX → St → Prop) (g1 : okP (dy, wf, t, ss, ns)) (g3 : mapS m ss) (g4 : mapS m2 ss) (g5 : okLA l) (g6 : 0 ≤ i) (g7 : i ≤ 60) (g8 : (ns.length : Int) ≤ i)
    (hQ : ∀ (ss1 : List Su) (ns1 : List Nt) (dy1 wf1 : Int) (m1 m3 : List (Tx × Int)), okP (dy1, wf1, t, ss1, ns1) → mapS m1 ss1 → mapS m3 ss1 → ns1.length ≤ 60 → Q (.exit 0) (stS 9 sh11e ((b, ()), (ss1, ns1, dy1, wf1, t, m1, true, ()), (ss1, ns1, dy1, wf1, t, m3, true, ()), ()))) :
    xloop2 Try.prog { f2 := [(30, fcDone)] } 5 11 0 lc11 (fun _ => some (sh11e, 9)) (fun (_, _, _, _, i, _) => (60 - i).toNat) (l, (b, ()), (ss, ns, dy, wf, t, m, true, ()), (ss, ns, dy, wf, t, m2, true, ()), i, ()) Q := by
  rw [v11L]
  have fin := hQ ss ns dy wf m m2 g1 g3 g4 (by omega)
  simp only [fork_iff, req_iff, decide_eq_true_eq, decide_eq_false_iff_not, bne_iff_ne, bne_eq_false_iff_eq, ne_eq, Bool.not_eq_true', Bool.not_eq_false', Nat.zero_add, seg_self, Nat.le_refl, true_and]
  refine ⟨fun hi => ⟨fun h60 => ⟨⟨g6, hi⟩, ?_⟩, fun _ => fin⟩, fun _ => fin⟩
  have ha := la_at g5 g6 hi
  rw [show ((0, 0, 0, [], [], []) : Ac) = A0 from rfl]
  generalize l.getD i.toNat A0 = a at *
  have hn : ns.length ≤ 1000 := by omega
  refine ⟨⟨g1, hn, g3, ha⟩, fun ss1 ns1 dy1 wf1 m1 os l1 e he hm1 => ⟨⟨g6, hi⟩, ⟨g1, hn, g4, ha⟩, fun ss2 ns2 dy2 wf2 m3 os2 l2 e2 he2 hm3 => ?_⟩⟩
  have hk := okP_act g1 a
  have hnt := notes_act (dy, wf, t, ss, ns) a
  have e12 := he.trans he2.symm
  rw [← he] at hk hnt
  simp only [Prod.mk.injEq, true_and] at e12
  obtain ⟨⟨rfl, rfl, rfl, rfl⟩, rfl, rfl, rfl⟩ := e12
  simp only at hnt
  refine ⟨inR_i64.2 (by omega), ?_, ⟨⟨hk, hm1, rfl, hm3, g5, show (0 : Int) ≤ i + 1 by omega, show i + 1 ≤ (60 : Int) by omega, show (ns1.length : Int) ≤ i + 1 by omega⟩, hQ⟩⟩
  show ((60 : Int) - (i + 1)).toNat < ((60 : Int) - i).toNat
  omega
theorem ok11L : Lp2Ok Try.prog 11 0 lc11 := lp2_of (n := 5) (ex := fun _ => some (sh11e, 9)) (m := fun (_, _, _, _, i, _) => (60 - i).toNat) ((good2_nil _).addF2 ok30) fun (l, (a, ()), (ss, ns, dy, wf, t, m, b, ()), (ss2, ns2, dy2, wf2, t2, m2, b2, ()), i, ()) Q hx => by
  obtain ⟨⟨g1, g2, g3, g4, g5, g6, g7, g8, g9, g10⟩, hQ⟩ := hx
  have g2 : b = true := g2
  have g5 : b2 = true := g5
  have g4 : ((dy2, wf2, t2, ss2, ns2) : PS) = (dy, wf, t, ss, ns) := g4
  obtain ⟨rfl, rfl, rfl, rfl, rfl⟩ : dy2 = dy ∧ wf2 = wf ∧ t2 = t ∧ ss2 = ss ∧ ns2 = ns := by simpa using g4
  subst g2 g5
  exact h11L _ _ _ _ _ m m2 l a i Q g1 g3 g6 g7 g8 g9 g10 hQ
theorem h11F (t : Int) (l : List Ac) (k d pr : Int) (ps : List Pa) (p : Tx) (w : List Int) (K : dens [.b] → Prop) (hl : okLA l) (ha : okA (k, d, pr, ps, p, w)) (hK : K (true, ())) : xfn1 Try.prog { f := [(19, fcWorks), (36, fcSS), (35, fcSN)], f2 := [(30, fcDone), (33, fcHolds), (31, fcSus), (34, fcNts)], l2 := [(11, 0, lc11)] } 6 11 fcRef (t, l, (k, d, pr, ps, p, w), ()) K := by
  rw [v11F]
  simp only [fork_iff, req_iff, decide_eq_true_eq, decide_eq_false_iff_not, bne_iff_ne, bne_eq_false_iff_eq, ne_eq, Bool.not_eq_true', Bool.not_eq_false', ge_iff_le, Nat.zero_add, seg_self, Nat.le_refl, true_and, List.drop_zero]
  refine ⟨fun h0 => ⟨fun h1 => ⟨fun _ => ⟨fun _ => hK, fun h => absurd h h1⟩, fun h => absurd h0 h⟩, fun h1 => ⟨fun _ => ⟨fun h => absurd h1 h, fun _ => ⟨⟨okP_new h0 h1, mapS_nil, rfl, mapS_nil, hl, Int.le_refl (0 : Int), by decide⟩, fun ss1 ns1 dy1 wf1 m1 m3 k1 k2 k3 k4 => ?_⟩⟩, fun h => absurd h0 h⟩⟩, fun h0 => ⟨fun h => absurd h h0, fun _ => hK⟩⟩
  have hn : ns1.length ≤ 1000 := by omega
  refine ⟨⟨k1, hn, k2, ha⟩, fun ss2 ns2 dy2 wf2 m2 os li e he hm => ?_⟩
  have hk := okP_act k1 (k, d, pr, ps, p, w)
  have hnt := notes_act (dy1, wf1, t, ss1, ns1) (k, d, pr, ps, p, w)
  have hbad := act_bad (s := (dy1, wf1, t, ss1, ns1)) (a := (k, d, pr, ps, p, w))
  have hgood := act_noted (s := (dy1, wf1, t, ss1, ns1)) (a := (k, d, pr, ps, p, w))
  rw [← he] at hk hnt hbad hgood
  simp only at hnt hbad hgood
  have hl2 := hk.len
  have hl1 := k1.len
  simp only at hl1 hl2
  refine ⟨by omega, fun l2 q2 => ⟨hn, fun l1 q1 => ⟨fun he0 => ?_, fun he0 => ?_⟩⟩⟩
  · have he0 : e = 0 := by simpa using he0
    obtain ⟨x, hx, hx2⟩ := hgood he0
    rw [q2, q1, hx]
    have e1 : (ns1 ++ [x]).length = ns1.length + 1 := by simp
    have e2 : (ns1 ++ [x]).take ns1.length = ns1 := by simp
    have e3 : (ns1 ++ [x]).getD ns1.length (0, 0, 0) = x := by simp [List.getD_eq_getElem?_getD]
    rw [e1, e2, e3, hx2]
    refine ⟨inR_i64.2 (by omega), fun _ => ⟨⟨Int.le_refl (0 : Int), Int.natCast_nonneg _, by push_cast; omega⟩, ⟨rfl, by omega⟩, ⟨Int.natCast_nonneg _, by push_cast; omega⟩, fun _ => hK, fun h => ?_⟩, fun h => ?_⟩
    · simp at h
    · push_cast at h; simp at h
  · have he0 : e ≠ 0 := by simpa using he0
    have := hbad he0
    simp only [Prod.mk.injEq, true_and] at this
    obtain ⟨rfl, rfl, rfl, rfl⟩ := this
    rw [q2, q1]
    have hlen1 : ss2.length ≤ 1000 := by omega
    have hlen3 : ss2.length ≤ 2000 := by omega
    have hlen4 : ns2.length ≤ 2000 := by omega
    refine ⟨⟨k1, trivial⟩, fun w1 hw1 => ⟨⟨k1, trivial⟩, fun w2 hw2 => ?_⟩⟩
    obtain rfl : w1 = w2 := hw1.trans hw2.symm
    simp only [beq_self_eq_true, Bool.and_true, Bool.true_eq_false, Bool.false_eq_true, false_imp_iff, true_imp_iff, and_true, true_and]
    repeat' (first
      | exact hK
      | exact hlen1
      | exact hlen3
      | exact hlen4
      | (intro ls hls; subst hls)
      | refine And.intro ?_ ?_
      | rfl
      | assumption)
theorem ok11 : FnOk Try.prog 11 fcRef := fn1_of (n := 6) (((((((((good2_nil _).addL2 ok11L).addF2 ok34).addF2 ok31).addF2 ok33).addF2 ok30).addF ok35).addF ok36).addF okWorks') fun (t, l, (k, d, pr, ps, p, w), ()) K hx => h11F t l k d pr ps p w K hx.1 hx.2.1 hx.2.2
end Go.P7
