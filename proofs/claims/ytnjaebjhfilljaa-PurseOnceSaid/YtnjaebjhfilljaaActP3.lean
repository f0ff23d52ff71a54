/- Purses: what is sold: the code keeps its contracts. No conditions. -/
import Derived.Test.YtnjaebjhfilljaaActP2
set_option linter.constructorNameAsVariable false
set_option linter.unusedVariables false
set_option linter.unusedSimpArgs false
set_option maxRecDepth 100000
set_option maxHeartbeats 4000000
namespace Go.P7
open Go.Lom Go.Proofs Go

theorem h72L (o : List Int) (l : List Po) (i : Int) (Q : AX → St → Prop) (h0 : 0 ≤ i) (h1 : i ≤ l.length) (hl : l.length ≤ 256) (ho : (o.length : Int) ≤ i) (hQ : ∀ r, r = o ++ chosenI leftB (l.drop i.toNat) i → Q (.exit 0) (stS 1 sh72e (r, ()))) :
    xloop2 Try.prog { nm := true } 5 72 0 lc72 (fun _ => some (sh72e, 1)) (fun (_, _, l, _, i, _) => mL l i) (((), ()), o, l, (l.length : Int), i, ()) Q := by
  rw [v72L]
  simp only [fork_iff, req_iff, decide_eq_true_eq, decide_eq_false_iff_not, gt_iff_lt, Nat.zero_add, seg_self, Nat.le_refl, true_and]
  refine ⟨fun hi => ⟨⟨h0, hi⟩, ?_⟩, fun hi => hQ _ (by rw [drop_end hi]; simp [chosenI])⟩
  rw [drop_step (0, [], 0) h0 hi] at hQ
  simp only [chosenI] at hQ
  generalize l.getD i.toNat (0, [], 0) = x at *
  refine ⟨fun hs => ⟨fits100 (by omega), fun ys hys => ?_⟩, fun hs => ?_⟩
  · have hg : leftB x = true := decide_eq_true hs
    rw [hg] at hQ
    simp only [if_true] at hQ
    have hyl : o.length + 1 = ys.length := by rw [hys]; simp
    rw [seg_exact hyl]
    exact ⟨inR_i64.2 (by omega), by omega, mL_lt hi, ⟨⟨show (0 : Int) ≤ i + 1 by omega, show i + 1 ≤ (l.length : Int) by omega, hl, show (ys.length : Int) ≤ i + 1 by omega⟩, fun r hr => hQ r (by rw [hr, hys, List.append_assoc]; rfl)⟩⟩
  · have hg : leftB x = false := decide_eq_false hs
    rw [hg] at hQ
    simp only [Bool.false_eq_true, if_false] at hQ
    exact ⟨inR_i64.2 (by omega), mL_lt hi, ⟨⟨show (0 : Int) ≤ i + 1 by omega, show i + 1 ≤ (l.length : Int) by omega, hl, show (o.length : Int) ≤ i + 1 by omega⟩, hQ⟩⟩
theorem ok72L : Lp2Ok Try.prog 72 0 lc72 := lp2_of (n := 5) (ex := fun _ => some (sh72e, 1)) (m := fun (_, _, l, _, i, _) => mL l i) (good2_nilN _) fun (((), ()), o, l, m, i, ()) Q hx => by
  obtain ⟨⟨g1, g2, g3, g4, g5⟩, hQ⟩ := hx
  have g3 : m = (l.length : Int) := g3
  subst g3
  exact h72L o l i Q g1 g2 g4 g5 hQ
theorem ok72 : FnOk Try.prog 72 fc72 := fn1_of (n := 5) ((good2_nilN _).addL2 ok72L) fun (l, ((), ()), ()) K hx => by
  obtain ⟨g1, hK⟩ := hx
  show xfn1 Try.prog { nm := true, l2 := [(72, 0, lc72)] } 5 72 fc72 (l, ((), ()), ()) K
  rw [v72F]
  simp only [req_iff, decide_eq_true_eq, Nat.zero_add, seg_self, Nat.le_refl, true_and, List.drop_zero, List.nil_append]
  exact ⟨⟨Int.le_refl (0 : Int), Int.natCast_nonneg _, g1, Int.le_refl (0 : Int)⟩, fun r hr => hK r hr⟩

theorem look_none {m : List (Tx × Int)} {ss : List Su} (hm : mapS m ss) (p : Tx) : (tmGet .s m p).isSome = ss.any (ofB p) := by
  rw [hm p]
  cases h : ss.any (ofB p) with
  | false => rw [if_pos (ixS_neg.2 h)]; rfl
  | true => rw [if_neg (fun e => by rw [ixS_neg.1 e] at h; cases h)]; rfl
theorem h70A (ss : List Su) (ns : List Nt) (dy wf t : Int) (m : List (Tx × Int)) (b : Bool) (os ot : List Po) (l ps : List Pa) (i d pr e : Int) (Q : AX → St → Prop) (h0 : 0 ≤ i) (h1 : i ≤ l.length) (hl : l.length ≤ 8) (hm : mapS m ss)
    (hT : ((l.drop i.toNat).any fun p => ss.any (ofB p.1)) = true → Q (.panic (refu 33)) (stS 10 sh70ap ((ss, ns, dy, wf, t, m, b, ()), (ot, ()), (e, ()), ())))
    (hF : ((l.drop i.toNat).any fun p => ss.any (ofB p.1)) = false → Q (.exit 0) (stS 10 sh70ae ((), (), (), (), (), os, (ss, ns, dy, wf, t, m, b, ()), ((), ()), (d, ()), (pr, ()), (ps, ()), (ot, ()), (e, ()), ()))) :
    xloop2 Try.prog { nm := true } 5 70 0 lc70a ex70a (fun (_, _, _, _, _, _, l, _, i, _) => mL l i) ((), (), (), (), (), os, l, (l.length : Int), i, (ss, ns, dy, wf, t, m, b, ()), ((), ()), (d, ()), (pr, ()), (ps, ()), (ot, ()), (e, ()), ()) Q := by
  rw [v70A]
  simp only [fork_iff, req_iff, decide_eq_true_eq, decide_eq_false_iff_not, Bool.not_not, true_and]
  refine ⟨fun hi => ⟨⟨h0, hi⟩, ?_⟩, fun hi => hF (by rw [drop_end hi]; rfl)⟩
  rw [drop_step ([], 0, []) h0 hi, List.any_cons] at hT hF
  rw [look_none hm]
  generalize l.getD i.toNat ([], 0, []) = x at *
  refine ⟨fun hs => hT (by rw [hs]; rfl), fun hs => ⟨inR_i64.2 (by omega), mL_lt hi, ?_⟩⟩
  rw [hs, Bool.false_or] at hT hF
  exact ⟨⟨show (0 : Int) ≤ i + 1 by omega, show i + 1 ≤ (l.length : Int) by omega, hl, hm⟩, hT, hF⟩
theorem ok70A : Lp2Ok Try.prog 70 0 lc70a := lp2_of (n := 5) (ex := ex70a) (m := fun (_, _, _, _, _, _, l, _, i, _) => mL l i) (good2_nilN _) fun ((), (), (), (), (), os, l, k, i, (ss, ns, dy, wf, t, m, b, ()), ((), ()), (d, ()), (pr, ()), (ps, ()), (ot, ()), (e, ()), ()) Q hx => by
  obtain ⟨⟨g1, g2, g3, g4, g5⟩, hT, hF⟩ := hx
  have g1 : k = (l.length : Int) := g1
  subst g1
  exact h70A ss ns dy wf t m b os ot l ps i d pr e Q g2 g3 g4 g5 hT hF
theorem h70B (ss : List Su) (ns : List Nt) (dy wf t : Int) (m : List (Tx × Int)) (b : Bool) (os ot : List Po) (js : List Int) (ps : List Pa) (i d pr e : Int) (Q : AX → St → Prop) (h0 : 0 ≤ i) (h1 : i ≤ js.length) (hl : js.length ≤ 8) (hr : (ss.length : Int) + (js.length - i) ≤ 256) (hj : ∀ j ∈ js, 0 ≤ j ∧ j < ps.length ∧ j < os.length) (hm : mapS m ss)
    (hn : ∀ x ∈ addS d ps os (js.drop i.toNat), ss.any (ofB x.1) = false) (hd : ((addS d ps os (js.drop i.toNat)).map (·.1)).Nodup)
    (hQ : ∀ (s1 : List Su) (m1 : List (Tx × Int)), s1 = ss ++ addS d ps os (js.drop i.toNat) → mapS m1 s1 → Q (.exit 2) (stS 11 sh70be ((), (), (), (), (), os, (s1, ns, dy, wf, t, m1, b, ()), ((), ()), (d, ()), (pr, ()), (ps, ()), (ot, ()), (e, ()), ()))) :
    xloop2 Try.prog { nm := true } 5 70 1 lc70b (fun _ => some (sh70be, 11)) (fun (_, _, _, _, _, _, js, _, i, _) => mL js i) ((), (), (), (), (), os, js, (js.length : Int), i, (ss, ns, dy, wf, t, m, b, ()), ((), ()), (d, ()), (pr, ()), (ps, ()), (ot, ()), (e, ()), ()) Q := by
  rw [v70B]
  simp only [fork_iff, req_iff, decide_eq_true_eq, decide_eq_false_iff_not, Nat.zero_add, seg_self, Nat.le_refl, true_and]
  refine ⟨fun hi => ⟨⟨h0, hi⟩, ?_⟩, fun hi => hQ _ _ (by rw [drop_end hi]; simp [addS]) hm⟩
  rw [drop_step 0 h0 hi] at hQ hn hd
  have hjm : js.getD i.toNat 0 ∈ js := by
    rw [List.getD_eq_getElem?_getD, List.getElem?_eq_getElem (show i.toNat < js.length by omega)]; exact List.getElem_mem _
  have hjb := hj _ hjm
  generalize js.getD i.toNat 0 = j at *
  have hc : addS d ps os (j :: js.drop (i + 1).toNat) = ((ps.getD j.toNat ([], 0, [])).1, (os.getD j.toNat (0, [], 0)).2.2, d, 1, 0) :: addS d ps os (js.drop (i + 1).toNat) := rfl
  rw [hc] at hQ hn hd
  generalize hp : (ps.getD j.toNat ([], 0, [])).1 = p at *
  generalize (os.getD j.toNat (0, [], 0)).2.2 = q at *
  rw [List.map_cons, List.nodup_cons] at hd
  refine ⟨⟨hjb.1, hjb.2.1⟩, ⟨hjb.1, hjb.2.1⟩, ⟨hjb.1, hjb.2.2⟩, fits100 (by omega), fun ys hys => ⟨inR_i64.2 (by omega), ?_⟩⟩
  have hyl : ss.length + 1 = ys.length := by rw [hys]; simp
  rw [seg_exact hyl]
  have hnx : ss.any (ofB p) = false := hn _ List.mem_cons_self
  have hmn : mapS (tmPut .s m p (ss.length : Int)) ys := by rw [hys]; exact mapS_add (x := (p, q, d, 1, 0)) hm hnx
  refine ⟨by omega, mL_lt hi, ⟨⟨show (0 : Int) ≤ i + 1 by omega, show i + 1 ≤ (js.length : Int) by omega, hl, show (ys.length : Int) + (js.length - (i + 1)) ≤ 256 by omega, hj, hmn, fun x hx => ?_, hd.2⟩, fun s1 m1 hs1 hm1 => hQ s1 m1 (by rw [hs1]; show ys ++ _ = _; rw [hys, List.append_assoc]; rfl) hm1⟩⟩
  show ys.any (ofB x.1) = false
  rw [hys, List.any_append, hn x (List.mem_cons_of_mem _ hx), Bool.false_or]
  have hne : ¬ p = x.1 := fun e => hd.1 (by rw [e]; exact List.mem_map.2 ⟨x, hx, rfl⟩)
  simp [ofB, hne]
theorem ok70B : Lp2Ok Try.prog 70 1 lc70b := lp2_of (n := 5) (ex := fun _ => some (sh70be, 11)) (m := fun (_, _, _, _, _, _, js, _, i, _) => mL js i) (good2_nilN _) fun ((), (), (), (), (), os, js, k, i, (ss, ns, dy, wf, t, m, b, ()), ((), ()), (d, ()), (pr, ()), (ps, ()), (ot, ()), (e, ()), ()) Q hx => by
  obtain ⟨⟨g1, g2, g3, g4, g5, g6, g7, g8, g9⟩, hQ⟩ := hx
  have g1 : k = (js.length : Int) := g1
  subst g1
  exact h70B ss ns dy wf t m b os ot js ps i d pr e Q g2 g3 g4 g5 g6 g7 g8 g9 hQ

/-! Sell -/
theorem addS_chosen (d : Int) : ∀ (ps : List Pa) (os : List Po) (pp : List Pa) (po : List Po), pp.length = po.length → ps.length = os.length → addS d (pp ++ ps) (po ++ os) (chosenI leftB os pp.length) = newSu d ps os
  | [], [], pp, po, _, _ => by simp [chosenI, addS, newSu]
  | [], _ :: _, _, _, _, h => by simp at h
  | _ :: _, [], _, _, _, h => by simp at h
  | p :: ps, o :: os, pp, po, h1, h2 => by
    have ih := addS_chosen d ps os (pp ++ [p]) (po ++ [o]) (by simp [h1]) (by simpa using h2)
    rw [List.length_append, List.append_assoc, List.append_assoc] at ih
    simp only [List.length_cons, List.length_nil, List.singleton_append, Nat.zero_add] at ih
    push_cast at ih
    simp only [chosenI, newSu]
    by_cases hg : 0 < o.2.2
    · rw [if_pos (show leftB o = true from decide_eq_true hg), if_pos hg, ← ih]
      have e1 : (pp ++ p :: ps).getD ((pp.length : Int)).toNat ([], 0, []) = p := by simp [List.getD_eq_getElem?_getD]
      have e2 : (po ++ o :: os).getD ((pp.length : Int)).toNat (0, [], 0) = o := by rw [Int.toNat_natCast, h1]; simp [List.getD_eq_getElem?_getD]
      unfold addS
      rw [List.map_cons, e1, e2]
    · rw [if_neg (show ¬ leftB o = true from fun e => hg (of_decide_eq_true e)), if_neg hg, ← ih]
section
variable {s : PS} {d price : Int} {ps : List Pa}
theorem sell34 (h : ¬ (0 ≤ d ∧ d ≤ 36500 ∧ s.1 ≤ d)) : sellI s d price ps = (s, [], 34) := by unfold sellI dayOk; rw [if_pos (decide_eq_false h)]
theorem sellE {r : List Po} {e : Int} (h : 0 ≤ d ∧ d ≤ 36500 ∧ s.1 ≤ d) (hp : portR price ps = (r, e)) (he : e ≠ 0) : sellI s d price ps = (s, [], e) := by unfold sellI dayOk; rw [if_neg (by rw [decide_eq_true h]; decide), if_pos (by rw [hp]; exact he), hp]
theorem sell33 {r : List Po} (h : 0 ≤ d ∧ d ≤ 36500 ∧ s.1 ≤ d) (hp : portR price ps = (r, 0)) (hn : (ps.any fun p => s.2.2.2.1.any (ofB p.1)) = true) : sellI s d price ps = (s, [], 33) := by
  unfold sellI dayOk; rw [if_neg (by rw [decide_eq_true h]; decide), if_neg (by rw [hp]; simp), if_pos hn]
theorem sell6 {r : List Po} (h : 0 ≤ d ∧ d ≤ 36500 ∧ s.1 ≤ d) (hp : portR price ps = (r, 0)) (hn : (ps.any fun p => s.2.2.2.1.any (ofB p.1)) = false) (hl : s.2.2.2.1.length + (newSu d ps r).length > 256) : sellI s d price ps = (s, [], 6) := by
  unfold sellI dayOk; rw [if_neg (by rw [decide_eq_true h]; decide), if_neg (by rw [hp]; simp), if_neg (by rw [hn]; decide), hp, if_pos hl]
theorem sell0 {r : List Po} (h : 0 ≤ d ∧ d ≤ 36500 ∧ s.1 ≤ d) (hp : portR price ps = (r, 0)) (hn : (ps.any fun p => s.2.2.2.1.any (ofB p.1)) = false) (hl : ¬ s.2.2.2.1.length + (newSu d ps r).length > 256) : sellI s d price ps = (noted s 1 d price s.2.1 (s.2.2.2.1 ++ newSu d ps r), r, 0) := by
  unfold sellI dayOk; rw [if_neg (by rw [decide_eq_true h]; decide), if_neg (by rw [hp]; simp), if_neg (by rw [hn]; decide), hp, if_neg hl]
end
theorem h42F (ss : List Su) (ns : List Nt) (dy wf t : Int) (m : List (Tx × Int)) (d pr : Int) (ps : List Pa) (K : fcSell.post.den → Prop) (g1 : okP (dy, wf, t, ss, ns)) (hr : ns.length ≤ 1000) (hm : mapS m ss) (hp1 : ps.length ≤ big) (hp2 : ∀ p ∈ ps, p.1.length ≤ big ∧ p.2.2.length ≤ big)
    (hK : ∀ (ss1 : List Su) (ns1 : List Nt) (dy1 wf1 : Int) (m1 : List (Tx × Int)) (os : List Po) (e : Int), ((dy1, wf1, t, ss1, ns1), os, e) = sellI (dy, wf, t, ss, ns) d pr ps → mapS m1 ss1 → K ((ss1, ns1, dy1, wf1, t, m1, true, ()), (), (), (), os, e, ())) :
    xfn2 Try.prog { nm := true, f := [(20, fcPort), (72, fc72)], l2 := [(70, 0, lc70a), (70, 1, lc70b)] } 8 42 fcSell ((ss, ns, dy, wf, t, m, true, ()), d, pr, ps, ()) K := by
  rw [v42F]
  have bad : ∀ e, sellI (dy, wf, t, ss, ns) d pr ps = ((dy, wf, t, ss, ns), [], e) → K ((ss, ns, dy, wf, t, m, true, ()), (), (), (), [], e, ()) := fun e he => hK ss ns dy wf m [] e he.symm hm
  have hl := g1.len
  simp only at hl
  simp only [fork_iff, req_iff, decide_eq_true_eq, decide_eq_false_iff_not, beq_iff_eq, beq_eq_false_iff_ne, ne_eq, Bool.not_eq_true', Bool.not_eq_false', ge_iff_le, Nat.zero_add, seg_self, Nat.le_refl, true_and, List.drop_zero, List.nil_append]
  refine ⟨fun h0 => ⟨fun h1 => ⟨fun h2 => bad 34 (sell34 (by simp only; omega)), fun h2 => ⟨⟨hp1, hp2⟩, fun r e hpr => ⟨fun he => bad e (sellE ⟨h0, h1, h2⟩ hpr he), fun he => ?_⟩⟩⟩, fun h1 => bad 34 (sell34 (by simp only; omega))⟩, fun h0 => bad 34 (sell34 (by simp only; omega))⟩
  subst he
  obtain ⟨l1, l2, l3, l4, l5⟩ := port_left hpr
  obtain ⟨w1, w2, -⟩ := scan_words l4
  refine ⟨⟨Int.le_refl (0 : Int), Int.natCast_nonneg _, l2, hm⟩, fun hn => bad 33 (sell33 ⟨h0, h1, h2⟩ hpr hn), fun hn => ⟨by omega, fun js hjs => ?_⟩⟩
  have ha : addS d ps r js = newSu d ps r := by
    have := addS_chosen d ps r [] [] rfl l1.symm
    rw [hjs]; exact this
  have hal : js.length = (newSu d ps r).length := by rw [← ha]; simp [addS]
  have hjl : js.length ≤ 8 := by rw [hal]; exact Nat.le_trans (newSu_len ps r) l2
  rw [ha]
  refine ⟨inR_i64.2 (by omega), fun hf => bad 6 (sell6 ⟨h0, h1, h2⟩ hpr hn (by simp only; omega)), fun hf => ⟨⟨Int.le_refl (0 : Int), Int.natCast_nonneg _, hjl, ?_, fun j hj => ?_, hm, fun x hx => ?_, (newSu_names ps r).nodup w2⟩, fun s1 m1 hs1 hm1 => ⟨fits100 (by omega), fun ys hys => ?_⟩⟩⟩
  · show (ss.length : Int) + ((js.length : Int) - 0) ≤ 256
    omega
  · rw [hjs] at hj
    have h8 := chosenI_lt hj
    exact ⟨h8.1, by rw [← l1]; exact h8.2, h8.2⟩
  · obtain ⟨p, hp, o, ho, rfl, -⟩ := newSu_mem hx
    have h1 := List.any_eq_false.1 hn p hp
    simpa using h1
  · have hyl : ns.length + 1 = ys.length := by rw [hys]; simp
    rw [seg_exact hyl]
    refine ⟨by omega, hK s1 ys d wf m1 r 0 ?_ hm1⟩
    rw [sell0 ⟨h0, h1, h2⟩ hpr hn (by simp only; omega)]
    simp only [noted]
    rw [hys, hs1]
theorem ok42 : F2Ok Try.prog 42 fcSell := fn2_of (n := 8) (((((good2_nilN _).addL2 ok70B).addL2 ok70A).addF ok72).addF ok20) fun ((ss, ns, dy, wf, t, m, rdy, ()), d, pr, ps, ()) K hx => by
  obtain ⟨⟨g1, g2, g3, g4, g5, g6⟩, hK⟩ := hx
  have g2 : rdy = true := g2
  subst g2
  exact h42F ss ns dy wf t m d pr ps K g1 g3 g4 g5 g6 hK
end Go.P7
