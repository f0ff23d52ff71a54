/- Purses of the reference: the code keeps its contracts. No conditions. -/
import Derived.Test.YtnjaebjhfilljaaRefS
import Derived.Test.YtnjaebjhfilljaaBookP
set_option linter.constructorNameAsVariable false
set_option linter.unusedVariables false
set_option linter.unusedSimpArgs false
set_option maxRecDepth 100000
set_option maxHeartbeats 4000000
namespace Go.P7
open Go.Lom Go.Proofs Go

theorem okShareR : FnOk Try.prog 51 fcShare' := fun x K hx => ok51 x K ⟨⟨hx.1.1, hx.1.2⟩, hx.2⟩
theorem ok50' : FnOk Try.prog 50 fc47' := fun x K hx => ok50 x K ⟨hx.1, hx.2 _ rfl⟩
theorem firstIx_drop {p : Tx} {l : List Su} {i : Int} (h0 : 0 ≤ i) (h1 : i < l.length) : (l.drop i.toNat).any (ofB p) = (ofB p (l.getD i.toNat U0) || (l.drop (i + 1).toNat).any (ofB p)) ∧ firstIx (ofB p) (l.drop i.toNat) i = if ofB p (l.getD i.toNat U0) = true then i else firstIx (ofB p) (l.drop (i + 1).toNat) (i + 1) := by
  rw [drop_step U0 h0 h1, List.any_cons]; exact ⟨rfl, rfl⟩
theorem h68L (t dy wf : Int) (ss : List Su) (ns : List Nt) (p : Tx) (i : Int) (Q : AX → St → Prop) (h0 : 0 ≤ i) (h1 : i ≤ ss.length) (hl : ss.length ≤ 256)
    (hF : (ss.drop i.toNat).any (ofB p) = false → Q (.exit 0) (stS 3 sh68e ((t, dy, wf, ss, ns, ()), ()))) (hT : (ss.drop i.toNat).any (ofB p) = true → Q .ret (stS 3 sh68r (firstIx (ofB p) (ss.drop i.toNat) i, (t, dy, wf, ss, ns, ()), ()))) :
    xloop2 Try.prog {} 5 68 0 lc68 ex68 (fun (r, _, i, _) => mL r.2.2.2.1 i) ((t, dy, wf, ss, ns, ()), p, i, ()) Q := by
  rw [v68L]
  simp only [fork_iff, req_iff, decide_eq_true_eq, decide_eq_false_iff_not, beq_iff_eq, beq_eq_false_iff_ne, ne_eq, true_and]
  refine ⟨fun hi => ⟨⟨h0, hi⟩, by omega, ?_⟩, fun hi => hF (by rw [drop_end hi]; rfl)⟩
  obtain ⟨e1, e2⟩ := firstIx_drop (p := p) h0 hi
  rw [e1] at hF hT
  rw [e2] at hT
  rw [show (([], 0, 0, 0, 0) : Su) = U0 from rfl]
  generalize ss.getD i.toNat U0 = x at *
  refine ⟨fun hs => ?_, fun hs => ?_⟩
  · have hg : ofB p x = true := decide_eq_true hs
    rw [hg, Bool.true_or] at hT
    rw [if_pos rfl] at hT
    exact hT rfl
  · have hg : ofB p x = false := decide_eq_false hs
    rw [hg, Bool.false_or] at hT hF
    rw [if_neg (by decide)] at hT
    exact ⟨inR_i64.2 (by omega), mL_lt hi, ⟨⟨show (0 : Int) ≤ i + 1 by omega, show i + 1 ≤ (ss.length : Int) by omega, hl⟩, hF, hT⟩⟩
theorem ok68L : Lp2Ok Try.prog 68 0 lc68 := lp2_of (n := 5) (ex := ex68) (m := fun (r, _, i, _) => mL r.2.2.2.1 i) (good2_nil _) fun ((t, dy, wf, ss, ns, ()), p, i, ()) Q hx => by
  obtain ⟨⟨g1, g2, g3⟩, hF, hT⟩ := hx
  exact h68L t dy wf ss ns p i Q g1 g2 g3 hF hT
theorem ok68 : F2Ok Try.prog 68 fcAt := fn2_of (n := 5) ((good2_nil _).addL2 ok68L) fun ((t, dy, wf, ss, ns, ()), p, ()) K hx => by
  obtain ⟨g1, hK⟩ := hx
  show xfn2 Try.prog { l2 := [(68, 0, lc68)] } 5 68 fcAt ((t, dy, wf, ss, ns, ()), p, ()) K
  rw [v68F]
  simp only [fork_iff, req_iff, decide_eq_true_eq, true_and, List.drop_zero]
  exact ⟨⟨Int.le_refl (0 : Int), Int.natCast_nonneg _, g1⟩, fun h => hK _ ((firstIx_ge (ofB p) ss 0 (by omega)).1 h).symm, fun h => hK _ rfl⟩

/-! Sell -/
theorem newSu_step {d : Int} {ps : List Pa} {os : List Po} {i : Int} (h0 : 0 ≤ i) (h1 : i < ps.length) (hl : os.length = ps.length) :
    newSu d (ps.drop i.toNat) (os.drop i.toNat) = if 0 < (os.getD i.toNat (0, [], 0)).2.2 then ((ps.getD i.toNat ([], 0, [])).1, (os.getD i.toNat (0, [], 0)).2.2, d, 1, 0) :: newSu d (ps.drop (i + 1).toNat) (os.drop (i + 1).toNat) else newSu d (ps.drop (i + 1).toNat) (os.drop (i + 1).toNat) := by
  rw [drop_step ([], 0, []) h0 h1, drop_step (0, [], 0) h0 (show i < os.length by omega)]; rfl
theorem ix_ge {ss : List Su} {p : Tx} : ixS ss p ≥ 0 ↔ ss.any (ofB p) = true := by
  have h := ixS_neg (ss := ss) (p := p)
  cases ha : ss.any (ofB p) with
  | true => rw [ha] at h; simp only [Bool.true_eq_false, iff_false] at h; simp; omega
  | false => rw [ha] at h; simp only [iff_true] at h; simp; exact h
theorem h64L (t dy wf : Int) (ss : List Su) (ns : List Nt) (d pr : Int) (ps : List Pa) (os : List Po) (o : List Su) (i : Int) (Q : AX → St → Prop) (h0 : 0 ≤ i) (h1 : i ≤ ps.length) (hl : ps.length ≤ 8) (ho : os.length = ps.length) (hr : (o.length : Int) ≤ i) (hs : ss.length ≤ 256)
    (hT : (ps.drop i.toNat).any (fun p => ss.any (ofB p.1)) = true → Q .ret (stS 3 sh64r ([], 33, (t, dy, wf, ss, ns, ()), ())))
    (hF : (ps.drop i.toNat).any (fun p => ss.any (ofB p.1)) = false → ∀ o1, o1 = o ++ newSu d (ps.drop i.toNat) (os.drop i.toNat) → Q (.exit 0) (stS 4 sh64e ((t, dy, wf, ss, ns, ()), d, pr, os, o1, ()))) :
    xloop2 Try.prog { nm := true, f2 := [(68, fcAt)] } 5 64 0 lc64 ex64 (fun (_, _, _, ps, _, _, i, _) => mL ps i) ((t, dy, wf, ss, ns, ()), d, pr, ps, os, o, i, ()) Q := by
  rw [v64L]
  simp only [fork_iff, req_iff, decide_eq_true_eq, decide_eq_false_iff_not, gt_iff_lt, Nat.zero_add, seg_self, Nat.le_refl, true_and]
  refine ⟨fun hi => ⟨⟨h0, hi⟩, hs, fun x hx => ?_⟩, fun hi => hF (by rw [drop_end hi]; rfl) _ (by rw [drop_end hi]; simp [newSu])⟩
  rw [drop_step ([], 0, []) h0 hi, List.any_cons] at hT
  rw [newSu_step h0 hi ho, drop_step ([], 0, []) h0 hi, List.any_cons] at hF
  generalize ps.getD i.toNat ([], 0, []) = p at *
  generalize os.getD i.toNat (0, [], 0) = q at *
  refine ⟨fun hg => ?_, fun hg => ⟨⟨h0, by omega⟩, ?_⟩⟩
  · rw [hx, ix_ge] at hg
    rw [hg, Bool.true_or] at hT
    exact hT rfl
  · have hg : ss.any (ofB p.1) = false := by
      rw [hx, ix_ge] at hg; simpa using hg
    rw [hg, Bool.false_or] at hT hF
    refine ⟨fun hq => ⟨⟨h0, hi⟩, ⟨h0, by omega⟩, fits100 (by omega), fun ys hys => ?_⟩, fun hq => ?_⟩
    · rw [if_pos hq] at hF
      have hyl : o.length + 1 = ys.length := by rw [hys]; simp
      rw [seg_exact hyl]
      exact ⟨inR_i64.2 (by omega), by omega, mL_lt hi, ⟨⟨show (0 : Int) ≤ i + 1 by omega, show i + 1 ≤ (ps.length : Int) by omega, hl, ho, show (ys.length : Int) ≤ i + 1 by omega, hs⟩, hT, fun h o1 ho1 => hF h o1 (by rw [ho1, hys, List.append_assoc]; rfl)⟩⟩
    · rw [if_neg hq] at hF
      exact ⟨inR_i64.2 (by omega), mL_lt hi, ⟨⟨show (0 : Int) ≤ i + 1 by omega, show i + 1 ≤ (ps.length : Int) by omega, hl, ho, show (o.length : Int) ≤ i + 1 by omega, hs⟩, hT, hF⟩⟩
theorem ok64L : Lp2Ok Try.prog 64 0 lc64 := lp2_of (n := 5) (ex := ex64) (m := fun (_, _, _, ps, _, _, i, _) => mL ps i) ((good2_nilN _).addF2 ok68) fun ((t, dy, wf, ss, ns, ()), d, pr, ps, os, o, i, ()) Q hx => by
  obtain ⟨⟨g1, g2, g3, g4, g5, g6⟩, hT, hF⟩ := hx
  exact h64L t dy wf ss ns d pr ps os o i Q g1 g2 g3 g4 g5 g6 hT hF
theorem h64F (t dy wf : Int) (ss : List Su) (ns : List Nt) (d pr : Int) (ps : List Pa) (K : fcRSell.post.den → Prop) (g1 : okP (dy, wf, t, ss, ns)) (hr : ns.length ≤ 1000) (hp1 : ps.length ≤ big) (hp2 : ∀ p ∈ ps, p.1.length ≤ big ∧ p.2.2.length ≤ big)
    (hK : ∀ (ss1 : List Su) (ns1 : List Nt) (dy1 wf1 : Int) (os : List Po) (e : Int), ((dy1, wf1, t, ss1, ns1), os, e) = sellI (dy, wf, t, ss, ns) d pr ps → K ((t, dy1, wf1, ss1, ns1, ()), (), (), (), os, e, ())) :
    xfn2 Try.prog { nm := true, f := [(24, fcFrom), (21, fcPort)], l2 := [(64, 0, lc64)] } 6 64 fcRSell ((t, dy, wf, ss, ns, ()), d, pr, ps, ()) K := by
  rw [v64F]
  have bad : ∀ e, sellI (dy, wf, t, ss, ns) d pr ps = ((dy, wf, t, ss, ns), [], e) → K ((t, dy, wf, ss, ns, ()), (), (), (), [], e, ()) := fun e he => hK ss ns dy wf [] e he.symm
  have hl := g1.len
  have hd0 := g1.day
  simp only at hl hd0
  simp only [fork_iff, req_iff, decide_eq_true_eq, decide_eq_false_iff_not, bne_iff_ne, bne_eq_false_iff_eq, ne_eq, Bool.not_eq_true', Bool.not_eq_false', gt_iff_lt, Nat.zero_add, seg_self, Nat.le_refl, true_and, List.drop_zero, List.nil_append]
  refine ⟨fun h => bad 34 (sell34 (by simp only; omega)), fun hd => ⟨⟨hp1, hp2⟩, fun r e hpr => ⟨fun he => bad e (sellE ⟨by omega, hd.2, hd.1⟩ hpr he), fun he => ?_⟩⟩⟩
  subst he
  have hday : 0 ≤ d ∧ d ≤ 36500 ∧ dy ≤ d := ⟨by omega, hd.2, hd.1⟩
  obtain ⟨l1, l2, l3, l4, l5⟩ := port_left hpr
  refine ⟨⟨Int.le_refl (0 : Int), Int.natCast_nonneg _, l2, l1, Int.le_refl (0 : Int), hl⟩, fun hn => bad 33 (sell33 hday hpr hn), fun hn o ho => ?_⟩
  have hol : o.length = (newSu d ps r).length := congrArg List.length ho
  have ho8 : o.length ≤ 8 := by rw [hol]; exact Nat.le_trans (newSu_len ps r) l2
  refine ⟨inR_i64.2 (by omega), fun hf => bad 6 (sell6 hday hpr hn (by simp only; omega)), fun hf => ⟨fits100 (by omega), fun ys hys => ⟨fits100 (by omega), fun zs hzs => ?_⟩⟩⟩
  have hyl : ss.length + o.length = ys.length := by rw [hys]; simp
  have hzl : ns.length + 1 = zs.length := by rw [hzs]; simp
  rw [seg_exact hyl, seg_exact hzl]
  refine ⟨by omega, by omega, hK ys zs d wf r 0 ?_⟩
  rw [sell0 hday hpr hn (by simp only; omega)]
  simp only [noted]
  rw [hys, hzs]
  have ho : o = newSu d ps r := ho
  rw [ho]
theorem ok64 : F2Ok Try.prog 64 fcRSell := fn2_of (n := 6) ((((good2_nilN _).addL2 ok64L).addF ok21).addF ok24) fun ((t, dy, wf, ss, ns, ()), d, pr, ps, ()) K hx => by
  obtain ⟨⟨g1, g2, g3, g4⟩, hK⟩ := hx
  exact h64F t dy wf ss ns d pr ps K g1 g2 g3 g4 hK

/-! Pay -/
theorem h65F (t dy wf : Int) (ss : List Su) (ns : List Nt) (d : Int) (p : Tx) (K : fcRPay.post.den → Prop) (g1 : okP (dy, wf, t, ss, ns)) (hr : ns.length ≤ 1000)
    (hK : ∀ (ss1 : List Su) (ns1 : List Nt) (dy1 wf1 n : Int) (e : Int), ((dy1, wf1, t, ss1, ns1), n, e) = payI (dy, wf, t, ss, ns) d p → K ((t, dy1, wf1, ss1, ns1, ()), (), (), n, e, ())) :
    xfn2 Try.prog { nm := true, f := [(24, fcFrom)], f2 := [(68, fcAt)] } 6 65 fcRPay ((t, dy, wf, ss, ns, ()), d, p, ()) K := by
  rw [v65F]
  have bad : ∀ e, payI (dy, wf, t, ss, ns) d p = ((dy, wf, t, ss, ns), 0, e) → K ((t, dy, wf, ss, ns, ()), (), (), 0, e, ()) := fun e he => hK ss ns dy wf 0 e he.symm
  have ht := g1.term
  have hl := g1.len
  have hsu := g1.su
  have hd0 := g1.day
  simp only at ht hl hsu hd0
  simp only [fork_iff, req_iff, decide_eq_true_eq, decide_eq_false_iff_not, bne_iff_ne, bne_eq_false_iff_eq, ne_eq, Bool.not_eq_true', Bool.not_eq_false', ge_iff_le, Nat.zero_add, seg_self, Nat.le_refl, true_and]
  refine ⟨fun h => bad 34 (pay34 (by simp only; omega)), fun hd => ⟨hl, fun i hi => ?_⟩⟩
  have hday : 0 ≤ d ∧ d ≤ 36500 ∧ dy ≤ d := ⟨by omega, hd.2, hd.1⟩
  refine ⟨fun hn => bad 73 (pay73a hday (by rw [← hi]; exact hn)), fun hn => ?_⟩
  have hn' : ¬ ixS ss p < 0 := by rw [← hi]; exact hn
  obtain ⟨i0, i1, i2⟩ := ixS_at hn'
  have p73 := fun hb => bad 73 (pay73b (s := (dy, wf, t, ss, ns)) (d := d) (p := p) hday hn' hb)
  have p0 := fun hb => pay0 (s := (dy, wf, t, ss, ns)) (d := d) (p := p) hday hn' hb
  rw [← hi] at i0 i1
  simp only [← hi] at p73 p0
  have hlt : i.toNat < ss.length := by omega
  have hx := hsu _ (getSu_mem hlt)
  rw [show (([], 0, 0, 0, 0) : Su) = U0 from rfl]
  have hx1 := hx.day
  have hx2 := hx.sum
  refine ⟨⟨i0, i1⟩, hlt, fun hs => p73 (fun e => hs e.1), fun hs => ⟨⟨i0, i1⟩, hlt, inR_i64.2 (by omega), fun hp => p73 (fun e => absurd e.2 (by simp only [Int.not_lt]; exact hp)), fun hp => ⟨⟨i0, i1⟩, hlt, ⟨i0, i1⟩, hlt, fun ys hys => ?_⟩⟩⟩
  have e1 : ys = ss.set i.toNat (overI (ss.getD i.toNat U0) 2 d) := hys
  have l1 : ys.length = ss.length := by rw [e1, List.length_set]
  have e2 : (ys.getD i.toNat U0).2.1 = (ss.getD i.toNat U0).2.1 := by rw [e1, List.getD_eq_getElem?_getD, List.getElem?_set_self hlt]; rfl
  rw [e2, l1]
  refine ⟨⟨i0, i1⟩, hlt, fits100 (by omega), fun zs hz => ?_⟩
  have hzl : ns.length + 1 = zs.length := by rw [hz]; simp
  rw [seg_exact hzl, seg_exact l1.symm]
  refine ⟨⟨i0, i1⟩, hlt, Nat.le_refl _, by omega, hK ys zs d wf _ 0 ?_⟩
  rw [p0 ⟨hs, by simp only [Int.not_le] at hp; exact hp⟩]
  simp only [noted]
  rw [hz, e1]
theorem ok65 : F2Ok Try.prog 65 fcRPay := fn2_of (n := 6) (((good2_nilN _).addF2 ok68).addF ok24) fun ((t, dy, wf, ss, ns, ()), d, p, ()) K hx => by
  obtain ⟨⟨g1, g2⟩, hK⟩ := hx
  exact h65F t dy wf ss ns d p K g1 g2 hK

/-! Pass -/
theorem passN_cons (t d : Int) (x : Su) (l : List Su) : passN t d (x :: l) = (if goB t d x = true then x.2.1 else 0) + passN t d l := by rw [passN_eq, passN_eq, sumB_cons]
theorem h66L (t dy wf : Int) (ss : List Su) (ns : List Nt) (d n i : Int) (Q : AX → St → Prop) (h0 : 0 ≤ i) (h1 : i ≤ ss.length) (hl : ss.length ≤ 256) (hx : ∀ x ∈ ss, (0 ≤ x.2.1 ∧ x.2.1 ≤ 67108864) ∧ 0 ≤ x.2.2.1 ∧ x.2.2.1 ≤ 36500) (ht : 0 ≤ t ∧ t ≤ 12000) (n0 : 0 ≤ n) (n1 : n ≤ i * 67108864)
    (hQ : ∀ (s1 : List Su) (n1 : Int), s1 = ss.take i.toNat ++ (ss.drop i.toNat).map (passS t d) → n1 = n + passN t d (ss.drop i.toNat) → Q (.exit 0) (stS 3 sh66e ((t, dy, wf, s1, ns, ()), d, n1, ()))) :
    xloop2 Try.prog { nm := true } 5 66 0 lc66 (fun _ => some (sh66e, 3)) (fun (r, _, _, i, _) => mL r.2.2.2.1 i) ((t, dy, wf, ss, ns, ()), d, n, i, ()) Q := by
  rw [v66L]
  simp only [fork_iff, req_iff, decide_eq_true_eq, decide_eq_false_iff_not, beq_iff_eq, beq_eq_false_iff_ne, ne_eq, ge_iff_le, true_and]
  refine ⟨fun hi => ⟨⟨h0, hi⟩, by omega, ?_⟩, fun hi => hQ _ _ (by rw [drop_end hi, List.take_of_length_le (by omega)]; simp) (by rw [drop_end hi]; simp [passN_eq, sumB_nil])⟩
  have hlt : i.toNat < ss.length := by omega
  have hm := hx _ (getSu_mem hlt)
  have htk : ss.take (i + 1).toNat = ss.take i.toNat ++ [ss.getD i.toNat U0] := by
    rw [show (i + 1).toNat = i.toNat + 1 by omega, List.take_add_one, List.getElem?_eq_getElem hlt, List.getD_eq_getElem?_getD, List.getElem?_eq_getElem hlt]; rfl
  rw [drop_step U0 h0 hi, List.map_cons, passN_cons] at hQ
  rw [show (([], 0, 0, 0, 0) : Su) = U0 from rfl]
  have no : goB t d (ss.getD i.toNat U0) = false → inR .i64 (i + 1) = true ∧ mL ss (i + 1) < mL ss i ∧ LC2.spec lc66 ((t, dy, wf, ss, ns, ()), d, n, i + 1, ()) Q := fun hg => by
    rw [hg] at hQ
    rw [if_neg (by decide)] at hQ
    have hp : passS t d (ss.getD i.toNat U0) = ss.getD i.toNat U0 := by unfold passS; rw [hg]; rfl
    rw [hp] at hQ
    exact ⟨inR_i64.2 (by omega), mL_lt hi, ⟨⟨show (0 : Int) ≤ i + 1 by omega, show i + 1 ≤ (ss.length : Int) by omega, hl, hx, ht, n0, show n ≤ (i + 1) * 67108864 by omega⟩, fun s1 n1 hs hn => hQ s1 n1 (by rw [hs]; show ss.take (i + 1).toNat ++ _ = _; rw [htk, List.append_assoc]; rfl) (by rw [hn, Int.zero_add])⟩⟩
  have no := fun ha => (fun g => (⟨g.1, g.2.1, g.2.2.1, g.2.2.2⟩ : _ ∧ _ ∧ _ ∧ _)) (no ha)
  refine ⟨fun hs => ⟨inR_i64.2 (by omega), fun hp => ⟨inR_i64.2 (by omega), ⟨h0, hi⟩, hlt, ⟨h0, hi⟩, hlt, fun ys hys => ?_⟩, fun hp => no (goB_false fun e => hp e.2)⟩, fun hs => no (goB_false fun e => hs e.1)⟩
  have hg := goB_true hs hp
  have e1 : ys = ss.set i.toNat (overI (ss.getD i.toNat U0) 3 d) := hys
  have l1 : ys.length = ss.length := by rw [e1, List.length_set]
  rw [hg] at hQ
  rw [if_pos rfl] at hQ
  have hp2 : passS t d (ss.getD i.toNat U0) = overI (ss.getD i.toNat U0) 3 d := by unfold passS; rw [hg]; rfl
  rw [hp2] at hQ
  refine ⟨inR_i64.2 (by omega), l1.symm, ?_, ⟨⟨show (0 : Int) ≤ i + 1 by omega, ?_, ?_, ?_, ht, show (0 : Int) ≤ n + (ss.getD i.toNat U0).2.1 by omega, show n + (ss.getD i.toNat U0).2.1 ≤ (i + 1) * 67108864 by omega⟩, fun s1 n1 hs hn => hQ s1 n1 ?_ ?_⟩⟩
  · unfold mL; rw [l1]; omega
  · show i + 1 ≤ (ys.length : Int); rw [l1]; omega
  · show ys.length ≤ 256; rw [l1]; exact hl
  · show ∀ x ∈ ys, _
    rw [e1]
    intro x h
    rcases List.mem_or_eq_of_mem_set h with h | rfl
    · exact hx x h
    · exact hm
  · have hs : s1 = ys.take (i + 1).toNat ++ (ys.drop (i + 1).toNat).map (passS t d) := hs
    rw [hs, e1, List.take_set, List.drop_set_of_lt (by omega), htk]
    rw [List.set_append_right _ _ (by rw [List.length_take]; omega), List.length_take, show i.toNat - min i.toNat ss.length = 0 by omega, List.set_cons_zero, List.append_assoc]; rfl
  · have hn : n1 = n + (ss.getD i.toNat U0).2.1 + passN t d (ys.drop (i + 1).toNat) := hn
    rw [hn, e1, List.drop_set_of_lt (by omega)]; omega
theorem ok66L : Lp2Ok Try.prog 66 0 lc66 := lp2_of (n := 5) (ex := fun _ => some (sh66e, 3)) (m := fun (r, _, _, i, _) => mL r.2.2.2.1 i) (good2_nilN _) fun ((t, dy, wf, ss, ns, ()), d, n, i, ()) Q hx => by
  obtain ⟨⟨g1, g2, g3, g4, g5, g6, g7⟩, hQ⟩ := hx
  exact h66L t dy wf ss ns d n i Q g1 g2 g3 g4 g5 g6 g7 hQ
theorem h66F (t dy wf : Int) (ss : List Su) (ns : List Nt) (d : Int) (K : fcRPass.post.den → Prop) (g1 : okP (dy, wf, t, ss, ns)) (hr : ns.length ≤ 1000)
    (hK : ∀ (ss1 : List Su) (ns1 : List Nt) (dy1 wf1 n : Int) (e : Int), ((dy1, wf1, t, ss1, ns1), n, e) = passI (dy, wf, t, ss, ns) d → K ((t, dy1, wf1, ss1, ns1, ()), (), n, e, ())) :
    xfn2 Try.prog { nm := true, f := [(24, fcFrom)], l2 := [(66, 0, lc66)] } 6 66 fcRPass ((t, dy, wf, ss, ns, ()), d, ()) K := by
  rw [v66F]
  obtain ⟨hb, -, hp⟩ := okP_bd g1
  have hp := hp t d
  have ht := g1.term
  have hl := g1.len
  have hsu := g1.su
  have hd0 := g1.day
  have hm := sum_mem g1
  simp only at hb hp ht hl hsu hd0 hm
  simp only [fork_iff, req_iff, decide_eq_true_eq, decide_eq_false_iff_not, Bool.not_eq_true', Bool.not_eq_false', Nat.zero_add, seg_self, Nat.le_refl, true_and, List.drop_zero, List.take_zero, List.nil_append, Int.zero_add]
  refine ⟨fun h => hK ss ns dy wf 0 34 (pass34 (s := (dy, wf, t, ss, ns)) (by simp only; omega)).symm, fun hd => ⟨⟨Int.le_refl (0 : Int), Int.natCast_nonneg _, hl, fun x hx => ⟨hm x hx, (hsu x hx).day.1, Int.le_trans (hsu x hx).day.2 hd0.2⟩, ht, Int.le_refl (0 : Int), by decide⟩, fun s1 n1 hs hn => ?_⟩⟩
  have hday : 0 ≤ d ∧ d ≤ 36500 ∧ dy ≤ d := ⟨by omega, hd.2, hd.1⟩
  refine ⟨inR_i64.2 (by omega), fits100 (by omega), fun zs hz => ?_⟩
  have hzl : ns.length + 1 = zs.length := by rw [hz]; simp
  rw [seg_exact hzl]
  refine ⟨by omega, hK s1 zs d (wf + n1) n1 0 ?_⟩
  rw [pass0 (s := (dy, wf, t, ss, ns)) hday]
  simp only [noted]
  rw [hz, hs, hn]
theorem ok66 : F2Ok Try.prog 66 fcRPass := fn2_of (n := 6) (((good2_nilN _).addL2 ok66L).addF ok24) fun ((t, dy, wf, ss, ns, ()), d, ()) K hx => by
  obtain ⟨⟨g1, g2⟩, hK⟩ := hx
  exact h66F t dy wf ss ns d K g1 g2 hK
/-! Give -/
theorem h67F (t dy wf : Int) (ss : List Su) (ns : List Nt) (d : Int) (w : List Int) (K : fcRGive.post.den → Prop) (g1 : okP (dy, wf, t, ss, ns)) (hr : ns.length ≤ 1000) (hw : w.length ≤ big)
    (hK : ∀ (ss1 : List Su) (ns1 : List Nt) (dy1 wf1 : Int) (l : List Int) (e : Int), ((dy1, wf1, t, ss1, ns1), l, e) = giveI (dy, wf, t, ss, ns) d w → K ((t, dy1, wf1, ss1, ns1, ()), (), (), l, e, ())) :
    xfn2 Try.prog { nm := true, f := [(24, fcFrom), (50, fc47'), (51, fcShare')] } 6 67 fcRGive ((t, dy, wf, ss, ns, ()), d, w, ()) K := by
  rw [v67F]
  have hb := (okP_bd g1).1
  have hd0 := g1.day
  simp only at hb hd0
  have bad : ∀ e, giveI (dy, wf, t, ss, ns) d w = ((dy, wf, t, ss, ns), [], e) → K ((t, dy, wf, ss, ns, ()), (), (), [], e, ()) := fun e he => hK ss ns dy wf [] e he.symm
  simp only [fork_iff, req_iff, decide_eq_true_eq, decide_eq_false_iff_not, Bool.not_eq_true', Bool.not_eq_false', Nat.zero_add, seg_self, Nat.le_refl, true_and]
  refine ⟨fun h => bad 34 (give34 (by simp only; omega)), fun hd => ⟨hw, fun b hb1 => ⟨fun hf => bad 70 (give70 ⟨by omega, hd.2, hd.1⟩ (hb1.symm.trans hf)), fun hf => ⟨⟨hb1.symm.trans hf, hb.1, Int.le_trans hb.2 (by decide)⟩, fun r hr1 => ⟨fits100 (by omega), fun ys hys => ?_⟩⟩⟩⟩⟩
  have hl : ns.length + 1 = ys.length := by rw [hys]; simp
  rw [seg_exact hl]
  refine ⟨by omega, hK ss ys d 0 r 0 ?_⟩
  rw [give0 ⟨by omega, hd.2, hd.1⟩ (hb1.symm.trans hf)]
  simp only [noted]
  rw [hr1, hys]
theorem ok67 : F2Ok Try.prog 67 fcRGive := fn2_of (n := 6) ((((good2_nilN _).addF okShareR).addF ok50').addF ok24) fun ((t, dy, wf, ss, ns, ()), d, w, ()) K hx => by
  obtain ⟨⟨g1, g2, g3⟩, hK⟩ := hx
  exact h67F t dy wf ss ns d w K g1 g2 g3 hK
/-! acts, what can be asked -/
theorem h38F (t dy wf : Int) (ss : List Su) (ns : List Nt) (k d pr : Int) (ps : List Pa) (p : Tx) (w : List Int) (K : fcDue.post.den → Prop) (g1 : okP (dy, wf, t, ss, ns)) (g3 : ns.length ≤ 1000) (g5 : okA (k, d, pr, ps, p, w))
    (hK : ∀ (ss1 : List Su) (ns1 : List Nt) (dy1 wf1 : Int) (os : List Po) (l : List Int) (e : Int), ((dy1, wf1, t, ss1, ns1), os, l, e) = actI (dy, wf, t, ss, ns) (k, d, pr, ps, p, w) → K ((t, dy1, wf1, ss1, ns1, ()), (), os, l, e, ())) :
    xfn2 Try.prog { nm := true, f2 := [(64, fcRSell), (65, fcRPay), (66, fcRPass), (67, fcRGive)] } 5 38 fcDue ((t, dy, wf, ss, ns, ()), (k, d, pr, ps, p, w), ()) K := by
  rw [v38F]
  simp only [fork_iff, req_iff, decide_eq_true_eq, beq_iff_eq, beq_eq_false_iff_ne, ne_eq, Nat.zero_add, seg_self, Nat.le_refl, true_and]
  refine ⟨fun h1 => ⟨⟨g1, g3, g5.parts⟩, fun ss1 ns1 dy1 wf1 os e he => ?_⟩, fun h1 => ⟨fun h2 => ⟨⟨g1, g3⟩, fun ss1 ns1 dy1 wf1 n e he => ?_⟩, fun h2 => ⟨fun h3 => ⟨⟨g1, g3⟩, fun ss1 ns1 dy1 wf1 n e he => ?_⟩, fun h3 => ⟨⟨g1, g3, g5.weights⟩, fun ss1 ns1 dy1 wf1 l e he => ?_⟩⟩⟩⟩
  · refine hK ss1 ns1 dy1 wf1 os [] e ?_
    unfold actI; rw [if_pos h1]; simp only; rw [← he]
  · refine hK ss1 ns1 dy1 wf1 [] [n] e ?_
    unfold actI; rw [if_neg h1, if_pos h2]; simp only; rw [← he]
  · refine hK ss1 ns1 dy1 wf1 [] [n] e ?_
    unfold actI; rw [if_neg h1, if_neg h2, if_pos h3]; simp only; rw [← he]
  · refine hK ss1 ns1 dy1 wf1 [] l e ?_
    unfold actI; rw [if_neg h1, if_neg h2, if_neg h3]; simp only; rw [← he]
theorem ok38 : F2Ok Try.prog 38 fcDue := fn2_of (n := 5) (((((good2_nilN _).addF2 ok67).addF2 ok66).addF2 ok65).addF2 ok64) fun ((t, dy, wf, ss, ns, ()), (k, d, pr, ps, p, w), ()) K hx => by
  obtain ⟨⟨g1, g3, g5⟩, hK⟩ := hx
  exact h38F t dy wf ss ns k d pr ps p w K g1 g3 g5 hK
theorem h41L (t dy wf : Int) (ss : List Su) (ns : List Nt) (n i : Int) (Q : AX → St → Prop) (h0 : 0 ≤ i) (h1 : i ≤ ss.length) (hl : ss.length ≤ 256) (hx : ∀ x ∈ ss, 0 ≤ x.2.1 ∧ x.2.1 ≤ 67108864) (n0 : 0 ≤ n) (n1 : n ≤ i * 67108864)
    (hQ : ∀ r : Int, r = n + waitsN (ss.drop i.toNat) → Q (.exit 0) (stS 3 sh41e ((t, dy, wf, ss, ns, ()), r, ()))) :
    xloop2 Try.prog {} 5 41 0 lc41 (fun _ => some (sh41e, 3)) (fun (r, _, i, _) => mL r.2.2.2.1 i) ((t, dy, wf, ss, ns, ()), n, i, ()) Q := by
  rw [v41L]
  simp only [fork_iff, req_iff, decide_eq_true_eq, decide_eq_false_iff_not, beq_iff_eq, beq_eq_false_iff_ne, ne_eq, true_and]
  refine ⟨fun hi => ⟨⟨h0, hi⟩, by omega, ?_⟩, fun hi => hQ _ (by rw [drop_end hi]; simp [sumB_nil])⟩
  rw [drop_step U0 h0 hi] at hQ
  unfold waitsN at hQ
  rw [sumB_cons] at hQ
  have hm := hx _ (getSu_mem (show i.toNat < ss.length by omega))
  have hlt : i.toNat < ss.length := by omega
  rw [show (([], 0, 0, 0, 0) : Su) = U0 from rfl]
  generalize ss.getD i.toNat U0 = x at *
  refine ⟨fun hs => ⟨⟨h0, hi⟩, hlt, ?_⟩, fun hs => ?_⟩
  · rw [if_pos (show heldB x = true from decide_eq_true hs)] at hQ
    exact ⟨inR_i64.2 (by omega), inR_i64.2 (by omega), mL_lt hi, ⟨⟨show (0 : Int) ≤ i + 1 by omega, show i + 1 ≤ (ss.length : Int) by omega, hl, hx, show (0 : Int) ≤ n + x.2.1 by omega, show n + x.2.1 ≤ (i + 1) * 67108864 by omega⟩, fun r hr => hQ r (by have hr : r = _ + sumB heldB _ := hr; omega)⟩⟩
  · rw [if_neg (show ¬ heldB x = true from fun e => hs (of_decide_eq_true e))] at hQ
    exact ⟨inR_i64.2 (by omega), mL_lt hi, ⟨⟨show (0 : Int) ≤ i + 1 by omega, show i + 1 ≤ (ss.length : Int) by omega, hl, hx, n0, show n ≤ (i + 1) * 67108864 by omega⟩, fun r hr => hQ r (by have hr : r = _ + sumB heldB _ := hr; omega)⟩⟩
theorem ok41L : Lp2Ok Try.prog 41 0 lc41 := lp2_of (n := 5) (ex := fun _ => some (sh41e, 3)) (m := fun (r, _, i, _) => mL r.2.2.2.1 i) (good2_nil _) fun ((t, dy, wf, ss, ns, ()), n, i, ()) Q hx => by
  obtain ⟨⟨g3, g4, g5, g6, g7, g8⟩, hQ⟩ := hx
  exact h41L t dy wf ss ns n i Q g3 g4 g5 g6 g7 g8 hQ
theorem ok41 : F2Ok Try.prog 41 fcRWaits := fn2_of (n := 5) ((good2_nil _).addL2 ok41L) fun ((t, dy, wf, ss, ns, ()), ()) K hx => by
  obtain ⟨g1, hK⟩ := hx
  have hl := g1.len
  have hm := sum_mem g1
  simp only at hl hm
  show xfn2 Try.prog { l2 := [(41, 0, lc41)] } 5 41 fcRWaits ((t, dy, wf, ss, ns, ()), ()) K
  rw [v41F]
  simp only [fork_iff, req_iff, decide_eq_true_eq, Nat.zero_add, seg_self, Nat.le_refl, true_and, List.nil_append, List.drop_zero, Int.zero_add]
  exact ⟨⟨Int.le_refl (0 : Int), Int.natCast_nonneg _, hl, hm, Int.le_refl (0 : Int), by decide⟩, fun r hr => hK r hr⟩
theorem ok40 : F2Ok Try.prog 40 fcROwed := fn2_of (n := 5) ((good2_nil _).addF2 ok68) fun ((t, dy, wf, ss, ns, ()), p, ()) K hx => by
  obtain ⟨g1, hK⟩ := hx
  have hl := g1.len
  simp only at hl
  show xfn2 Try.prog { f2 := [(68, fcAt)] } 5 40 fcROwed ((t, dy, wf, ss, ns, ()), p, ()) K
  rw [v40F]
  simp only [fork_iff, req_iff, decide_eq_true_eq, decide_eq_false_iff_not, Nat.zero_add, seg_self, Nat.le_refl, true_and]
  refine ⟨hl, fun i hi => ⟨fun hn => hK U0 73 (by unfold owedI; rw [if_pos (by rw [← hi]; exact hn)]), fun hn => ?_⟩⟩
  have hn' : ¬ ixS ss p < 0 := by rw [← hi]; exact hn
  obtain ⟨i0, i1, i2⟩ := ixS_at hn'
  rw [← hi] at i0 i1
  exact ⟨⟨i0, i1⟩, by omega, hK _ _ (by unfold owedI; rw [if_neg hn', ← hi]; rfl)⟩
end Go.P7
