/- CensusForever and CensusAround return true. No conditions. -/
import Derived.Test.YtfbbpilflbpifaaForevS
set_option linter.constructorNameAsVariable false
set_option linter.unusedVariables false
set_option linter.unusedSimpArgs false
set_option maxRecDepth 100000
set_option maxHeartbeats 4000000
namespace Go.P10
open Go.Lom Go.Proofs Go

theorem h11L (ps : List Int) (n i : Int) (Q : LQ) (h1 : okPs ps) (h2 : 0 ≤ i ∧ i ≤ ps.length) (h3 : aliveB ps n.toNat zA = true) (hQ : Q (.exit 0) (stS 0 .nil ())) :
    xloop2 Try.prog { nm := true, f := [(46, fcLasts)], f2 := [(26, fc26)] } 5 11 0 lc11 ex11 (fun (ps, _, i, _) => mL ps i) (ps, n, i, ()) Q := by
  rw [v11L]
  have hl := h1.1
  refine fork_iff.2 ⟨fun hi => ?_, fun _ => hQ⟩
  have hi : i < ps.length := of_decide_eq_true hi
  have nx : req (inR .i64 (i + 1)) (mL ps (i + 1) < mL ps i ∧ lc11.spec (ps, n, i + 1, ()) Q) := req_iff.2 ⟨inR_i64.2 (by omega), mL_lt hi, ⟨h1, ⟨show (0 : Int) ≤ i + 1 by omega, show i + 1 ≤ (ps.length : Int) by omega⟩, h3⟩, hQ⟩
  have hp := h1.2 _ (getD_mem (show i.toNat < ps.length by omega) 0)
  refine ⟨by omega, fun r hr => ?_⟩
  subst hr
  simp only [Nat.add_zero]
  have d1 : decide (0 ≤ i ∧ i < (r.length : Int)) = true := decide_eq_true ⟨h2.1, hi⟩
  have d2 : decide (i.toNat < r.length) = true := decide_eq_true (by omega)
  refine req_iff.2 ⟨d1, req_iff.2 ⟨d2, req_iff.2 ⟨inR_i64.2 (by omega), req_iff.2 ⟨d1, req_iff.2 ⟨d2, fun ys hys => ?_⟩⟩⟩⟩⟩
  have hyl : ys.length = r.length := by rw [hys]; simp
  have hsg : seg 0 r.length ys = ys := by rw [← hyl]; exact seg_self ys
  rw [hsg]
  refine req_iff.2 ⟨decide_eq_true (by omega), by omega, fun m e hL => ?_⟩
  generalize hv : (if r.getD i.toNat 0 + 1 < 8 then r.getD i.toNat 0 + 1 else 8) = v at hys
  have hvb : r.getD i.toNat 0 ≤ v ∧ 1 ≤ v ∧ v ≤ 8 := by rw [← hv]; split <;> omega
  have hq : okPs ys := by
    refine ⟨by omega, fun x hx => ?_⟩
    rw [hys] at hx
    rcases List.mem_or_eq_of_mem_set hx with hx | hx
    · exact h1.2 x hx
    · rw [hx]; exact hvb.2
  have hw : aliveB ys n.toNat zA = true := by
    refine wide_alive hl.2 hyl (fun k hk => ?_) h3
    rw [hys, getD_set (by omega)]
    split
    · rename_i hk2; rw [← hk2]; exact hvb.1
    · exact Int.le_refl _
  refine fork_iff.2 ⟨fun c => fork_iff.2 ⟨fun d => ?_, fun d => fork_iff.2 ⟨fun f => ?_, fun _ => nx⟩⟩, fun _ => nx⟩
  · exfalso
    rcases hL with ⟨g1, _⟩ | ⟨_, _, _, g4⟩ | ⟨_, _, _, _, g5⟩
    · exact g1 hq
    · rw [g4] at c; simp at c
    · rw [g5] at d; simp at d
  · exfalso
    have f := of_decide_eq_true f
    rcases hL with ⟨g1, _⟩ | ⟨_, _, _, g4⟩ | ⟨_, _, g3, g4, g5⟩
    · exact g1 hq
    · rw [g4] at c; simp at c
    · have := (g4 n.toNat).1 hw
      omega
theorem ok11L : Lp2Ok Try.prog 11 0 lc11 := lp2_of (n := 5) (ex := ex11) (m := fun (ps, _, i, _) => mL ps i) (((good2_nilN _).addF2 ok26).addF ok46) fun (ps, n, i, ()) Q hx => by
  obtain ⟨⟨h1, h2, h3⟩, hQ⟩ := hx
  exact h11L ps n i Q h1 h2 h3 hQ
theorem turns_len {ps : List Int} {d : Int} {l : List Int} {e : Int} (h : TurnsR ps d l e) : l.length ≤ 64 := by
  rcases h with ⟨_, h, _⟩ | ⟨_, _, h, _⟩ | ⟨_, _, _, h, _⟩ | ⟨_, h1, _, h, _⟩
  · rw [h]; decide
  · rw [h]; decide
  · rw [h]; decide
  · rw [gr_len h]; omega
theorem h11 (ps ts : List Int) (n : Int) (K : dens [.b] → Prop) (h1 : ps.length ≤ big) (h2 : ts.length ≤ big) (h3 : inR .i64 n = true) (hK : K (true, ())) : xfn1 Try.prog { nm := true, f := [(18, fcSame), (19, fcWorks), (25, fc25), (42, fc42), (44, fcTurns), (46, fcLasts)], l2 := [(11, 0, lc11)] } 5 11 fc11 (ps, ts, n, ()) K := by
  rw [v11F]
  refine ⟨⟨h3, show (1 : Int) ≤ 65 by decide, show (65 : Int) ≤ 1000000 by decide⟩, fun (d : Int) hd => ?_⟩
  have hd : d = n % 65 := hd
  have d0 := Int.emod_nonneg n (show (65 : Int) ≠ 0 by decide)
  have d1 := Int.emod_lt_of_pos n (show (0 : Int) < 65 by decide)
  rw [← hd] at d0 d1
  clear hd h3
  refine ⟨h1, fun l e hT => ⟨h1, fun m f hL => ?_⟩⟩
  have hll := turns_len hT
  rcases hT with ⟨t1, t2, t3⟩ | ⟨_, t2, _⟩ | ⟨t1, t2, t3, t4, t5⟩ | ⟨t1, t2, t3, t4, t5⟩
  · have hf : f = 105 := by
      rcases hL with ⟨_, _, g⟩ | ⟨g, _⟩ | ⟨g, _⟩
      · exact g
      · exact absurd g t1
      · exact absurd g t1
    subst t2 t3 hf
    exact fork_iff.2 ⟨fun _ => fork_iff.2 ⟨fun _ => fork_iff.2 ⟨fun _ => hK, fun c => absurd c (by decide)⟩, fun c => absurd c (by decide)⟩, fun c => absurd c (by decide)⟩
  · exact absurd ⟨d0, by omega⟩ t2
  · have hf : f = 0 ∧ 0 ≤ m ∧ ∀ k : Nat, aliveB ps k zA = true ↔ (k : Int) ≤ m := by
      rcases hL with ⟨g, _⟩ | ⟨_, g, _⟩ | ⟨_, _, g3, g4, g5⟩
      · exact absurd t1 g
      · exact absurd g t3
      · exact ⟨g5, g3, g4⟩
    obtain ⟨hf, hm, ha⟩ := hf
    subst t4 t5 hf
    have fin : (okPs ps ∧ ((0 : Int) ≤ 0 ∧ (0 : Int) ≤ (ps.length : Int)) ∧ aliveB ps m.toNat zA = true) ∧ K (true, ()) := ⟨⟨t1, ⟨Int.le_refl 0, by omega⟩, (ha _).2 (by omega)⟩, hK⟩
    refine fork_iff.2 ⟨fun c => absurd c (by decide), fun _ => ⟨⟨h1, h2⟩, fun b e2 hb => fork_iff.2 ⟨fun c => absurd c (by decide), fun _ => fork_iff.2 ⟨fun c => absurd c (by decide), fun _ => fork_iff.2 ⟨fun c => absurd c (by decide), fun _ => fork_iff.2 ⟨fun c => absurd (of_decide_eq_true c) (by omega), fun _ => fork_iff.2 ⟨fun c => fork_iff.2 ⟨fun b1 => fork_iff.2 ⟨fun g => ?_, fun _ => fin⟩, fun _ => fin⟩, fun _ => fin⟩⟩⟩⟩⟩⟩⟩
    exfalso
    have g : (ts.length : Int) > m := of_decide_eq_true g
    unfold keepsV at hb
    split at hb
    · rename_i hts
      injection hb with hb1 hb2
      rw [b1] at hb1
      have := (ha _).1 (keeps_alive hts hb1.symm)
      omega
    · injection hb with hb1 hb2
      rw [hb1] at b1; cases b1
  · have hf : f = 4 := by
      rcases hL with ⟨g, _⟩ | ⟨_, _, _, g⟩ | ⟨_, g, _⟩
      · exact absurd t1 g
      · exact g
      · exact absurd t3 g
    subst t5 hf
    have hlen := gr_len t4
    have hlen2 : (l.length : Int) = d := by omega
    have e1 : Int.tdiv (l.length : Int) 2 = d / 2 := by rw [hlen2]; exact Int.tdiv_eq_ediv_of_nonneg d0
    have e2 : Int.tdiv d 2 = d / 2 := Int.tdiv_eq_ediv_of_nonneg d0
    rw [e1, e2]
    have hpt := gr_take t4 (m := (d / 2).toNat) (by omega)
    have k1 := gr_keeps t1 t4 (by omega)
    have k2 := gr_keeps t1 hpt (by omega)
    have in2 : inR .i64 (d / 2) = true := inR_i64.2 (by omega)
    have b2 : decide ((0 : Int) ≤ 0 ∧ 0 ≤ d / 2 ∧ d / 2 ≤ (l.length : Int)) = true := decide_eq_true ⟨Int.le_refl 0, by omega, by omega⟩
    refine fork_iff.2 ⟨fun c => absurd c (by decide), fun _ => ⟨⟨h1, h2⟩, fun b eb hb => fork_iff.2 ⟨fun _ => ⟨⟨h1, by omega⟩, fun b1 e1' hb1 => ?_⟩, fun c => absurd c (by decide)⟩⟩⟩
    rw [k1] at hb1
    injection hb1 with q1 q2
    subst q1 q2
    rw [List.drop_zero]
    refine req_iff.2 ⟨in2, req_iff.2 ⟨b2, ⟨h1, by rw [List.length_take]; omega⟩, fun b3 e3 hb3 => ?_⟩⟩
    rw [k2] at hb3
    injection hb3 with q1 q2
    subst q1 q2
    refine req_iff.2 ⟨in2, h1, fun l1 e4 hT2 => ?_⟩
    have hu := turnsR_uniq hT2 (.inr (.inr (.inr ⟨t1, ⟨by omega, by omega⟩, t3, hpt, rfl⟩)))
    obtain ⟨u1, u2⟩ := hu
    subst u1 u2
    have no : ∀ {P Q : Prop}, P → fork ((0 : Int) == 0) P Q := fun h => fork_iff.2 ⟨fun _ => h, fun c => absurd c (by decide)⟩
    have tt : ∀ {P Q : Prop}, P → fork true P Q := fun h => fork_iff.2 ⟨fun _ => h, fun c => absurd c (by decide)⟩
    refine fork_iff.2 ⟨fun _ => no (tt (no (tt (fork_iff.2 ⟨fun _ => no (req_iff.2 ⟨in2, req_iff.2 ⟨b2, by rw [List.length_take]; omega, fun r hr => fork_iff.2 ⟨fun _ => hK, fun c => ?_⟩⟩⟩), fun c => ?_⟩)))), fun c => absurd c (by decide)⟩
    · rw [c] at hr; simp at hr
    · rw [hlen2] at c; simp at c
theorem ok11 : FnOk Try.prog 11 fc11 := fn1_of (n := 5) (((((((good2_nilN _).addL2 ok11L).addF ok46).addF ok44).addF ok42).addF ok25).addF okWorks |>.addF ok18) fun (ps, ts, n, ()) K hx => h11 ps ts n K hx.1.1 hx.1.2.1 hx.1.2.2 hx.2
/-! CensusAround -/
theorem h12L (ps ts l : List Int) (Q : LQ) (h1 : 1 ≤ ts.length) (h2 : ts.length ≤ 16) (h3 : l.length ≤ 64) (h4 : l = cyc ts l.length) (hQ : ∀ l' : List Int, l' = cyc ts 64 → Q (.exit 0) (stS 1 sh12 (ps, ts, l', ()))) :
    xloop2 Try.prog { nm := true } 5 12 0 lc12 (fun _ => some (sh12, 1)) (fun (_, _, l, _) => 64 - l.length) (ps, ts, l, ()) Q := by
  rw [v12L]
  rw [seg_self]
  have t0 : decide (0 + l.length ≤ l.length) = true := decide_eq_true (by omega)
  have em : Int.tmod (l.length : Int) (ts.length : Int) = ((l.length % ts.length : Nat) : Int) := by
    rw [Int.tmod_eq_emod_of_nonneg (by omega)]; omega
  have hlt := Nat.mod_lt l.length (show 0 < ts.length by omega)
  rw [em]
  refine fork_iff.2 ⟨fun c => ?_, fun c => ?_⟩
  · have c : (l.length : Int) < 64 := of_decide_eq_true c
    refine req_iff.2 ⟨decide_eq_true (by omega), req_iff.2 ⟨decide_eq_true (by omega), req_iff.2 ⟨t0, req_iff.2 ⟨fitsM (by omega), fun ys hys => ?_⟩⟩⟩⟩
    rw [Int.toNat_natCast] at hys
    have hyl : ys.length = l.length + 1 := by rw [hys]; simp
    have hsg : seg 0 (l.length + 1) ys = ys := by rw [← hyl]; exact seg_self ys
    rw [hsg]
    refine req_iff.2 ⟨decide_eq_true (by omega), by omega, ⟨⟨h1, h2⟩, show ys.length ≤ 64 by omega, ?_⟩, hQ⟩
    show ys = cyc ts ys.length
    rw [hyl, cyc_succ, ← h4]; exact hys
  · have c : ¬ (l.length : Int) < 64 := of_decide_eq_false c
    have e : l.length = 64 := by omega
    rw [e] at h4
    exact req_iff.2 ⟨t0, hQ l h4⟩
theorem ok12L : Lp2Ok Try.prog 12 0 lc12 := lp2_of (n := 5) (ex := fun _ => some (sh12, 1)) (m := fun (_, _, l, _) => 64 - l.length) (good2_nilN _) fun (ps, ts, l, ()) Q hx => by
  obtain ⟨⟨h1, h2, h3⟩, hQ⟩ := hx
  exact h12L ps ts l Q h1.1 h1.2 h2 h3 hQ
theorem h12 (ps ts : List Int) (K : dens [.b] → Prop) (h1 : ps.length ≤ big) (h2 : ts.length ≤ big) (hK : K (true, ())) : xfn1 Try.prog { nm := true, f := [(19, fcWorks), (34, fcAhead), (42, fc42), (44, fcTurns)], l2 := [(12, 0, lc12)] } 5 12 fc12 (ps, ts, ()) K := by
  rw [v12F]
  refine fork_iff.2 ⟨fun _ => hK, fun a => fork_iff.2 ⟨fun _ => hK, fun b => ?_⟩⟩
  have a : ¬ (ts.length : Int) = 0 := by simpa using a
  have b : ¬ (ts.length : Int) > 16 := of_decide_eq_false b
  refine ⟨⟨⟨by omega, by omega⟩, by decide, rfl⟩, fun l hl => req_iff.2 ⟨decide_eq_true (by omega), ?_⟩⟩
  rw [seg_self]
  have hll : l.length = 64 := by rw [hl, cyc_len]
  refine ⟨⟨h1, by omega⟩, fun is e hk => ?_⟩
  unfold keepsV at hk
  split at hk
  · rename_i hok
    injection hk with g1 g2
    subst g2
    refine fork_iff.2 ⟨fun c => absurd c (by decide), fun _ => fork_not (fun _ => fork_iff.2 ⟨fun _ => hK, fun c => absurd c (by decide)⟩) fun hb => ⟨h1, fun x e hT => ?_⟩⟩
    rw [hb] at g1
    have hr := room_range hok.2.2
    rw [hl] at g1 hr
    obtain ⟨hev, hah⟩ := around hok.1 (by omega) (by omega) hr g1.symm
    rcases hT with ⟨t1, _⟩ | ⟨_, t2, _⟩ | ⟨_, _, t3, _⟩ | ⟨t1, t2, t3, t4, t5⟩
    · exact absurd hok.1 t1
    · exact absurd ⟨by omega, by omega⟩ t2
    · exact absurd hev t3
    · rw [Int.toNat_natCast] at t4
      subst t5
      exact fork_iff.2 ⟨fun _ => ⟨h2, fork_not (fun _ => hK) fun c => by rw [hah x t4] at c; cases c⟩, fun c => absurd c (by decide)⟩
  · injection hk with g1 g2
    subst g2
    exact fork_iff.2 ⟨fun _ => fork_iff.2 ⟨fun c => absurd c (by decide), fun _ => fork_iff.2 ⟨fun _ => hK, fun c => absurd c (by decide)⟩⟩, fun c => absurd c (by decide)⟩
theorem ok12 : FnOk Try.prog 12 fc12 := fn1_of (n := 5) (((((good2_nilN _).addL2 ok12L).addF ok44).addF ok42).addF ok34 |>.addF okWorks) fun (ps, ts, ()) K hx => h12 ps ts K hx.1.1 hx.1.2 hx.2
end Go.P10
