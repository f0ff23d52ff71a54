/- CensusTurns returns true. No conditions. -/
import Derived.Test.YtfbbpilflbpifaaLivfP
import Derived.Test.YtfbbpilflbpifaaWalkL
set_option linter.constructorNameAsVariable false
set_option linter.unusedVariables false
set_option linter.unusedSimpArgs false
set_option maxRecDepth 100000
set_option maxHeartbeats 4000000
namespace Go.P10
open Go.Lom Go.Proofs Go
theorem max_spec : ∀ {l : List Int} {m : Int}, m ≤ maxL m l ∧ (∀ x ∈ l, x ≤ maxL m l) ∧ (maxL m l = m ∨ maxL m l ∈ l)
  | [], m => ⟨Int.le_refl m, fun x hx => (by cases hx), .inl rfl⟩
  | x :: l, m => by
    obtain ⟨h1, h2, h3⟩ := max_spec (l := l) (m := max m x)
    have e : maxL m (x :: l) = maxL (max m x) l := rfl
    rw [e]
    refine ⟨by omega, fun y hy => ?_, ?_⟩
    · rcases List.mem_cons.1 hy with rfl | hy
      · omega
      · exact h2 y hy
    · rcases h3 with h3 | h3
      · by_cases c : m ≤ x
        · right; rw [h3]; exact List.mem_cons.2 (.inl (by omega))
        · left; rw [h3]; omega
      · exact .inr (List.mem_cons_of_mem _ h3)
theorem goes_iff {ps L xs : List Int} {t : Int} (hp : okPs ps) (hv : vldL ps xs) : goesB (ps, L) xs t = true ↔ ∃ b ∈ sucL ps (toA xs) 0, L.getD (numL 0 ps (agL ps b)).toNat 0 ≥ t := by
  have key : ∀ k : Nat, k < ps.length → (goodN (ps, L) xs t k = true ↔ ∃ b, nextR ps (toA xs) k = some b ∧ L.getD (numL 0 ps (agL ps b)).toNat 0 ≥ t) := fun k hk => by
    have ha := after_next hp hv (show (0 : Int) ≤ (k : Int) by omega)
    rw [Int.toNat_natCast] at ha
    unfold goodN
    cases hx : nextR ps (toA xs) k with
    | none =>
      rw [hx] at ha
      rw [show afterL (k : Int) (ps, L).1 xs 0 = none from ha]
      exact ⟨fun h => (by cases h), fun ⟨b, h, _⟩ => (by cases h)⟩
    | some b =>
      rw [hx] at ha
      rw [show afterL (k : Int) (ps, L).1 xs 0 = some (agL ps b) from ha]
      constructor
      · intro g
        exact ⟨b, rfl, of_decide_eq_true g⟩
      · rintro ⟨c, hc, g⟩
        injection hc with hc
        subst hc
        exact decide_eq_true g
  unfold goesB
  rw [List.any_eq_true]
  constructor
  · rintro ⟨r, hr, hg⟩
    have hr := mem_upTo.1 hr
    obtain ⟨k, rfl⟩ : ∃ k : Nat, r = k := ⟨r.toNat, by omega⟩
    have hk : k < ps.length := by have := hr.2; dsimp only at this; omega
    obtain ⟨b, h1, h2⟩ := (key k hk).1 hg
    exact ⟨b, sucL_mem.2 ⟨k, Nat.zero_le _, hk, h1⟩, h2⟩
  · rintro ⟨b, hb, h2⟩
    obtain ⟨k, _, hk, h1⟩ := sucL_mem.1 hb
    exact ⟨k, mem_upTo.2 ⟨by omega, by dsimp only; omega⟩, (key k hk).2 ⟨b, h1, h2⟩⟩
theorem suc_vld {ps : List Int} (hp : okPs ps) {a b : Ag} (ha : validA ps a) (hb : b ∈ sucL ps a 0) : validA ps b := by
  obtain ⟨k, _, _, hx⟩ := sucL_mem.1 hb
  exact nextR_valid hp ha hx
section
variable {ps L : List Int} {t : Nat}
theorem fin_at (hp : okPs ps) (h : LiF ps L t) {a : Ag} (ha : validA ps a) : (numL 0 ps (agL ps a)).toNat < L.length ∧ (Ever ps a → L.getD (numL 0 ps (agL ps a)).toNat 0 = t + 1) ∧
    (¬ Ever ps a → 0 ≤ L.getD (numL 0 ps (agL ps a)).toNat 0 ∧ L.getD (numL 0 ps (agL ps a)).toNat 0 < t ∧ ∀ k : Nat, aliveB ps k a = true ↔ (k : Int) ≤ L.getD (numL 0 ps (agL ps a)).toNat 0) := by
  have hl := vld_agL hp ha
  obtain ⟨n0, n1⟩ := num_bd hl
  have hlen := h.len
  have hlt : (numL 0 ps (agL ps a)).toNat < L.length := by omega
  have e : toA (agesN ps ((numL 0 ps (agL ps a)).toNat : Nat)) = a := by
    rw [show (((numL 0 ps (agL ps a)).toNat : Nat) : Int) = numL 0 ps (agL ps a) by omega, ages_num hp hl, toA_agL hp ha]
  have h1 := h.ever _ hlt
  have h2 := h.not _ hlt
  rw [e] at h1 h2
  exact ⟨hlt, h1, h2⟩
theorem fin_le (hp : okPs ps) (h : LiF ps L t) : ∀ x ∈ L, x ≤ (t : Int) + 1 := fun x hx => by
  obtain ⟨n, hn, rfl⟩ := List.mem_iff_getElem.1 hx
  have e : L.getD n 0 = L[n] := by rw [List.getD_eq_getElem?_getD, List.getElem?_eq_getElem hn]; rfl
  by_cases c : Ever ps (toA (agesN ps n))
  · have := h.ever n hn c; omega
  · have := (h.not n hn c).2.1; omega
theorem forever_of (hp : okPs ps) (h : LiF ps L t) {xs : List Int} (hv : vldL ps xs) : (L.getD (numL 0 ps xs).toNat 0 = maxL 0 L ∧ goesB (ps, L) xs (maxL 0 L) = true) ↔ Ever ps (toA xs) := by
  have ha := vld_toA hp hv
  have hx := agL_toA hp.1.2 hv.1
  obtain ⟨hlt, f1, f2⟩ := fin_at hp h ha
  rw [hx] at hlt f1 f2
  obtain ⟨m1, m2, m3⟩ := max_spec (l := L) (m := 0)
  have hle := fin_le hp h
  have hmax : maxL 0 L ≤ (t : Int) + 1 := by
    rcases m3 with e | e
    · omega
    · exact hle _ e
  constructor
  · rintro ⟨g1, g2⟩
    refine Classical.byContradiction fun hE => ?_
    obtain ⟨q1, q2, q3⟩ := f2 hE
    obtain ⟨b, hb, hg⟩ := (goes_iff hp hv).1 g2
    have hbv := suc_vld hp ha hb
    obtain ⟨blt, b1, b2⟩ := fin_at hp h hbv
    by_cases c : Ever ps b
    · have := m2 _ (getD_mem blt 0)
      have := b1 c
      omega
    · obtain ⟨p1, p2, p3⟩ := b2 c
      have hal : aliveB ps ((L.getD (numL 0 ps xs).toNat 0).toNat) b = true := (p3 _).2 (by omega)
      have : aliveB ps ((L.getD (numL 0 ps xs).toNat 0).toNat + 1) (toA xs) = true := List.any_eq_true.2 ⟨b, hb, hal⟩
      have := (q3 _).1 this
      omega
  · intro hE
    have e := f1 hE
    have hm := m2 _ (getD_mem hlt 0)
    refine ⟨by omega, (goes_iff hp hv).2 ?_⟩
    obtain ⟨b, hb, hEb⟩ := ever_next hE
    have hbv := suc_vld hp ha hb
    obtain ⟨blt, b1, _⟩ := fin_at hp h hbv
    exact ⟨b, hb, by have := b1 hEb; omega⟩
end
theorem h87L (xs : List Int) (x : Lv) (m i : Int) (Q : LQ) (h1 : x.2.length ≤ 40000) (h2 : 0 ≤ i ∧ i ≤ x.2.length) (hQ : ∀ m' : Int, m' = maxL m (x.2.drop i.toNat) → Q (.exit 0) (stS 1 sh87e (xs, x, m', ()))) :
    xloop2 Try.prog { nm := true } 5 87 0 lc87 (fun _ => some (sh87e, 1)) (fun (_, x, _, i, _) => mL x.2 i) (xs, x, m, i, ()) Q := by
  rw [v87L]
  refine fork_iff.2 ⟨fun hi => ?_, fun hi => ?_⟩
  · have hi : i < x.2.length := of_decide_eq_true hi
    rw [drop_step 0 h2.1 hi] at hQ
    have e : (if x.2.getD i.toNat 0 > m then x.2.getD i.toNat 0 else m) = max m (x.2.getD i.toNat 0) := by split <;> omega
    rw [e]
    exact req_iff.2 ⟨decide_eq_true ⟨h2.1, hi⟩, req_iff.2 ⟨inR_i64.2 (by omega), mL_lt hi, ⟨h1, show (0 : Int) ≤ i + 1 by omega, show i + 1 ≤ (x.2.length : Int) by omega⟩, hQ⟩⟩
  · have hi : ¬ i < x.2.length := of_decide_eq_false hi
    rw [drop_end hi] at hQ
    exact hQ m rfl
theorem ok87L : Lp2Ok Try.prog 87 0 lc87 := lp2_of (n := 5) (ex := fun _ => some (sh87e, 1)) (m := fun (_, x, _, i, _) => mL x.2 i) (good2_nilN _) fun (xs, x, m, i, ()) Q hx => by
  obtain ⟨⟨h1, h2⟩, hQ⟩ := hx
  exact h87L xs x m i Q h1 h2 hQ
theorem h87 (x : Lv) (xs : List Int) (K : dens [.b] → Prop) (h1 : livesR x) (h2 : vldL x.1 xs) (hK : ∀ b : Bool, (b = true ↔ Ever x.1 (toA xs)) → K (b, ())) : xfn1 Try.prog { nm := true, f := [(88, fc88), (100, fc100)], l2 := [(87, 0, lc87)] } 5 87 fc87 (x, xs, ()) K := by
  rw [v87F]
  obtain ⟨hp, t, hF⟩ := h1
  have hb := prod_bd hp
  have hlen := hF.len
  have hfo := forever_of hp hF h2
  obtain ⟨n0, n1⟩ := num_bd h2
  refine ⟨⟨by omega, Int.le_refl 0, show (0 : Int) ≤ (x.2.length : Int) by omega⟩, fun m hm => ⟨⟨hp, h2⟩, fun r hr => ?_⟩⟩
  rw [List.drop_zero] at hm
  rw [← hr, ← hm] at hfo
  rw [← hr] at n0 n1
  refine req_iff.2 ⟨decide_eq_true ⟨n0, by omega⟩, fork_iff.2 ⟨fun c => ⟨⟨⟨hp, hlen⟩, h2⟩, fun b hb => hK b ?_⟩, fun c => hK false ⟨fun h => (by cases h), fun hE => ?_⟩⟩⟩
  · have c : x.2.getD r.toNat 0 = m := by simpa using c
    rw [hb]
    exact ⟨fun g => hfo.1 ⟨c, g⟩, fun hE => (hfo.2 hE).2⟩
  · rw [(hfo.2 hE).1] at c; simp at c
theorem ok87 : FnOk Try.prog 87 fc87 := fn1_of (n := 5) ((((good2_nilN _).addL2 ok87L).addF ok100).addF ok88) fun (x, xs, ()) K hx => h87 x xs K hx.1.1 hx.1.2 hx.2
theorem h47 (ps : List Int) (K : dens [I, E] → Prop) (h1 : ps.length ≤ big) (hK : ∀ n e, LastsR ps n e → K (n, e, ())) : xfn1 Try.prog { nm := true, f := [(83, fc83), (86, fc86), (87, fc87), (88, fc88)] } 5 47 fcLasts (ps, ()) K := by
  rw [v47F]
  rw [seg_rep, zero_toA]
  refine ⟨h1, fun b hb => fork_not (fun c => hK 0 105 (.inl ⟨fun h => ?_, rfl, rfl⟩)) fun c => ?_⟩
  · rw [hb, decide_eq_true h] at c; cases c
  rw [c] at hb
  have hp := of_decide_eq_true hb.symm
  have hz := vld_zero hp
  refine ⟨hp, fun L' t' hF => req_iff.2 ⟨mk_ok5 hp.1.2, req_iff.2 ⟨decide_eq_true (by simp), ⟨⟨hp, t', hF⟩, hz⟩, fun b2 hb2 => fork_iff.2 ⟨fun d => hK 0 4 (.inr (.inl ⟨hp, hb2.1 d, rfl, rfl⟩)), fun d => req_iff.2 ⟨decide_eq_true (by simp), ⟨hp, hz⟩, fun r hr => ⟨rfl, ?_⟩⟩⟩⟩⟩⟩
  have hE : ¬ Ever ps zA := fun h => by rw [hb2.2 h] at d; cases d
  have hza : agL ps zA = List.replicate ps.length 0 := by
    have := agL_toA hp.1.2 hz.1
    rw [zero_toA] at this
    exact this
  obtain ⟨hlt, _, f2⟩ := fin_at hp hF (valid_zero hp)
  rw [show agL ps (0, 0, 0, 0, 0) = List.replicate ps.length 0 from hza, ← hr] at hlt f2
  obtain ⟨q1, _, q3⟩ := f2 hE
  obtain ⟨n0, n1⟩ := num_bd hz
  rw [← hr] at n0
  exact req_iff.2 ⟨decide_eq_true ⟨n0, by omega⟩, hK _ _ (.inr (.inr ⟨hp, hE, q1, q3, rfl⟩))⟩
theorem ok47 : FnOk Try.prog 47 fcLasts := fn1_of (n := 5) (((((good2_nilN _).addF ok88).addF ok87).addF ok86).addF ok83) fun (ps, ()) K hx => h47 ps K hx.1 hx.2
theorem first_step {ps : List Int} {j : Int} {a : Ag} {o o' : List Int} {a' : Ag} (h0 : 0 ≤ j) (hng : ¬ goodR ps a j.toNat) (h : FirstR ps (j + 1) a o o' a') : FirstR ps j a o o' a' := by
  have hk : ∀ k : Nat, j ≤ k → ¬ (j + 1 ≤ k) → k = j.toNat := fun k h1 h2 => by omega
  rcases h with ⟨r, h1, h2, h3, h4, h5, h6⟩ | ⟨h1, h2, h3⟩
  · refine .inl ⟨r, by omega, h2, h3, h4, fun k hk1 hk2 => ?_, h6⟩
    by_cases c : j + 1 ≤ k
    · exact h5 k c hk2
    · rw [hk k hk1 c]; exact hng
  · refine .inr ⟨fun k hk1 hk2 => ?_, h2, h3⟩
    by_cases c : j + 1 ≤ k
    · exact h1 k c hk2
    · rw [hk k hk1 c]; exact hng
theorem h45B (ps : List Int) (d : Int) (L : List Int) (xs o : List Int) (i j : Int) (Q : LQ) (h1 : livesR (ps, L)) (h2 : vldL ps xs) (h3 : 0 ≤ j ∧ j ≤ ps.length) (h4 : o.length ≤ 64) (hQ : ∀ o' a', FirstR ps j (toA xs) o o' a' → Q (.exit 2) (stS 2 sh45be (ps, d, (ps, L), agL ps a', o', i, ()))) :
    xloop2 Try.prog { nm := true, f := [(84, fc84), (87, fc87)] } 5 45 1 lc45b (fun _ => some (sh45be, 2)) (fun (ps, _, _, _, _, _, j, _) => mL ps j) (ps, d, (ps, L), xs, o, i, j, ()) Q := by
  rw [v45B]
  obtain ⟨hp, _⟩ := id h1
  have hp : okPs ps := hp
  have h5 := hp.1.2
  have ha := vld_toA hp h2
  have t0 : decide (0 + o.length ≤ o.length) = true := decide_eq_true (by omega)
  rw [seg_self]
  refine fork_iff.2 ⟨fun hi => ?_, fun hi => ?_⟩
  · have hi : j < ps.length := of_decide_eq_true hi
    have hnx := after_next hp h2 h3.1
    have nx : ¬ goodR ps (toA xs) j.toNat → req (inR .i64 (j + 1)) (req (decide (0 + o.length ≤ o.length)) (mL ps (j + 1) < mL ps j ∧ lc45b.spec (ps, d, (ps, L), xs, o, i, j + 1, ()) Q)) := fun hg =>
      req_iff.2 ⟨inR_i64.2 (by omega), req_iff.2 ⟨t0, mL_lt hi, ⟨rfl, h1, h2, ⟨show (0 : Int) ≤ j + 1 by omega, show j + 1 ≤ (ps.length : Int) by omega⟩, h4⟩, fun o' a' hf => hQ o' a' (first_step h3.1 hg hf)⟩⟩
    refine ⟨⟨h2.1.symm, vld_sm hp h2⟩, fun l b hb _ => ?_⟩
    rw [hnx] at hb
    cases b with
    | false =>
      refine fork_iff.2 ⟨fun c => absurd c (by decide), fun _ => nx ?_⟩
      rintro ⟨c, hc, _⟩
      rw [hc] at hb; cases hb
    | true =>
      cases hn : nextR ps (toA xs) j.toNat with
      | none => rw [hn] at hb; cases hb
      | some c =>
        rw [hn] at hb
        injection hb with hb
        have hcv := nextR_valid hp ha hn
        have hlv := vld_agL hp hcv
        have hcl := toA_agL hp hcv
        subst hb
        refine fork_iff.2 ⟨fun _ => ⟨⟨h1, hlv⟩, fun b2 hb2 => fork_iff.2 ⟨fun e => ?_, fun e => nx ?_⟩⟩, fun c => absurd c (by decide)⟩
        · have hE : Ever ps c := by
            have := hb2.1 e
            rwa [hcl] at this
          refine req_iff.2 ⟨t0, req_iff.2 ⟨fitsM (by omega), fun ys hys => ?_⟩⟩
          have hyl : ys.length = o.length + 1 := by rw [hys]; simp
          have hsg : seg 0 (o.length + 1) ys = ys := by rw [← hyl]; exact seg_self ys
          rw [hsg]
          refine req_iff.2 ⟨decide_eq_true (by omega), hQ _ c (.inl ⟨j.toNat, by omega, by omega, hn, hE, fun k hk1 hk2 => by omega, ?_⟩)⟩
          rw [hys, show ((j.toNat : Nat) : Int) = j by omega]
        · rintro ⟨c2, hc2, hE⟩
          rw [hn] at hc2
          injection hc2 with hc2
          subst hc2
          rw [hb2.2 (by rw [hcl]; exact hE)] at e; cases e
  · have hi : ¬ j < ps.length := of_decide_eq_false hi
    have := hQ o (toA xs) (.inr ⟨fun k hk1 hk2 => by omega, rfl, rfl⟩)
    rw [agL_toA h5 h2.1] at this
    exact req_iff.2 ⟨t0, this⟩
theorem ok45B : Lp2Ok Try.prog 45 1 lc45b := lp2_of (n := 5) (ex := fun _ => some (sh45be, 2)) (m := fun (ps, _, _, _, _, _, j, _) => mL ps j) (((good2_nilN _).addF ok87).addF ok84) fun (ps, d, (qs, L), xs, o, i, j, ()) Q hx => by
  obtain ⟨⟨hq, h1, h2, h3, h4⟩, hQ⟩ := hx
  have hq : qs = ps := hq
  subst hq
  exact h45B qs d L xs o i j Q h1 h2 h3 h4 hQ
theorem h45A (ps : List Int) (d : Int) (L : List Int) (xs o : List Int) (i : Int) (Q : LQ) (h1 : livesR (ps, L)) (h2 : vldL ps xs) (h3 : Ever ps (toA xs)) (h4 : 0 ≤ i ∧ i ≤ d ∧ d ≤ 64) (h5 : (o.length : Int) = i) (hQ : ∀ l, Gr ps (d - i).toNat (toA xs) l → Q (.exit 0) (stS 2 (S [(8, .own 1 I)]) (o ++ l, ()))) :
    xloop2 Try.prog { nm := true, l2 := [(45, 1, lc45b)] } 5 45 0 lc45a (fun _ => some (S [(8, .own 1 I)], 2)) (fun (_, d, _, _, _, i, _) => (d - i).toNat) (ps, d, (ps, L), xs, o, i, ()) Q := by
  rw [v45A]
  obtain ⟨hp, _⟩ := id h1
  have hp : okPs ps := hp
  have ha := vld_toA hp h2
  have t0 : decide (0 + o.length ≤ o.length) = true := decide_eq_true (by omega)
  rw [seg_self]
  refine fork_iff.2 ⟨fun hi => ?_, fun hi => ?_⟩
  · have hi : i < d := of_decide_eq_true hi
    refine req_iff.2 ⟨t0, ⟨rfl, h1, h2, ⟨Int.le_refl 0, show (0 : Int) ≤ (ps.length : Int) by omega⟩, by omega⟩, fun o' a' hf => ?_⟩
    rcases hf with ⟨r, r1, r2, r3, r4, r5, r6⟩ | ⟨r1, _⟩
    · have hav := nextR_valid hp ha r3
      have hol : o'.length = o.length + 1 := by rw [r6]; simp
      rw [seg_self]
      refine req_iff.2 ⟨inR_i64.2 (by omega), req_iff.2 ⟨decide_eq_true (by omega), show (d - (i + 1)).toNat < (d - i).toNat by omega, ⟨rfl, h1, vld_agL hp hav, by rw [toA_agL hp hav]; exact r4, ⟨show (0 : Int) ≤ i + 1 by omega, show i + 1 ≤ d by omega, h4.2.2⟩, show (o'.length : Int) = i + 1 by omega⟩, fun l hl => ?_⟩⟩
      have hl : Gr ps (d - (i + 1)).toNat (toA (agL ps a')) l := hl
      rw [toA_agL hp hav] at hl
      have := hQ ((r : Int) :: l) (by
        rw [show (d - i).toNat = (d - (i + 1)).toNat + 1 by omega]
        exact .cons ⟨r2, r3, r4, fun k hk => r5 k (by omega) hk⟩ hl)
      rw [r6, List.append_assoc]
      exact this
    · exfalso
      obtain ⟨r, b, hg⟩ := ever_room h3
      exact r1 r (by omega) hg.lt ⟨b, hg.nx, hg.ev⟩
  · have hi : ¬ i < d := of_decide_eq_false hi
    have := hQ [] (by rw [show (d - i).toNat = 0 by omega]; exact .nil _)
    rw [List.append_nil] at this
    exact req_iff.2 ⟨t0, this⟩
theorem ok45A : Lp2Ok Try.prog 45 0 lc45a := lp2_of (n := 5) (ex := fun _ => some (S [(8, .own 1 I)], 2)) (m := fun (_, d, _, _, _, i, _) => (d - i).toNat) ((good2_nilN _).addL2 ok45B) fun (ps, d, (qs, L), xs, o, i, ()) Q hx => by
  obtain ⟨⟨hq, h1, h2, h3, h4, h5⟩, hQ⟩ := hx
  have hq : qs = ps := hq
  subst hq
  exact h45A qs d L xs o i Q h1 h2 h3 h4 h5 hQ
theorem h45 (ps : List Int) (d : Int) (K : dens [L, E] → Prop) (h1 : ps.length ≤ big) (hK : ∀ l e, TurnsR ps d l e → K (l, e, ())) : xfn1 Try.prog { nm := true, f := [(83, fc83), (86, fc86), (87, fc87)], l2 := [(45, 0, lc45a)] } 5 45 fcTurns (ps, d, ()) K := by
  rw [v45F]
  rw [seg_rep, zero_toA]
  refine ⟨h1, fun b hb => fork_not (fun c => hK [] 105 (.inl ⟨fun h => ?_, rfl, rfl⟩)) fun c => ?_⟩
  · rw [hb, decide_eq_true h] at c; cases c
  rw [c] at hb
  have hp := of_decide_eq_true hb.symm
  have hz := vld_zero hp
  have far : ¬ (0 ≤ d ∧ d ≤ 64) → K ([], (7 : Int), ()) := fun h => hK [] 7 (.inr (.inl ⟨hp, h, rfl, rfl⟩))
  refine fork_iff.2 ⟨fun a => fork_iff.2 ⟨fun b => far fun h => ?_, fun b => ?_⟩, fun a => far fun h => (of_decide_eq_false a) h.1⟩
  · simp only [Bool.not_eq_true', decide_eq_false_iff_not] at b; exact b h.2
  have a : 0 ≤ d := of_decide_eq_true a
  have b : d ≤ 64 := by simpa using b
  refine ⟨hp, fun L' t' hF => req_iff.2 ⟨mk_ok5 hp.1.2, req_iff.2 ⟨decide_eq_true (by simp), ⟨⟨hp, t', hF⟩, hz⟩, fun b2 hb2 => fork_not (fun e => ?_) fun e => ?_⟩⟩⟩
  · exact hK [] 4 (.inr (.inr (.inl ⟨hp, ⟨a, b⟩, (fun h => (by rw [hb2.2 h] at e; cases e)), rfl, rfl⟩)))
  · have hE := hb2.1 e
    refine req_iff.2 ⟨decide_eq_true (by simp), ⟨rfl, ⟨hp, t', hF⟩, hz, hE, ⟨Int.le_refl 0, a, b⟩, rfl⟩, fun l hl => ?_⟩
    rw [List.nil_append, seg_self]
    rw [Int.sub_zero] at hl
    exact req_iff.2 ⟨decide_eq_true (by omega), hK l 0 (.inr (.inr (.inr ⟨hp, ⟨a, b⟩, hE, hl, rfl⟩)))⟩
theorem ok45 : FnOk Try.prog 45 fcTurns := fn1_of (n := 5) (((((good2_nilN _).addL2 ok45A).addF ok87).addF ok86).addF ok83) fun (ps, d, ()) K hx => h45 ps d K hx.1 hx.2
theorem turns_len2 {ps : List Int} {d : Int} {l : List Int} {e : Int} (h : TurnsR ps d l e) : l.length ≤ 64 := by
  rcases h with ⟨_, h, _⟩ | ⟨_, _, h, _⟩ | ⟨_, _, _, h, _⟩ | ⟨_, h1, _, h, _⟩
  · rw [h]; decide
  · rw [h]; decide
  · rw [h]; decide
  · rw [gr_len h]; omega
theorem h10 (ps ts : List Int) (d : Int) (K : dens [.b] → Prop) (h1 : ps.length ≤ big) (h2 : ts.length ≤ big) (hK : K (true, ())) : xfn1 Try.prog { nm := true, f := [(18, fcSame), (19, fcWorks), (42, fc42), (43, fc42), (44, fcTurns), (45, fcTurns), (46, fcLasts), (47, fcLasts)] } 5 10 fc10 (ps, ts, d, ()) K := by
  rw [v10F]
  refine ⟨⟨h1, h2⟩, fun b e hb => ⟨⟨h1, h2⟩, fun b1 e1 hb1 => ?_⟩⟩
  rw [← hb] at hb1
  injection hb1 with g1 g2
  subst g1 g2
  refine fork_iff.2 ⟨fun c => by simp at c, fun _ => ne_step rfl ⟨h1, fun l e hT => ⟨h1, fun l1 e2 hT1 => ?_⟩⟩⟩
  obtain ⟨u1, u2⟩ := turnsR_uniq hT hT1
  subst u1 u2
  have hl := turns_len2 hT
  refine ⟨by omega, fun r hr => fork_not (fun c => by rw [c] at hr; simp at hr) fun _ => ne_step rfl ⟨h1, fun n e hL => ⟨h1, fun n1 e3 hL1 => ?_⟩⟩⟩
  obtain ⟨u1, u2⟩ := lastsR_uniq hL hL1
  subst u1 u2
  exact fork_iff.2 ⟨fun _ => fork_iff.2 ⟨fun _ => hK, fun c => by simp at c⟩, fun c => by simp at c⟩
theorem ok10 : FnOk Try.prog 10 fc10 := fn1_of (n := 5) (((((((((good2_nilN _).addF ok47).addF ok46).addF ok45).addF ok44).addF ok43).addF ok42).addF okWorks).addF ok18) fun (ps, ts, d, ()) K hx => h10 ps ts d K hx.1.1 hx.1.2 hx.2
end Go.P10
