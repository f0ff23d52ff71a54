/- TillLinks: with more links whatever had to be reported must be reported. No conditions. -/
import Derived.Test.YtfenogdjhadcoaaLinkS
import Derived.Test.YtfenogdjhadcoaaWatP5
import Derived.Test.YtfenogdjhadcoaaFewP
set_option linter.constructorNameAsVariable false
set_option linter.unusedVariables false
set_option linter.unusedSimpArgs false
set_option maxRecDepth 100000
set_option maxHeartbeats 4000000
namespace Go.P8
open Go.Lom Go.Proofs Go

theorem ring_mod (n : Int) {m : Int} (h : 0 < m) : (n.tmod m + m).tmod m = n % m := by
  have h1 := Int.lt_tmod_of_pos n h
  rw [Int.tmod_eq_emod_of_nonneg (by omega), Int.add_emod_right]
  rw [Int.tmod_def, Int.sub_mul_emod_self_left]
theorem h33F (n m : Int) (K : dens [I] → Prop) (h0 : 0 < m) (h1 : m ≤ 4611686018427387904) (hK : ∀ r : Int, r = n % m → K (r, ())) : xfn1 Try.prog {} 5 33 fcRing (n, m, ()) K := by
  rw [v33F]
  simp only [fork_iff, req_iff, decide_eq_true_eq, decide_eq_false_iff_not, beq_iff_eq, beq_eq_false_iff_ne, ne_eq]
  have a1 := Int.lt_tmod_of_pos n h0
  have a2 := Int.tmod_lt_of_pos n h0
  repeat' (first | exact hK _ (ring_mod n h0) | (exfalso; omega) | exact inR_i64.2 (by omega) | omega | intro _ | refine And.intro ?_ ?_)
theorem ok33 : FnOk Try.prog 33 fcRing := fn1_of (n := 5) (good2_nil _) fun (n, m, ()) K hx => h33F n m K hx.1.1 hx.1.2 hx.2

/-! Reasons, of which the error alone is wanted -/
theorem rep_err {Z Z' : ZMap} {φ φ' : PMap} {r : List Int} {e : Int} {u : Value} (h : Rep Z φ (.tup [.rl I r, .int .i64 e]) u) : Rep Z' φ' (.tup [.undef, .int .i64 e]) u := by
  cases h with
  | tup hl h =>
    refine .tup (by simpa using hl) fun i v u hv hu => ?_
    match i, hv with
    | 0, hv => simp only [List.getElem?_cons_zero, Option.some.injEq] at hv; subst hv; exact .undef u
    | 1, hv =>
      simp only [List.getElem?_cons_succ, List.getElem?_cons_zero, Option.some.injEq] at hv
      subst hv
      have := h 1 _ u rfl hu
      rw [rep_int this]; exact .int _ _
    | i + 2, hv => simp at hv
theorem ok34E : F2Ok Try.prog 34 fcReasE := by
  rintro ⟨l, ls, w, k, _⟩ K ⟨g, hK⟩ base w0 Z φ wd us hH hr
  have hf := frz_froze hH
  have hstart := HRel.start0 (hH.gl.mono (frz_le _ _ _ _)) (frz_z hH)
  have hd : decAs [(0, Blk.lst T2 ls)] [.v LD, .v L2, .v TW, .v I] [.rl TD l, .sl 0 2 0 ls.length none, TW.val w, .int .i64 k] = some ((l, seg 0 ls.length ls, w, k, ()), [decide (0 + ls.length ≤ ls.length)]) := rfl
  rw [seg_self] at hd
  have hps : ∀ p ∈ [decide (0 + ls.length ≤ ls.length)], p = true := by simp
  have hargs := decAs_ok (φ' := fun _ => none) hH.ownR hf _ _ _ _ hd hps us hr
  refine (ok34 (l, ls, w, k, ()) (fun r => (r.1, r.2.1) = reasonsF l ls w k) ⟨g, fun r e h => h⟩ _ _ _ _ _ us hstart hargs).mono fun e w' ⟨Z1, φ1, y, H1, n1, h1, h2, h3, h4, _, _, r, hyr, hR⟩ => ?_
  subst hyr
  refine ⟨Z, φ, .ret (.tup [.undef, .int .i64 r.2.1]), _, 1, ZLe.refl _, PLe.refl _, ?_, hH.later h4.below, ((), ls, (), (), (), r.2.1, ()), rfl, rfl, rfl, hK _ (by rw [← hR])⟩
  cases e with
  | returned u => exact rep_err h3
  | _ => exact h3.elim

/-! the law -/
theorem conn_more {ls : List Lk} {x : Lk} {a b : Int} (h : Conn ls a b) : Conn (ls ++ [x]) a b := by
  induction h with
  | refl => exact .refl _
  | fw _ hm ih => exact .fw ih (List.mem_append_left _ hm)
  | bw _ hm ih => exact .bw ih (List.mem_append_left _ hm)
theorem heads_more {ls : List Lk} {x : Lk} {h g : List Int} (p : HeadsOk ls h) (q : HeadsOk (ls ++ [x]) g) {k : Int} (hk : inP k) : at' g k ≤ at' h k := by
  have h1 := q.const (conn_more (x := x) (p.conn k hk))
  have h2 := p.bd k hk
  have h3 := (q.bd (at' h k) ⟨h2.1, by have := hk.2; omega⟩).2
  omega
theorem heads_same {ls : List Lk} {x : Lk} {h g : List Int} (p : HeadsOk ls h) (q : HeadsOk (ls ++ [x]) g) {a b : Int} (ha : inP a) (hb : inP b) (e : at' h a = at' h b) : at' g a = at' g b := by
  have h1 := q.const (conn_more (x := x) (p.conn a ha))
  have h2 := q.const (conn_more (x := x) (p.conn b hb))
  rw [e] at h1
  exact h1.symm.trans h2
theorem winF_sub {w : Wt} {l : List Dl} {h g : List Int} {k : Int} : ∀ (n : Nat) (i : Int), (∀ j, i ≤ j → j < i + n → winB w l h k j = true → winB w l g k j = true) → (winF w l h k n i).Sublist (winF w l g k n i)
  | 0, i, _ => .slnil
  | n + 1, i, hm => by
    simp only [winF]
    have ih := winF_sub n (i + 1) fun j a b => hm j (by omega) (by omega)
    by_cases hb : winB w l h k i = true
    · rw [if_pos hb, if_pos (hm i (by omega) (by omega) hb)]; exact ih.cons_cons i
    · rw [if_neg hb]
      split
      · exact ih.cons i
      · exact ih
theorem sum_sub {l : List Dl} {a b : List Int} (h : a.Sublist b) (hp : ∀ i ∈ b, 0 ≤ amt l i) : sumOf l a ≤ sumOf l b := by
  induction h with
  | slnil => exact Int.le_refl _
  | cons x _ ih =>
    have h1 := ih fun i hi => hp i (List.mem_cons_of_mem _ hi)
    have h2 := hp x (by simp)
    simp only [sumOf, List.map_cons, List.sum_cons] at *
    omega
  | cons_cons x _ ih =>
    have h1 := ih fun i hi => hp i (List.mem_cons_of_mem _ hi)
    simp only [sumOf, List.map_cons, List.sum_cons] at *
    omega
theorem rep_sub {w : Wt} {l : List Dl} {h g : List Int} {k : Int} (hs : (allI w l h k).Sublist (allI w l g k)) (hp : ∀ i ∈ allI w l g k, 0 ≤ amt l i) (hr : repB w l h k = true) : repB w l g k = true := by
  unfold repB at *
  simp only [Bool.or_eq_true, decide_eq_true_eq] at *
  rcases hr with hr | hr
  · exact .inl (Int.le_trans hr (sum_sub hs hp))
  · have := (hs.filter (smallB w l)).length_le
    unfold smallI at *
    right; omega
theorem reas_zero {l : List Dl} {ls : List Lk} {w : Wt} {k : Int} : (reasonsF l ls w k).2 = 0 ↔ watOk l ls w = true ∧ (0 ≤ k ∧ k ≤ (l.length : Int) - 1) ∧ repB w l (headOf ls) k = true := by
  unfold reasonsF
  by_cases h1 : watOk l ls w = true
  · by_cases h2 : 0 ≤ k ∧ k ≤ (l.length : Int) - 1
    · by_cases h3 : repB w l (headOf ls) k = true
      · rw [if_pos h1, if_pos h2, if_pos h3]
        constructor
        · intro _; exact ⟨h1, h2, h3⟩
        · intro _; split <;> rfl
      · rw [if_pos h1, if_pos h2, if_neg h3]; simp [h3]
    · rw [if_pos h1, if_neg h2]; constructor
      · intro h; simp at h
      · intro h; exact absurd h.2.1 h2
  · rw [if_neg h1]; constructor
    · intro h; simp at h
    · intro h; exact absurd h.1 h1
theorem amt_pos {l : List Dl} {ls : List Lk} {w : Wt} {k : Int} {hs : List Int} (h : watOk l ls w = true) (k0 : 0 ≤ k) (k1 : k < l.length) : ∀ i ∈ allI w l hs k, 0 ≤ amt l i := fun i hi => by
  have gw := watP_of (ofL 23 []) h
  have := all_idx (hs := hs) gw k0 k1
  have := amt_bd gw (this.2 i hi).1 (this.2 i hi).2
  exact Int.le_trans (by decide) this.1
theorem h8L (l m : List Int) (i : Int) (Q : AX → St → Prop) (g : LinkInv l m) (h0 : 0 ≤ i) (h1 : i ≤ 24) (hQ : Q (.exit 0) (stS 0 .nil ())) :
    xloop2 Try.prog { f := [(26, fcFrom')] } 5 8 0 lc8 (fun _ => some (.nil, 0)) (fun (_, _, i, _) => (24 - i).toNat) (l, m, i, ()) Q := by
  rw [v8L]
  have l24 := g.l24
  have m24 := g.m24
  simp only [fork_iff, req_iff, decide_eq_true_eq, decide_eq_false_iff_not, Bool.not_eq_true', Bool.not_eq_false', bne_iff_ne, ne_eq, bne_eq_false_iff_eq]
  refine ⟨fun hi => ?_, fun _ => hQ⟩
  have hk : inP i := ⟨h0, hi⟩
  have a1 : 0 ≤ l.getD i.toNat 0 ∧ l.getD i.toNat 0 ≤ i := g.bd i hk
  have a2 : m.getD i.toNat 0 ≤ l.getD i.toNat 0 := g.le i hk
  have a3 : l.getD (l.getD i.toNat 0).toNat 0 = l.getD i.toNat 0 := g.fix i hk
  refine ⟨⟨h0, by omega⟩, fun b hb => ⟨fun h => ?_, fun _ => ⟨⟨h0, by omega⟩, ⟨h0, by omega⟩, fun h => absurd h (by omega), fun _ => ⟨⟨h0, by omega⟩, ⟨by omega, by omega⟩, ⟨h0, by omega⟩, fun h => absurd a3 h, fun _ => ⟨inR_i64.2 (by omega), show (24 - (i + 1)).toNat < (24 - i).toNat by omega, ⟨g, show (0 : Int) ≤ i + 1 by omega, show i + 1 ≤ (24 : Int) by omega⟩, hQ⟩⟩⟩⟩⟩
  rw [decide_eq_true a1] at hb
  rw [hb] at h; cases h
theorem ok8L : Lp2Ok Try.prog 8 0 lc8 := lp2_of (n := 5) (ex := fun _ => some (.nil, 0)) (m := fun (_, _, i, _) => (24 - i).toNat) ((good2_nil _).addF ok26') fun (l, m, i, ()) Q hx => h8L l m i Q hx.1.1 hx.1.2.1 hx.1.2.2 hx.2
theorem h8F (l : List Dl) (ls : List Lk) (w : Wt) (k : Int) (n : Int × Int) (K : dens [.b] → Prop) (g1 : l.length ≤ big) (g2 : ls.length ≤ big) (hK : K (true, ())) :
    xfn1 Try.prog { nm := true, f := [(34, fcReas), (33, fcRing), (31, fcLinked), (26, fcFrom'), (19, fcWorks)], f2 := [(34, fcReasE)], l2 := [(8, 0, lc8)] } 5 8 fc8 ((l, ls, w), k, n, ()) K := by
  rw [v8F]
  refine ⟨⟨g1, g2⟩, fun r0 e0 hr0 => ?_⟩
  simp only [fork_iff, req_iff, decide_eq_true_eq, decide_eq_false_iff_not, bne_iff_ne, ne_eq, bne_eq_false_iff_eq, Nat.zero_add, List.nil_append, Decidable.not_not]
  refine ⟨fun _ => hK, fun he0 => ⟨fun _ => hK, fun h64 => ⟨⟨by decide, by decide⟩, fun a ha => ?_⟩⟩⟩
  have a0 : 0 ≤ a ∧ a < 24 := by rw [ha]; exact ⟨Int.emod_nonneg _ (by decide), Int.emod_lt_of_pos _ (by decide)⟩
  refine ⟨inR_i64.2 (by omega), ⟨by decide, by decide⟩, fun c hc => ?_⟩
  have c0 : 0 ≤ c ∧ c < 23 := by rw [hc]; exact ⟨Int.emod_nonneg _ (by decide), Int.emod_lt_of_pos _ (by decide)⟩
  refine ⟨inR_i64.2 (by omega), ⟨by decide, by decide⟩, fun b hb => ⟨fits100 (by omega), fun ys hys => ?_⟩⟩
  have b0 : 0 ≤ b ∧ b < 24 := by rw [hb]; exact ⟨Int.emod_nonneg _ (by decide), Int.emod_lt_of_pos _ (by decide)⟩
  have hab : a ≠ b := by omega
  have hys : ys = ls := hys
  subst hys
  refine ⟨Nat.le_refl _, fits100 (by omega), fun zs hzs => ?_⟩
  rw [seg_self] at hzs
  have hzl : zs.length = ys.length + 1 := by rw [hzs]; simp
  rw [← hzl, seg_self]
  -- what the first Reasons says
  have z0 : (reasonsF l ys w k).2 = 0 := by rw [← hr0]; exact he0
  obtain ⟨hw, hk, hrep⟩ := reas_zero.1 z0
  have hlk := (wat_iff.1 hw).1
  have hmk : linkedOk zs = true := by
    have := lks_of hlk
    unfold linkedOk
    rw [hzs, List.all_append, decide_eq_true (show (ys ++ [(a, b)]).length ≤ 64 by simp; omega)]
    have e1 : ys.all okLink = true := List.all_eq_true.2 this.2
    have e2 : okLink (a, b) = true := okLink_iff.2 ⟨⟨a0.1, show a ≤ 23 by omega⟩, ⟨b0.1, show b ≤ 23 by omega⟩, hab⟩
    rw [e1, List.all_cons, e2]; rfl
  refine ⟨rfl, ⟨g1, show zs.length ≤ 9223372036854775807 by omega⟩, fun e1 he1 => ⟨g2, fun r3 e3 hr3 o3 => ⟨Nat.le_refl _, show zs.length ≤ 9223372036854775807 by omega, fun r4 e4 hr4 o4 => ?_⟩⟩⟩
  have p := o3 hlk
  have q := o4 hmk
  have r3e : r3 = headOf ys ∧ e3 = 0 := by
    unfold linkedR at hr3; rw [if_pos hlk] at hr3
    exact ⟨congrArg Prod.fst hr3, congrArg Prod.snd hr3⟩
  have r4e : r4 = headOf zs ∧ e4 = 0 := by
    unfold linkedR at hr4; rw [if_pos hmk] at hr4
    exact ⟨congrArg Prod.fst hr4, congrArg Prod.snd hr4⟩
  obtain ⟨rfl, f3⟩ := r3e
  obtain ⟨rfl, f4⟩ := r4e
  have q' : HeadsOk (ys ++ [(a, b)]) (headOf zs) := hzs ▸ q
  have z1 : e1 = 0 := by
    rw [he1]
    have hw2 : watOk l zs w = true := wat_iff.2 ⟨hmk, (wat_iff.1 hw).2⟩
    refine reas_zero.2 ⟨hw2, hk, rep_sub ?_ (amt_pos hw2 hk.1 (by omega)) hrep⟩
    unfold allI
    refine winF_sub _ _ fun j j0 j1 hj => ?_
    have gd := (watP_of (ofL 23 []) hw).2.2
    have gd : ∀ d ∈ l, dayOk d := gd
    have dj : dayOk (dlAt l j) := gd _ (dl_in (i := j) j0 (by omega))
    have dk : dayOk (dlAt l k) := gd _ (dl_in (i := k) hk.1 (by omega))
    unfold winB at *
    simp only [Bool.and_eq_true, decide_eq_true_eq] at *
    exact ⟨heads_same p q' ⟨dj.2.2.1, by have := dj.2.2.2.1; show _ < (24 : Int); omega⟩ ⟨dk.2.2.1, by have := dk.2.2.2.1; show _ < (24 : Int); omega⟩ hj.1, hj.2⟩
  have l3 := p.len
  have l4 := q.len
  have hlk2 : (headOf zs).getD a.toNat 0 = (headOf zs).getD b.toNat 0 := q.lk a b (by rw [hzs]; simp)
  refine ⟨fun h => absurd z1 h, fun _ => ⟨fun h => absurd f3 h, fun _ => ⟨fun h => absurd f4 h, fun _ => ⟨fun h => absurd (show ((headOf ys).length : Int) = 24 by omega) h, fun _ => ⟨fun h => absurd (show ((headOf zs).length : Int) = 24 by omega) h, fun _ => ⟨⟨a0.1, by omega⟩, ⟨b0.1, by omega⟩, fun h => absurd hlk2 h, fun _ => ⟨⟨⟨l3, l4, p.bd, fun k hk => heads_more p q' hk, p.fix⟩, Int.le_refl (0 : Int), show (0 : Int) ≤ 24 by decide⟩, hK⟩⟩⟩⟩⟩⟩⟩
theorem ok8 : FnOk Try.prog 8 fc8 := fn1_of (n := 5) ((((((((good2_nilN _).addL2 ok8L).addF2 ok34E).addF okWorks').addF ok26').addF ok31).addF ok33).addF ok34) fun ((l, ls, w), k, n, ()) K hx => h8F l ls w k n K hx.1.1 hx.1.2 hx.2
end Go.P8
