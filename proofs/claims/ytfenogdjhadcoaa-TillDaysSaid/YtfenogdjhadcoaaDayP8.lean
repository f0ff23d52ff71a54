/- Days: the reference: balances, what a posting may really have been: the code keeps its contracts. No conditions. -/
import Derived.Test.YtfenogdjhadcoaaDayP7
set_option linter.all false
set_option maxRecDepth 100000
set_option maxHeartbeats 4000000
namespace Go.P8
open Go.Lom Go.Proofs Go
theorem ok62 : F2Ok Try.prog 62 fc62 := fn2_of (n := 5) (good2_nil _) fun (l, ()) K hx => by
 obtain ⟨hl, hK⟩ := hx
 have hl : l.length <= 1000 := hl
 show xfn2 Try.prog {} 5 62 fc62 (l, ()) K
 rw [v62F]
 simp only [req_iff, decide_eq_true_eq, Nat.zero_add, List.nil_append, Nat.le_refl, seg_all, true_and]
 refine ⟨?_, hK _ rfl⟩
 simp only [fitsN, Bool.and_eq_true, Nat.ble_eq]; unfold maxLen; omega
theorem h83F (l : List Int) (f t s : Int) (K : dens [L] -> Prop) (h : okM l f t s) (hK : ∀ r : List Int, r = moveI l f t s -> K (r, ())) : xfn1 Try.prog { nm := true, f2 := [(62, fc62)] } 5 83 fc83 (l, f, t, s, ()) K := by
 rw [v83F]
 obtain ⟨h1, h2, h3, h4, h5, h6⟩ := h
 have g1 := offB_get h4 (by decide) f.toNat
 simp only [req_iff, decide_eq_true_eq, Nat.zero_add, Nat.add_zero, Nat.le_refl, true_and]
 refine ⟨by omega, fun r hr => ?_⟩
 subst hr
 refine ⟨h2, by omega, inR_i64.2 (by omega), h2, by omega, fun ys hy => ?_⟩
 have hy : ys = addAt r f (-s) := hy
 have hyl : ys.length = r.length := by rw [hy, addAt_len]
 have hyb : offB (1099511627776 + 1099511627776) ys := by rw [hy]; exact offB_add h4 (by decide) (by omega)
 have g2 := offB_get hyb (by decide) t.toNat
 refine ⟨h3, by omega, inR_i64.2 (by omega), h3, by omega, fun zs hz => ?_⟩
 have hz : zs = addAt ys t s := hz
 have hzl : zs.length = r.length := by rw [hz, addAt_len, hyl]
 rw [<- hzl, seg_all]
 exact ⟨Nat.le_refl _, hK zs (by rw [hz, hy]; rfl)⟩
theorem ok83 : FnOk Try.prog 83 fc83 := fn1_of (n := 5) ((good2_nilN _).addF2 ok62) fun (l, f, t, s, ()) K hx => h83F l f t s K hx.1 hx.2
theorem h55L (o cn : List Int) (ps : List Po) (l : List Int) (i : Int) (Q : AX -> St -> Prop) (hd : dayOk (o, ps, cn) = true) (hl : l.length = o.length) (i0 : 0 <= i) (i1 : i <= ps.length) (hb : offB ((1 + 2 * i) * 1073741824) l)
  (hQ : Q (.exit 0) (stS 0 sh55e (balI l (ps.drop i.toNat), ()))) :
  xloop2 Try.prog { nm := true, f := [(83, fc83)] } 5 55 0 lc55 (fun _ => some (sh55e, 0)) (fun (d, _, i, _) => mL d.2.1 i) ((o, ps, cn), l, i, ()) Q := by
 rw [v55L]
 have hy := dayOk_iff.1 hd
 have hlen : 2 <= o.length /\ o.length <= 8 /\ cn.length = o.length /\ ps.length <= 16 := hy.len
 simp only [fork_iff, req_iff, decide_eq_true_eq, decide_eq_false_iff_not]
 refine ⟨fun hi => ?_, fun hi => ?_⟩
 ·have hp : poOk o.length (ps.getD i.toNat (0, 0, 0)) = true := hy.pos _ (po_mem i0 hi)
  obtain ⟨a1, a2, a3, a4, a5⟩ := poOk_iff.1 hp
  rw [po_drop i0 hi] at hQ
  refine ⟨⟨i0, hi⟩, ⟨by omega, by omega, by omega, fun x hx => by have := hb x hx; omega, by omega, by omega⟩, fun r hr => ⟨inR_i64.2 (by omega), mL_dec hi, ⟨⟨hd, ?_, ⟨by show (0 : Int) <= i + 1; omega, by show i + 1 <= (ps.length : Int); omega⟩, ?_⟩, ?_⟩⟩⟩
  ·show r.length = o.length
   rw [hr, moveI_len, hl]
  ·show offB ((1 + 2 * (i + 1)) * 1073741824) r
   rw [hr, show (1 + 2 * (i + 1)) * 1073741824 = (1 + 2 * i) * 1073741824 + 1073741824 + 1073741824 by omega]
   exact offB_add (offB_add hb (by omega) (by omega)) (by omega) (by omega)
  ·rw [hr]; exact hQ
 ·rw [po_no hi] at hQ
  exact hQ
theorem ok55L : Lp2Ok Try.prog 55 0 lc55 := lp2_of (n := 5) (ex := fun _ => some (sh55e, 0)) (m := fun (d, _, i, _) => mL d.2.1 i) ((good2_nilN _).addF ok83) fun ((o, ps, cn), l, i, ()) Q hx => by
 obtain ⟨⟨g1, g2, ⟨g3, g4⟩, g5⟩, hQ⟩ := hx
 exact h55L o cn ps l i Q g1 g2 g3 g4 g5 hQ
theorem ok55 : FnOk Try.prog 55 fc55 := fn1_of (n := 5) (((good2_nilN _).addL2 ok55L).addF2 ok62) fun ((o, ps, cn), ()) K hx => by
 obtain ⟨hd, hK⟩ := hx
 have hy := dayOk_iff.1 hd
 have hlen : 2 <= o.length /\ o.length <= 8 /\ cn.length = o.length /\ ps.length <= 16 := hy.len
 have hop : ∀ n ∈ o, 0 <= n /\ n <= 1073741824 := hy.opn
 show xfn1 Try.prog { nm := true, f2 := [(62, fc62)], l2 := [(55, 0, lc55)] } 5 55 fc55 ((o, ps, cn), ()) K
 rw [v55F]
 simp only [req_iff, decide_eq_true_eq, Nat.zero_add, Nat.le_refl, seg_all, true_and, List.drop_zero]
 refine ⟨⟨hd, ⟨Int.le_refl (0 : Int), Int.natCast_nonneg _⟩, fun x hx => ?_⟩, by rw [balI_len]; omega, fun r hr => hK r hr⟩
 have h2 : (0 : Int) <= x /\ x <= 1073741824 := hop x hx
 show -(1073741824 : Int) <= x /\ x <= 1073741824
 omega
theorem ok21 : FnOk Try.prog 21 fc20 := fn1_of (n := 5) (((good2_nilN _).addF ok55).addF ok54) fun ((o, ps, cn), ()) K hx => by
 obtain ⟨hb, hK⟩ := hx
 show xfn1 Try.prog { nm := true, f := [(54, fc54), (55, fc55)] } 5 21 fc20 ((o, ps, cn), ()) K
 rw [v21F]
 simp only [fork_iff, bne_iff_ne, ne_eq, bne_eq_false_iff_eq]
 refine ⟨hb, fun e he => ?_⟩
 cases hd : dayOk (o, ps, cn) with
 | true =>
  rw [hd, if_pos rfl] at he
  subst he
  refine ⟨fun c => absurd rfl c, fun _ => ⟨rfl, fun r hr => hK _ _ ?_⟩⟩
  show _ = balE (o, ps, cn)
  unfold balE
  rw [hd, hr]; rfl
 | false =>
  rw [hd, if_neg (by decide)] at he
  subst he
  refine ⟨fun _ => hK _ _ ?_, fun c => by cases c⟩
  show _ = balE (o, ps, cn)
  unfold balE
  rw [hd]; rfl
theorem h109L (l : List Int) (n i : Int) (Q : AX -> St -> Prop) (i0 : 0 <= i) (i1 : i <= l.length) (hl : l.length <= 1000) (hA : n ∉ l.drop i.toNat -> Q (.exit 0) (stS 0 .nil ())) (hB : n ∈ l.drop i.toNat -> ∀ r : Int, 0 <= r -> Q .ret (stS 0 shR4i (r, ()))) :
  xloop2 Try.prog {} 5 109 0 lc109 ex84 (fun (l, _, i, _) => mL l i) (l, n, i, ()) Q := by
 rw [v109L]
 simp only [fork_iff, req_iff, decide_eq_true_eq, decide_eq_false_iff_not, beq_iff_eq, beq_eq_false_iff_ne, ne_eq]
 refine ⟨fun hi => ⟨⟨i0, hi⟩, fun he => ?_, fun he => ⟨inR_i64.2 (by omega), mL_dec hi, ⟨⟨by show (0 : Int) <= i + 1; omega, by show i + 1 <= (l.length : Int); omega, hl⟩, fun h => ?_, fun h => ?_⟩⟩⟩, fun hi => ?_⟩
 ·exact hB (by rw [drop_at i0 hi, he]; exact List.mem_cons_self ..) i i0
 ·exact hA (by rw [drop_at i0 hi, List.mem_cons]; exact fun c => c.elim (fun c => he c.symm) h)
 ·exact hB (by rw [drop_at i0 hi]; exact List.mem_cons_of_mem _ h)
 ·exact hA (by rw [drop_no hi]; exact fun c => by cases c)
theorem ok109L : Lp2Ok Try.prog 109 0 lc109 := lp2_of (n := 5) (ex := ex84) (m := fun (l, _, i, _) => mL l i) (good2_nil _) fun (l, n, i, ()) Q hx => by
 obtain ⟨⟨g1, g2, g3⟩, hA, hB⟩ := hx
 exact h109L l n i Q g1 g2 g3 hA hB
theorem ok109 : FnOk Try.prog 109 fc109 := fn1_of (n := 5) ((good2_nil _).addL2 ok109L) fun (l, n, ()) K hx => by
 obtain ⟨g1, hK⟩ := hx
 show xfn1 Try.prog { l2 := [(109, 0, lc109)] } 5 109 fc109 (l, n, ()) K
 rw [v109F]
 simp only [List.drop_zero]
 exact ⟨⟨Int.le_refl (0 : Int), Int.natCast_nonneg _, g1⟩, fun h => hK (-1) ⟨fun c => absurd c (by decide), fun c => absurd c h⟩, fun h r hr => hK r ⟨fun _ => h, fun _ => hr⟩⟩
theorem swK_fuel {s : Int} : ∀ (k : Nat) (t : Int), 0 < t -> s < 10 ^ k * t -> swK s (k + 1) t = swK s k t
 | 0, t, h, hs => by
  unfold swK
  rw [if_neg (by omega)]
 | k + 1, t, h, hs => by
  unfold swK
  split
  ·rw [swK_fuel k (10 * t) (by omega) (by rw [Int.pow_succ, Int.mul_assoc] at hs; exact hs)]
  ·rfl
theorem swI_td {s t : Int} (hs : 0 <= s) (ht : 1 <= t) : s.tdiv t = s / t /\ s.tdiv (10 * t) = s / (10 * t) /\ (s.tdiv t).tmod 10 = s / t % 10 /\ (s.tdiv (10 * t)).tmod 10 = s / (10 * t) % 10 := by
 have e1 : s.tdiv t = s / t := Int.tdiv_eq_ediv_of_nonneg hs
 have e2 : s.tdiv (10 * t) = s / (10 * t) := Int.tdiv_eq_ediv_of_nonneg hs
 refine ⟨e1, e2, ?_, ?_⟩
 ·rw [e1]; exact Int.tmod_eq_emod_of_nonneg (Int.ediv_nonneg hs (by omega))
 ·rw [e2]; exact Int.tmod_eq_emod_of_nonneg (Int.ediv_nonneg hs (by omega))
theorem h91A (s : Int) (l : List Int) (t : Int) (Q : AX -> St -> Prop) (s0 : 1 <= s) (s1 : s <= 1073741824) (t0 : 1 <= t) (t1 : t <= 1073741824) (hl : (l.length : Int) <= t + 2)
  (hQ : Q (.exit 0) (stS 1 sh91ae (s, l ++ swK s 12 t, ()))) :
  xloop2 Try.prog { nm := true } 5 91 0 lc91a (fun _ => some (sh91ae, 1)) (fun (s, _, t, _) => (s + 1 - t).toNat) (s, l, t, ()) Q := by
 rw [v91A]
 obtain ⟨e1, e2, e3, e4⟩ := swI_td (s := s) (t := t) (by omega) t0
 rw [e3, e4, e1, e2]
 simp only [fork_iff, req_iff, decide_eq_true_eq, decide_eq_false_iff_not, Nat.zero_add, Nat.le_refl, seg_all, true_and]
 have a1 : 0 <= s / t % 10 /\ s / t % 10 <= 9 := by omega
 have b1 : 0 <= s / (10 * t) % 10 /\ s / (10 * t) % 10 <= 9 := by omega
 have c1 : 0 <= s / t /\ s / t <= s := ⟨Int.ediv_nonneg (by omega) (by omega), Int.ediv_le_self _ (by omega)⟩
 have c2 : 0 <= s / (10 * t) /\ s / (10 * t) <= s := ⟨Int.ediv_nonneg (by omega) (by omega), Int.ediv_le_self _ (by omega)⟩
 refine ⟨inR_i64.2 (by omega), fun ht => ?_, fun ht => ?_⟩
 ·have hsw : swK s 12 t = swI s t :: swK s 12 (10 * t) := by
   rw [show swK s 12 t = if 10 * t <= s then swI s t :: swK s 11 (10 * t) else [] from rfl, if_pos ht, swK_fuel 11 (10 * t) (by omega) (by show s < 100000000000 * (10 * t); omega)]
  have hsi : swI s t = s + (s / t % 10 - s / (10 * t) % 10) * 10 * t + (s / (10 * t) % 10 - s / t % 10) * t := rfl
  have hbd := swI_bd (s := s) (ten := t) (by omega) ht
  rw [hsw] at hQ
  rw [hsi] at hQ hbd
  generalize s / t % 10 = a at *
  generalize s / (10 * t) % 10 = b at *
  have m1 : (a - b) * 10 * t <= 90 * t := by
   have := Int.mul_le_mul_of_nonneg_right (show (a - b) * 10 <= 90 by omega) (show 0 <= t by omega)
   exact this
  have m2 : (-90) * t <= (a - b) * 10 * t := Int.mul_le_mul_of_nonneg_right (show -90 <= (a - b) * 10 by omega) (show 0 <= t by omega)
  have m3 : (b - a) * t <= 9 * t := Int.mul_le_mul_of_nonneg_right (by omega) (by omega)
  have m4 : (-9) * t <= (b - a) * t := Int.mul_le_mul_of_nonneg_right (by omega) (by omega)
  generalize (a - b) * 10 * t = u at *
  generalize (b - a) * t = v at *
  refine ⟨by omega, inR_i64.2 (by omega), inR_i64.2 (by omega), by omega, inR_i64.2 (by omega), inR_i64.2 (by omega), inR_i64.2 (by omega), inR_i64.2 (by omega), inR_i64.2 (by omega), inR_i64.2 (by omega), inR_i64.2 (by omega), inR_i64.2 (by omega), ?_, fun ys hy => ?_⟩
  ·simp only [fitsN, Bool.and_eq_true, Nat.ble_eq]; unfold maxLen; omega
  ·have hyl : ys.length = l.length + 1 := by rw [hy, List.length_append]; rfl
   rw [<- hyl, seg_all]
   refine ⟨inR_i64.2 (by omega), Nat.le_refl _, by omega, ⟨⟨s0, s1, by show (1 : Int) <= 10 * t; omega, by show 10 * t <= (1073741824 : Int); omega, by show (ys.length : Int) <= 10 * t + 2; omega⟩, ?_⟩⟩
   show Q (.exit 0) (stS 1 sh91ae (s, ys ++ swK s 12 (10 * t), ()))
   rw [hy, List.append_assoc]; exact hQ
 ·have hsw : swK s 12 t = [] := by
   rw [show swK s 12 t = if 10 * t <= s then swI s t :: swK s 11 (10 * t) else [] from rfl, if_neg ht]
  rw [hsw, List.append_nil] at hQ
  exact hQ
theorem ok91A : Lp2Ok Try.prog 91 0 lc91a := lp2_of (n := 5) (ex := fun _ => some (sh91ae, 1)) (m := fun (s, _, t, _) => (s + 1 - t).toNat) (good2_nilN _) fun (s, l, t, ()) Q hx => by
 obtain ⟨⟨g1, g2, g3, g4, g5⟩, hQ⟩ := hx
 exact h91A s l t Q g1 g2 g3 g4 g5 hQ
theorem h91C (s : Int) (l o : List Int) (i a : Int) (Q : AX -> St -> Prop) (i0 : 0 <= i) (i1 : i < l.length) (a0 : 0 <= a) (a1 : a <= o.length) (hl : o.length <= 1000)
  (hQ : ∀ a' : Int, a' = a + leadI (l.getD i.toNat 0) (o.drop a.toNat) -> Q (.exit 4) (stS 1 sh91c (s, l, o, i, a', ()))) :
  xloop2 Try.prog { nm := true } 5 91 2 lc91c (fun _ => some (sh91c, 1)) (fun (_, _, o, _, a, _) => mL o a) (s, l, o, i, a, ()) Q := by
 rw [v91C]
 simp only [fork_iff, req_iff, decide_eq_true_eq, decide_eq_false_iff_not, Nat.zero_add, Nat.add_zero, Nat.le_refl, seg_all, true_and]
 refine ⟨fun ha => ⟨⟨a0, ha⟩, by omega, ⟨i0, i1⟩, fun hlt => ⟨inR_i64.2 (by omega), mL_dec ha, ⟨⟨i0, i1, by show (0 : Int) <= a + 1; omega, by show a + 1 <= (o.length : Int); omega, hl⟩, fun a' h => hQ a' ?_⟩⟩, fun hlt => hQ a ?_⟩, fun ha => hQ a ?_⟩
 ·have h : a' = a + 1 + leadI (l.getD i.toNat 0) (o.drop (a + 1).toNat) := h
  rw [drop_at a0 ha, h]
  unfold leadI
  rw [if_pos hlt]
  cases o.drop (a + 1).toNat <;> (simp only [leadI]; omega)
 ·rw [drop_at a0 ha]
  unfold leadI
  rw [if_neg hlt]; omega
 ·rw [drop_no ha]
  show a = a + ((0 : Nat) : Int)
  omega
theorem ok91C : Lp2Ok Try.prog 91 2 lc91c := lp2_of (n := 5) (ex := fun _ => some (sh91c, 1)) (m := fun (_, _, o, _, a, _) => mL o a) (good2_nilN _) fun (s, l, o, i, a, ()) Q hx => by
 obtain ⟨⟨g1, g2, g3, g4, g5⟩, hQ⟩ := hx
 exact h91C s l o i a Q g1 g2 g3 g4 g5 hQ
theorem lead_ins (x : Int) : ∀ o : List Int, x ∉ o -> leadI x o <= o.length /\ o.take (leadI x o) ++ [x] ++ o.drop (leadI x o) = insI x o
 | [], _ => ⟨Nat.le_refl _, rfl⟩
 | y :: o, h => by
  unfold leadI insI
  have hne : ¬ y = x := fun e => h (e ▸ List.mem_cons_self ..)
  split
  ·obtain ⟨h1, h2⟩ := lead_ins x o fun c => h (List.mem_cons_of_mem _ c)
   refine ⟨by rw [List.length_cons]; omega, ?_⟩
   rw [<- h2]; rfl
  ·exact ⟨Nat.zero_le _, rfl⟩
end Go.P8
