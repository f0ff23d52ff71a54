/- Balances: the code keeps its contracts; plain laws. No conditions. -/
import Derived.Test.YtfenogdjhadcoaaBalS
import Derived.Test.YtfenogdjhadcoaaDayQ
import Derived.Test.YtfenogdjhadcoaaPaysP
set_option linter.all false
set_option maxRecDepth 100000
set_option maxHeartbeats 4000000
namespace Go.P8
open Go.Lom Go.Proofs Go
theorem h27bL (l : List Int) (n i : Int) (Q : AX -> St -> Prop) (h0 : 0 <= i) (h1 : i <= l.length) (hl : l.length <= 100) (hx : offB 1099511627776 l) (n0 : -(i * 1099511627776) <= n) (n1 : n <= i * 1099511627776) (hQ : ∀ r : Int, r = n + (l.drop i.toNat).sum -> Q (.exit 0) (stS 0 sh27be (r, ()))) :
  xloop2 Try.prog {} 5 27 0 lc27b (fun _ => some (sh27be, 0)) (fun (l, _, i, _) => mL l i) (l, n, i, ()) Q := by
 rw [v27bL]
 simp only [fork_iff, req_iff, decide_eq_true_eq, decide_eq_false_iff_not]
 refine ⟨fun hi => ⟨⟨h0, hi⟩, ?_⟩, fun hi => hQ n (by rw [drop_no hi]; simp)⟩
 have hxi := offB_get hx (by decide) i.toNat
 rw [drop_at h0 hi, List.sum_cons] at hQ
 generalize l.getD i.toNat 0 = x at *
 exact ⟨inR_i64.2 (by omega), inR_i64.2 (by omega), mL_dec hi, ⟨⟨show (0 : Int) <= i + 1 by omega, show i + 1 <= (l.length : Int) by omega, hl, hx, show -((i + 1) * 1099511627776) <= n + x by omega, show n + x <= (i + 1) * 1099511627776 by omega⟩, fun r hr => hQ r (hr.trans (Int.add_assoc _ _ _))⟩⟩
theorem ok27bL : Lp2Ok Try.prog 27 0 lc27b := lp2_of (n := 5) (ex := fun _ => some (sh27be, 0)) (m := fun (l, _, i, _) => mL l i) (good2_nil _) fun (l, n, i, ()) Q hx => by
 obtain ⟨⟨g1, g2, g3, g4, g5, g6⟩, hQ⟩ := hx
 exact h27bL l n i Q g1 g2 g3 g4 g5 g6 hQ
theorem ok27b : FnOk Try.prog 27 fcSumB := fn1_of (n := 5) ((good2_nil _).addL2 ok27bL) fun (l, ()) K hx => by
 obtain ⟨⟨g1, g2⟩, hK⟩ := hx
 show xfn1 Try.prog { l2 := [(27, 0, lc27b)] } 5 27 fcSumB (l, ()) K
 rw [v27bF]
 simp only [List.drop_zero, Int.zero_add]
 exact ⟨⟨Int.le_refl (0 : Int), Int.natCast_nonneg _, g1, g2, by decide, by decide⟩, fun r hr => hK r hr⟩
theorem bef_nilL (b : List Mi) : befM [] b = false := by cases b <;> rfl
theorem bef_nilR (a : List Mi) : befM a [] = false := by cases a <;> rfl
theorem drop_atM {l : List Mi} {i : Int} (h0 : 0 <= i) (hi : i < l.length) : l.drop i.toNat = l.getD i.toNat (0, 0) :: l.drop (i + 1).toNat := by
 rw [List.getD_eq_getElem?_getD, List.getElem?_eq_getElem (show i.toNat < l.length by omega), show (i + 1).toNat = i.toNat + 1 by omega]
 exact List.drop_eq_getElem_cons (by omega)
theorem h30L (a b : List Mi) (i : Int) (Q : AX -> St -> Prop) (i0 : 0 <= i) (i1 : i <= a.length) (i2 : i <= b.length) (hl : a.length <= big) (hR : ∀ r : Bool, r = befM (a.drop i.toNat) (b.drop i.toNat) -> Q .ret (stS 0 (S [(4, .v .b)]) (r, ()))) (hQ : befM (a.drop i.toNat) (b.drop i.toNat) = false -> Q (.exit 0) (stS 0 .nil ())) :
  xloop2 Try.prog {} 5 30 0 lc30 ex30 (fun (a, _, i, _) => mL a i) (a, b, i, ()) Q := by
 rw [v30L]
 have hbig : (big : Int) = 9223372036854775807 := rfl
 simp only [fork_iff, req_iff, decide_eq_true_eq, decide_eq_false_iff_not, Bool.and_true]
 refine ⟨fun hi => ⟨fun hj => ⟨⟨i0, hi⟩, ⟨i0, hj⟩, ?_⟩, fun hj => hQ (by rw [List.drop_of_length_le (l := b) (by omega)]; exact bef_nilR _)⟩, fun hi => hQ (by rw [List.drop_of_length_le (l := a) (by omega)]; exact bef_nilL _)⟩
 rw [drop_atM i0 hi, drop_atM i0 hj] at hR hQ
 simp only [befM] at hR hQ
 generalize a.getD i.toNat (0, 0) = x at *
 generalize b.getD i.toNat (0, 0) = y at *
 obtain ⟨x1, x2⟩ := x
 obtain ⟨y1, y2⟩ := y
 dsimp only at *
 have hne : ((!(x1 == y1 && x2 == y2)) = true ↔ ¬ (x1, x2) = (y1, y2)) /\ ((!(x1 == y1 && x2 == y2)) = false ↔ (x1, x2) = (y1, y2)) := by
  simp only [Bool.not_eq_true', Bool.not_eq_false', Bool.and_eq_false_iff, Bool.and_eq_true, beq_iff_eq, beq_eq_false_iff_ne, ne_eq, Prod.mk.injEq]
  constructor
  ·constructor <;> intro h <;> omega
  ·trivial
 rw [hne.1, hne.2]
 refine ⟨fun hn => ?_, fun he => ?_⟩
 ·rw [if_neg hn] at hR
  simp only [beq_iff_eq, beq_eq_false_iff_ne, ne_eq]
  refine ⟨⟨i0, hi⟩, ⟨i0, hj⟩, fun h => hR _ (decide_eq_true (.inl h)).symm, fun h => ⟨⟨i0, hi⟩, ⟨i0, hj⟩, fun h2 => ⟨⟨i0, hi⟩, ⟨i0, hj⟩, hR _ (decide_eq_decide.2 (by omega))⟩, fun h2 => hR _ (decide_eq_false (by omega)).symm⟩⟩
 ·rw [if_pos he] at hR hQ
  exact ⟨inR_i64.2 (by omega), mL_dec hi, ⟨⟨show (0 : Int) <= i + 1 by omega, show i + 1 <= (a.length : Int) by omega, show i + 1 <= (b.length : Int) by omega, hl⟩, hR, hQ⟩⟩
theorem ok30L : Lp2Ok Try.prog 30 0 lc30 := lp2_of (n := 5) (ex := ex30) (m := fun (a, _, i, _) => mL a i) (good2_nil _) fun (a, b, i, ()) Q hx => by
 obtain ⟨⟨g1, g2, g3, g4⟩, hR, hQ⟩ := hx
 exact h30L a b i Q g1 g2 g3 g4 hR hQ
theorem ok30 : FnOk Try.prog 30 fc30 := fn1_of (n := 5) ((good2_nil _).addL2 ok30L) fun (a, b, ()) K hx => by
 obtain ⟨g1, hK⟩ := hx
 show xfn1 Try.prog { l2 := [(30, 0, lc30)] } 5 30 fc30 (a, b, ()) K
 rw [v30F]
 simp only [List.drop_zero]
 exact ⟨⟨Int.le_refl (0 : Int), Int.natCast_nonneg _, Int.natCast_nonneg _, g1⟩, fun r hr => hK r hr, fun h => hK false h.symm⟩
theorem swI_alt {s t : Int} (hs : 0 <= s) (ht : 1 <= t) : s - s / t % 100 * t + (10 * (s / t % 10) + s / t / 10 % 10) * t = swI s t := by
 unfold swI
 have e : s / (10 * t) = s / t / 10 := by rw [Int.mul_comm, Int.ediv_ediv_of_nonneg (by omega)]
 rw [e]
 have e2 : s / t % 100 = 10 * (s / t / 10 % 10) + s / t % 10 := by omega
 rw [e2]
 generalize s / t % 10 = a
 generalize s / t / 10 % 10 = b
 have g1 : (10 * b + a) * t = 10 * (b * t) + a * t := by rw [Int.add_mul, Int.mul_assoc]
 have g2 : (10 * a + b) * t = 10 * (a * t) + b * t := by rw [Int.add_mul, Int.mul_assoc]
 have g3 : (a - b) * 10 * t = 10 * (a * t) - 10 * (b * t) := by rw [Int.mul_assoc, Int.sub_mul, Int.mul_left_comm, Int.mul_left_comm b]
 have g4 : (b - a) * t = b * t - a * t := Int.sub_mul ..
 rw [g1, g2, g3, g4]
 omega
theorem h63L (a b t : Int) (Q : AX -> St -> Prop) (a0 : 1 <= a) (a1 : a <= 1073741824) (t0 : 1 <= t) (t1 : t <= 10737418240) (hR : ∀ r : Bool, r = decide (b ∈ swK a 12 t) -> Q .ret (stS 0 (S [(4, .v .b)]) (r, ()))) (hQ : b ∉ swK a 12 t -> Q (.exit 0) (stS 0 .nil ())) :
  xloop2 Try.prog {} 5 63 0 lc63 ex30 (fun (_, _, t, _) => (10737418241 - t).toNat) (a, b, t, ()) Q := by
 rw [v63L]
 obtain ⟨e1, -, e3, -⟩ := swI_td (s := a) (t := t) (by omega) t0
 have c1 : 0 <= a / t /\ a / t <= a := ⟨Int.ediv_nonneg (by omega) (by omega), Int.ediv_le_self _ (by omega)⟩
 have e5 : (a / t).tmod 100 = a / t % 100 := Int.tmod_eq_emod_of_nonneg c1.1
 have e6 : (a / t).tmod 10 = a / t % 10 := Int.tmod_eq_emod_of_nonneg c1.1
 have e7 : (a / t).tdiv 10 = a / t / 10 := Int.tdiv_eq_ediv_of_nonneg c1.1
 have e8 : (a / t / 10).tmod 10 = a / t / 10 % 10 := Int.tmod_eq_emod_of_nonneg (by omega)
 rw [e1, e5, e6, e7, e8]
 simp only [fork_iff, req_iff, decide_eq_true_eq, decide_eq_false_iff_not, beq_iff_eq, beq_eq_false_iff_ne, ne_eq, gt_iff_lt]
 have hno : ¬ 10 * t <= a -> swK a 12 t = [] := fun h => by
  rw [show swK a 12 t = if 10 * t <= a then swI a t :: swK a 11 (10 * t) else [] from rfl, if_neg h]
 refine ⟨fun ht => ⟨inR_i64.2 (by omega), fun h => hR _ (by rw [hno (by omega)]; exact (decide_eq_false (by simp)).symm), fun h => ?_⟩, fun ht => hQ (by rw [hno (by omega)]; simp)⟩
 have hsw : swK a 12 t = swI a t :: swK a 12 (10 * t) := by
  rw [show swK a 12 t = if 10 * t <= a then swI a t :: swK a 11 (10 * t) else [] from rfl, if_pos (by omega), swK_fuel 11 (10 * t) (by omega) (by show a < 100000000000 * (10 * t); omega)]
 have halt := swI_alt (s := a) (t := t) (by omega) t0
 have hbd := swI_bd (s := a) (ten := t) (by omega) (by omega)
 rw [hsw] at hR hQ
 rw [<- halt] at hR hQ hbd
 have m0 : a / t % 100 <= 99 /\ 0 <= a / t % 100 := by omega
 have m1 : 0 <= a / t % 10 /\ a / t % 10 <= 9 := by omega
 have m2 : 0 <= a / t / 10 % 10 /\ a / t / 10 % 10 <= 9 := by omega
 generalize a / t % 100 = u at *
 generalize a / t % 10 = v at *
 generalize a / t / 10 % 10 = w at *
 have n1 : u * t <= 99 * t := Int.mul_le_mul_of_nonneg_right m0.1 (by omega)
 have n2 : 0 <= u * t := Int.mul_nonneg m0.2 (by omega)
 have n3 : (10 * v + w) * t <= 99 * t := Int.mul_le_mul_of_nonneg_right (by omega) (by omega)
 have n4 : 0 <= (10 * v + w) * t := Int.mul_nonneg (by omega) (by omega)
 generalize u * t = ut at *
 generalize (10 * v + w) * t = vt at *
 refine ⟨by omega, inR_i64.2 (by omega), by omega, inR_i64.2 (by omega), inR_i64.2 (by omega), by omega, inR_i64.2 (by omega), inR_i64.2 (by omega), inR_i64.2 (by omega), inR_i64.2 (by omega), inR_i64.2 (by omega), inR_i64.2 (by omega), inR_i64.2 (by omega), fun h2 => hR _ (decide_eq_true (by rw [h2]; exact List.mem_cons_self ..)).symm, fun h2 => ?_⟩
 have hm : (b ∈ (a - ut + vt) :: swK a 12 (10 * t)) ↔ b ∈ swK a 12 (10 * t) := by
  rw [List.mem_cons]
  exact ⟨fun k => k.elim (fun k => absurd k.symm h2) id, .inr⟩
 simp only [hm] at hR hQ
 exact ⟨inR_i64.2 (by omega), by omega, ⟨⟨a0, a1, by show (1 : Int) <= 10 * t; omega, by show 10 * t <= (10737418240 : Int); omega⟩, hR, hQ⟩⟩
theorem ok63L : Lp2Ok Try.prog 63 0 lc63 := lp2_of (n := 5) (ex := ex30) (m := fun (_, _, t, _) => (10737418241 - t).toNat) (good2_nil _) fun (a, b, t, ()) Q hx => by
 obtain ⟨⟨g1, g2, g3, g4⟩, hR, hQ⟩ := hx
 exact h63L a b t Q g1 g2 g3 g4 hR hQ
theorem sw12 {a : Int} (h : a <= 1073741824) : swK a 12 1 = swapsI a := by
 unfold swapsI
 rw [swK_fuel 11 1 (by decide) (by show a < 100000000000 * 1; omega), swK_fuel 10 1 (by decide) (by show a < 10000000000 * 1; omega)]
theorem ok63 : FnOk Try.prog 63 fc63 := fn1_of (n := 5) ((good2_nil _).addL2 ok63L) fun (a, b, ()) K hx => by
 obtain ⟨⟨g1, g2⟩, hK⟩ := hx
 show xfn1 Try.prog { l2 := [(63, 0, lc63)] } 5 63 fc63 (a, b, ()) K
 rw [v63F]
 rw [sw12 g2]
 exact ⟨⟨g1, g2, by decide, by decide⟩, fun r hr => hK r hr, fun h => hK false (decide_eq_false h).symm⟩
theorem mem_really {s n : Int} : n ∈ reallyI s ↔ n ≠ s /\ (n = 0 \/ n = 2 * s \/ n ∈ swapsI s) := by
 rw [really_mem]
 unfold realsI
 rw [List.mem_cons, List.mem_cons]
 exact And.comm
theorem low_next {l : List Mi} {i : Int} (h : 0 <= i) : lowM l (i + 1) = (l.getD i.toNat (0, 0)).1 + 1 := by
 unfold lowM
 rw [if_neg (by omega), show i + 1 - 1 = i by omega]
theorem h29T (l : List Mi) (o cn : List Int) (ps : List Po) (x : List Int) (i : Int) (Q : AX -> St -> Prop) (b : Bool) (hd : dayOk (o, ps, cn) = true) (hx : x.length = o.length) (i0 : 0 <= i) (hi : i < l.length) (hl : l.length <= big) (hlow : i <= (l.getD i.toNat (0, 0)).1) (hm : (l.getD i.toNat (0, 0)).1 < ps.length)
  (hr : (l.getD i.toNat (0, 0)).2 ∈ reallyI (poA ps (l.getD i.toNat (0, 0)).1.toNat).2.2) (hb : offB ((33 + 20 * i) * 1073741824) x) (hs : lc29.spec (l, (o, ps, cn), moveI x (poA ps (l.getD i.toNat (0, 0)).1.toNat).1 (poA ps (l.getD i.toNat (0, 0)).1.toNat).2.1 ((l.getD i.toNat (0, 0)).2 - (poA ps (l.getD i.toNat (0, 0)).1.toNat).2.2), i + 1, ()) Q) : v29LT l o cn ps x i Q b := by
 unfold v29LT
 have hy := dayOk_iff.1 hd
 have hlen : 2 <= o.length /\ o.length <= 8 /\ cn.length = o.length /\ ps.length <= 16 := hy.len
 have hpo : poOk o.length (poA ps (l.getD i.toNat (0, 0)).1.toNat) = true := hy.pos _ (po_mem (by omega) hm)
 have hbig : (big : Int) = 9223372036854775807 := rfl
 unfold poA at hr hs hpo
 generalize l.getD i.toNat (0, 0) = m at *
 obtain ⟨m1, m2⟩ := m
 dsimp only at *
 generalize ps.getD m1.toNat (0, 0, 0) = p at *
 obtain ⟨p1, p2, p3⟩ := p
 obtain ⟨a1, a2, a3, a4, a5⟩ := poOk_iff.1 hpo
 dsimp only at *
 have hrb := really_bd (by omega) hr
 simp only [fork_iff, req_iff, decide_eq_true_eq, decide_eq_false_iff_not, Nat.add_zero, Nat.zero_add, Bool.not_eq_true', Bool.not_eq_false']
 have g1 := offB_get hb (by omega) p1.toNat
 refine ⟨inR_i64.2 (by omega), fun b1 hb1 => ⟨fun c => by rw [c] at hb1; exact absurd (show 0 <= p1 /\ p1 <= (x.length : Int) - 1 by omega) (of_decide_eq_false hb1.symm), fun _ => ⟨inR_i64.2 (by omega), fun b2 hb2 => ⟨fun c => by rw [c] at hb2; exact absurd (show 0 <= p2 /\ p2 <= (x.length : Int) - 1 by omega) (of_decide_eq_false hb2.symm), fun _ => ?_⟩⟩⟩⟩
 refine ⟨⟨a1.1, by omega⟩, by omega, ⟨i0, hi⟩, inR_i64.2 (by omega), inR_i64.2 (by omega), ⟨a1.1, by omega⟩, by omega, fun ys hys => ?_⟩
 have hys : ys = addAt x p1 (-(m2 - p3)) := by rw [hys, show -(m2 - p3) = p3 - m2 by omega]; rfl
 have hyl : ys.length = x.length := by rw [hys, addAt_len]
 have hyb : offB ((33 + 20 * i) * 1073741824 + 10737418240) ys := by rw [hys]; exact offB_add hb (by omega) (by omega)
 have g2 := offB_get hyb (by omega) p2.toNat
 refine ⟨⟨a2.1, by omega⟩, by omega, ⟨i0, hi⟩, inR_i64.2 (by omega), inR_i64.2 (by omega), ⟨a2.1, by omega⟩, by omega, fun zs hzs => ?_⟩
 have hzs : zs = moveI x p1 p2 (m2 - p3) := by rw [hzs, hys]; rfl
 have hzl : zs.length = x.length := by rw [hzs, moveI_len]
 rw [<- hzl, seg_all, hzs]
 exact ⟨inR_i64.2 (by omega), by rw [moveI_len]; exact Nat.le_refl _, mL_dec hi, hs⟩
theorem h29L (l : List Mi) (o cn : List Int) (ps : List Po) (x : List Int) (i : Int) (Q : AX -> St -> Prop) (hd : dayOk (o, ps, cn) = true) (hx : x.length = o.length) (i0 : 0 <= i) (i1 : i <= l.length) (hl : l.length <= big) (hlow : i <= lowM l i) (hlo2 : lowM l i <= ps.length) (hb : offB ((33 + 20 * i) * 1073741824) x)
  (hN : xplT ps x (lowM l i) (l.drop i.toNat) = none -> Q .ret (stS 0 (S [(6, .v .b)]) (false, ()))) (hS : ∀ y, xplT ps x (lowM l i) (l.drop i.toNat) = some y -> y.length = o.length -> Q (.exit 0) (stS 2 sh29e (l, (o, ps, cn), y, ()))) :
  xloop2 Try.prog { nm := true, f := [(26, fcFrom'), (63, fc63)] } 5 29 0 lc29 ex29 (fun (l, _, _, i, _) => mL l i) (l, (o, ps, cn), x, i, ()) Q := by
 rw [v29L]
 have hy := dayOk_iff.1 hd
 have hlen : 2 <= o.length /\ o.length <= 8 /\ cn.length = o.length /\ ps.length <= 16 := hy.len
 have hbig : (big : Int) = 9223372036854775807 := rfl
 simp only [fork_iff, req_iff, decide_eq_true_eq, decide_eq_false_iff_not, Nat.zero_add, seg_all, Nat.le_refl, true_and, ge_iff_le, gt_iff_lt, Bool.not_eq_true', Bool.not_eq_false', beq_iff_eq, beq_eq_false_iff_ne, bne_iff_ne, bne_eq_false_iff_eq, ne_eq]
 refine ⟨fun hi => ⟨⟨i0, hi⟩, inR_i64.2 (by omega), fun b hbb => ?_⟩, fun hi => hS x (by rw [List.drop_of_length_le (by omega)]; rfl) hx⟩
 have hT := h29T l o cn ps x i Q b hd hx i0 hi hl
 have hnx := low_next (l := l) i0
 rw [drop_atM i0 hi] at hN hS
 unfold xplT at hN hS
 have hlw : lowM l i = if i = 0 then 0 else (l.getD (i - 1).toNat (0, 0)).1 + 1 := rfl
 generalize hm : l.getD i.toNat (0, 0) = m at *
 have go : lowM l i <= m.1 -> m.1 < ps.length -> m.2 ∈ reallyI (poA ps m.1.toNat).2.2 -> v29LT l o cn ps x i Q b := fun c1 c2 c3 => by
  have hpo : poOk o.length (poA ps m.1.toNat) = true := hy.pos _ (po_mem (by omega) c2)
  obtain ⟨a1, a2, a3, a4, a5⟩ := poOk_iff.1 hpo
  rw [if_pos ⟨⟨c1, c2⟩, c3⟩] at hN hS
  have hrb := really_bd (by omega) c3
  refine hT (by omega) c2 c3 hb ⟨⟨hd, by rw [moveI_len]; exact hx, ⟨by show (0 : Int) <= i + 1; omega, by show i + 1 <= (l.length : Int); omega, hl⟩, ⟨by show i + 1 <= lowM l (i + 1); rw [hnx]; omega, by show lowM l (i + 1) <= (ps.length : Int); rw [hnx]; omega⟩, ?_⟩, ?_, ?_⟩
  ·show offB ((33 + 20 * (i + 1)) * 1073741824) _
   unfold moveI
   rw [show (33 + 20 * (i + 1)) * 1073741824 = (33 + 20 * i) * 1073741824 + 10737418240 + 10737418240 by omega]
   exact offB_add (offB_add hb (by omega) (by omega)) (by omega) (by omega)
  ·show xplT ps _ (lowM l (i + 1)) _ = none -> _
   rw [hnx]; exact hN
  ·show ∀ y, xplT ps _ (lowM l (i + 1)) _ = some y -> _
   rw [hnx]; exact hS
 have no : ¬ ((lowM l i <= m.1 /\ m.1 < ps.length) /\ m.2 ∈ reallyI (poA ps m.1.toNat).2.2) -> Q .ret (stS 0 (S [(6, .v .b)]) (false, ())) := fun h => hN (if_neg h)
 clear hT hN hS
 rw [mem_really] at go no
 unfold poA at go no
 refine ⟨fun c => no ?_, fun c => ?_⟩
 ·rw [c] at hbb
  have := of_decide_eq_false hbb.symm
  intro h
  omega
 rw [c] at hbb
 have hr := of_decide_eq_true hbb.symm
 have hpo : poOk o.length (ps.getD m.1.toNat (0, 0, 0)) = true := hy.pos _ (po_mem (by omega) (show m.1 < (ps.length : Int) by omega))
 obtain ⟨a1, a2, a3, a4, a5⟩ := poOk_iff.1 hpo
 generalize ps.getD m.1.toNat (0, 0, 0) = p at *
 have rest : lowM l i <= m.1 -> (0 <= i /\ i < (l.length : Int)) /\ (0 <= m.1 /\ m.1 < (ps.length : Int)) /\ (0 <= i /\ i < (l.length : Int)) /\ ((m.2 = p.2.2 -> Q .ret (stS 0 (S [(6, .v .b)]) (false, ()))) /\ (¬ m.2 = p.2.2 -> (0 <= i /\ i < (l.length : Int)) /\ ((¬ m.2 = 0 -> (0 <= i /\ i < (l.length : Int)) /\ inR .i64 (2 * p.2.2) = true /\ ((¬ m.2 = 2 * p.2.2 -> (0 <= i /\ i < (l.length : Int)) /\ (1 <= p.2.2 /\ p.2.2 <= 1073741824) /\ ∀ r : Bool, r = decide (m.2 ∈ swapsI p.2.2) -> (r = false -> Q .ret (stS 0 (S [(6, .v .b)]) (false, ()))) /\ (r = true -> v29LT l o cn ps x i Q b)) /\ (m.2 = 2 * p.2.2 -> v29LT l o cn ps x i Q b))) /\ (m.2 = 0 -> v29LT l o cn ps x i Q b)))) := fun hlm => by
  refine ⟨⟨i0, hi⟩, ⟨hr.1, by omega⟩, ⟨i0, hi⟩, fun h => no fun k => k.2.1 h, fun h => ⟨⟨i0, hi⟩, fun h0 => ⟨⟨i0, hi⟩, inR_i64.2 (by omega), fun h2 => ⟨⟨i0, hi⟩, ⟨a4, a5⟩, fun r hrr => ⟨fun hf => no fun k => ?_, fun ht => go hlm (by omega) ⟨h, .inr (.inr ?_)⟩⟩⟩, fun h2 => go hlm (by omega) ⟨h, .inr (.inl h2)⟩⟩, fun h0 => go hlm (by omega) ⟨h, .inl h0⟩⟩⟩
  ·rw [hf] at hrr
   have := of_decide_eq_false hrr.symm
   exact k.2.2.elim h0 fun k => k.elim h2 this
  ·rw [ht] at hrr
   exact of_decide_eq_true hrr.symm
 refine ⟨fun hp => ⟨inR_i64.2 (by omega), ⟨by omega, by omega⟩, ⟨i0, hi⟩, fun hge => no fun k => ?_, fun hge => rest ?_⟩, fun hp => rest ?_⟩
 ·have := k.1.1; rw [hlw, if_neg (by omega)] at this; omega
 ·rw [hlw, if_neg (by omega)]; omega
 ·rw [hlw, if_pos (by omega)]; omega
theorem ok29L : Lp2Ok Try.prog 29 0 lc29 := lp2_of (n := 5) (ex := ex29) (m := fun (l, _, _, i, _) => mL l i) (((good2_nilN _).addF ok63).addF okFrom') fun (l, (o, ps, cn), x, i, ()) Q hx => by
 obtain ⟨⟨g1, g2, ⟨g3, g4, g5⟩, ⟨g6, g7⟩, g8⟩, hN, hS⟩ := hx
 exact h29L l o cn ps x i Q g1 g2 g3 g4 g5 g6 g7 g8 hN hS
theorem xpl_ok {ps : List Po} {cn : List Int} : ∀ (l : List Mi) (x : List Int) (low : Int), 0 <= low -> x.length = cn.length -> (explOk ps (subI x cn) low.toNat l ↔ xplT ps x low l = some cn)
 | [], x, low, h0, h => by
  show zeroB (subI x cn) = true ↔ some x = some cn
  rw [sub_zero h, decide_eq_true_eq, Option.some.injEq]
 | m :: l, x, low, h0, h => by
  unfold explOk xplT
  have hl : ((low.toNat : Nat) : Int) = low := by omega
  rw [hl]
  by_cases c : (low <= m.1 /\ m.1 < ps.length) /\ m.2 ∈ reallyI (poA ps m.1.toNat).2.2
  ·rw [if_pos c, <- xpl_ok l _ (m.1 + 1) (by omega) (by rw [moveI_len]; exact h), sub_move h, show (m.1 + 1).toNat = m.1.toNat + 1 by omega]
   exact ⟨fun k => k.2.2, fun k => ⟨c.1, c.2, k⟩⟩
  ·rw [if_neg c]
   exact ⟨fun k => absurd ⟨k.1, k.2.1⟩ c, fun k => by cases k⟩
theorem ok29 : FnOk Try.prog 29 fc29 := fn1_of (n := 5) ((((good2_nilN _).addL2 ok29L).addF2 ok62).addF ok14) fun ((o, ps, cn), b, l, ()) K hx => by
 obtain ⟨⟨g1, g2, g3, g4⟩, hK⟩ := hx
 show xfn1 Try.prog { nm := true, f := [(14, fcSame)], f2 := [(62, fc62)], l2 := [(29, 0, lc29)] } 5 29 fc29 ((o, ps, cn), b, l, ()) K
 rw [v29F]
 have g2 : b.length = o.length := g2
 have hlen : 2 <= o.length /\ o.length <= 8 /\ cn.length = o.length /\ ps.length <= 16 := (dayOk_iff.1 g1).len
 have hl0 : lowM l 0 = 0 := rfl
 simp only [req_iff, fork_iff, decide_eq_true_eq, Nat.zero_add, Nat.le_refl, seg_all, true_and, List.drop_zero]
 refine ⟨by omega, fun r hr => ?_⟩
 subst hr
 have hx := xpl_ok (ps := ps) l r 0 (Int.le_refl 0) (cn := cn) (by omega)
 have hx : explOk ps (subI r cn) 0 l ↔ xplT ps r 0 l = some cn := hx
 rw [hl0]
 refine ⟨⟨g1, g2, ⟨Int.le_refl 0, Int.natCast_nonneg _, g4⟩, ⟨Int.le_refl 0, Int.natCast_nonneg _⟩, g3⟩, fun hn => hK false ?_, fun y hy hyl => ⟨by omega, fun q hq => ⟨fun ht => hK _ ?_, fun hf => hK false ?_⟩⟩⟩
 ·show false = true ↔ _
  rw [hx, hn]
  exact ⟨fun h => (by cases h), fun h => (by cases h.1)⟩
 ·show decide ((l.length : Int) <= 3) = true ↔ _
  rw [hx, hy, decide_eq_true_eq]
  rw [ht] at hq
  have := of_decide_eq_true hq.symm
  rw [this]
  exact ⟨fun h => ⟨rfl, by show l.length <= 3; omega⟩, fun h => by have : l.length <= 3 := h.2; omega⟩
 ·show false = true ↔ _
  rw [hx, hy]
  rw [hf] at hq
  have := of_decide_eq_false hq.symm
  exact ⟨fun h => (by cases h), fun h => absurd (Option.some.inj h.1) this⟩
end Go.P8
