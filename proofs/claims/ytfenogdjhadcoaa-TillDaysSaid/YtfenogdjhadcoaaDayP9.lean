/- Days: the reference: what a posting may really have been, explanations: the code keeps its contracts. No conditions. -/
import Derived.Test.YtfenogdjhadcoaaDayP8
set_option linter.all false
set_option maxRecDepth 100000
set_option maxHeartbeats 4000000
namespace Go.P8
open Go.Lom Go.Proofs Go
theorem stepR_len (s : Int) (o : List Int) (x : Int) : (stepR s o x).length <= o.length + 1 := by
 unfold stepR
 split
 ·omega
 ·exact insI_len x o
theorem h91B (s : Int) (l o : List Int) (i : Int) (Q : AX -> St -> Prop) (i0 : 0 <= i) (i1 : i <= l.length) (hl : l.length <= 100) (ho : (o.length : Int) <= i)
  (hQ : Q (.exit 2) (stS 1 sh91be ((l.drop i.toNat).foldl (stepR s) o, ()))) :
  xloop2 Try.prog { nm := true, f := [(109, fc109)], l2 := [(91, 2, lc91c)] } 5 91 1 lc91b (fun _ => some (sh91be, 1)) (fun (_, l, _, i, _) => mL l i) (s, l, o, i, ()) Q := by
 rw [v91B]
 simp only [fork_iff, req_iff, decide_eq_true_eq, decide_eq_false_iff_not, Nat.zero_add, Nat.le_refl, seg_all, true_and, beq_iff_eq, beq_eq_false_iff_ne, ne_eq, List.drop_zero, ge_iff_le]
 refine ⟨fun hi => ?_, fun hi => ?_⟩
 rotate_left
 ·rw [drop_no hi] at hQ
  exact hQ
 rw [drop_at i0 hi, List.foldl_cons] at hQ
 have hfl : ∀ n : Nat, n <= 300 -> fitsN n 8 = true := fun n hn => by simp only [fitsN, Bool.and_eq_true, Nat.ble_eq]; unfold maxLen; omega
 have go : ∀ o2 : List Int, o2 = stepR s o (l.getD i.toNat 0) -> inR .i64 (i + 1) = true /\ mL l (i + 1) < mL l i /\ lc91b.spec (s, l, o2, i + 1, ()) Q := fun o2 h2 => by
  have h3 := stepR_len s o (l.getD i.toNat 0)
  rw [<- h2] at h3 hQ
  exact ⟨inR_i64.2 (by omega), mL_dec hi, ⟨⟨by show (0 : Int) <= i + 1; omega, by show i + 1 <= (l.length : Int); omega, hl, by show (o2.length : Int) <= i + 1; omega⟩, hQ⟩⟩
 refine ⟨⟨i0, hi⟩, fun he => go o (by unfold stepR; rw [if_pos (.inl he)]), fun he => ⟨⟨i0, hi⟩, by omega, fun r hr => ⟨fun h0 => go o (by unfold stepR; rw [if_pos (.inr (hr.1 h0))]), fun h0 => ?_⟩⟩⟩
 have hx : l.getD i.toNat 0 ∉ o := fun c => h0 (hr.2 c)
 obtain ⟨l1, l2⟩ := lead_ins _ o hx
 refine ⟨⟨i0, hi, Int.le_refl (0 : Int), Int.natCast_nonneg _, by omega⟩, fun a' ha => ?_⟩
 have ha : a' = ((leadI (l.getD i.toNat 0) o : Nat) : Int) := ha.trans (Int.zero_add _)
 generalize leadI (l.getD i.toNat 0) o = n at *
 subst ha
 have hn : ((n : Nat) : Int).toNat = n := rfl
 have hs : seg 0 n o = o.take n := rfl
 have hs2 : seg n (o.length - n) o = o.drop n := by
  unfold seg
  rw [List.take_of_length_le (by rw [List.length_drop]; exact Nat.le_refl _)]
 rw [hn, hs, hs2]
 have ht : (o.take n).length = n := by rw [List.length_take]; omega
 refine ⟨⟨Int.le_refl 0, Int.natCast_nonneg _, by omega, trivial⟩, ⟨i0, hi⟩, ⟨Int.natCast_nonneg _, by omega, Int.le_refl _, trivial⟩, l1, hfl _ (by omega), fun ys hy => ?_⟩
 subst hy
 refine ⟨Nat.le_refl _, hfl _ (by omega), fun y1 hy1 => ?_⟩
 rw [show seg 0 (o.take n).length (o.take n) = o.take n from seg_all _] at hy1
 have hl1 : y1.length = (o.take n).length + 1 := by rw [hy1, List.length_append]; rfl
 refine ⟨by omega, by omega, hfl _ (by rw [List.length_drop]; omega), fun y2 hy2 => ?_⟩
 rw [<- hl1, seg_all] at hy2
 have hl2 : y2.length = (o.take n).length + 1 + (o.drop n).length := by rw [hy2, List.length_append, hl1]
 rw [<- hl2, seg_all]
 have hst : y2 = stepR s o (l.getD i.toNat 0) := by
  unfold stepR
  rw [if_neg (fun c => c.elim he hx), hy2, hy1, l2]
 obtain ⟨g1, g2, g3⟩ := go y2 hst
 exact ⟨g1, Nat.le_refl _, g2, g3⟩
theorem ok91B : Lp2Ok Try.prog 91 1 lc91b := lp2_of (n := 5) (ex := fun _ => some (sh91be, 1)) (m := fun (_, l, _, i, _) => mL l i) (((good2_nilN _).addL2 ok91C).addF ok109) fun (s, l, o, i, ()) Q hx => by
 obtain ⟨⟨g1, g2, g3, g4⟩, hQ⟩ := hx
 exact h91B s l o i Q g1 g2 g3 g4 hQ
theorem h91F (s : Int) (K : dens [L] -> Prop) (h0 : 1 <= s) (h1 : s <= 1073741824) (hK : ∀ r : List Int, r = reallyI s -> K (r, ())) : xfn1 Try.prog { nm := true, l2 := [(91, 0, lc91a), (91, 1, lc91b)] } 5 91 fcReally (s, ()) K := by
 rw [v91F]
 have hs : swK s 12 1 = swK s 10 1 := by
  rw [swK_fuel 11 1 (by decide) (by show s < 100000000000 * 1; omega), swK_fuel 10 1 (by decide) (by show s < 10000000000 * 1; omega)]
 have hl : ([0, 2 * s] ++ swK s 12 1).length <= 14 := by
  have := swK_len s 12 1
  rw [List.length_append]
  show 2 + _ <= 14
  omega
 simp only [req_iff, decide_eq_true_eq, Nat.zero_add, Nat.le_refl, seg_all, true_and, List.drop_zero]
 refine ⟨inR_i64.2 (by omega), ⟨h0, h1, by show (1 : Int) <= 1; decide, by show (1 : Int) <= 1073741824; decide, by show (2 : Int) <= 1 + 2; decide⟩, ⟨Int.le_refl (0 : Int), Int.natCast_nonneg _, by omega, Int.le_refl (0 : Int)⟩, hK _ ?_⟩
 rw [hs]; rfl
theorem ok91 : FnOk Try.prog 91 fcReally := fn1_of (n := 5) (((good2_nilN _).addL2 ok91B).addL2 ok91A) fun (s, ()) K hx => h91F s K hx.1.1 hx.1.2 hx.2
theorem okB_off {b : List Int} {d : Dy} {more : Int} (h : okB b d more) : b.length = d.2.2.length := by
 rw [h.len]; exact ((dayOk_iff.1 h.day).len.2.2.1).symm
theorem sub_get {b c : List Int} (h : b.length = c.length) (j : Nat) : (subI b c).getD j 0 = b.getD j 0 - c.getD j 0 := by
 unfold subI
 rw [List.getD_eq_getElem?_getD, List.getElem?_zipWith, List.getD_eq_getElem?_getD, List.getD_eq_getElem?_getD]
 by_cases hj : j < b.length
 ·rw [List.getElem?_eq_getElem hj, List.getElem?_eq_getElem (show j < c.length by omega)]; rfl
 ·rw [List.getElem?_eq_none (by omega), List.getElem?_eq_none (by omega)]; rfl
theorem sub_move {b c : List Int} (h : b.length = c.length) {p : Po} {n : Int} : subI (moveI b p.1 p.2.1 (n - p.2.2)) c = offM (subI b c) p n := by
 refine list_ext_getD (by rw [subI_len (by rw [moveI_len]; exact h), moveI_len, offM_len, subI_len h]) fun j hj => ?_
 rw [subI_len (by rw [moveI_len]; exact h), moveI_len] at hj
 rw [sub_get (by rw [moveI_len]; exact h)]
 unfold moveI offM
 simp only [addAt_get, addAt_len, subI_len h, hj, and_true, sub_get h]
 repeat' split
 all_goals omega
theorem sub_zero {b c : List Int} (h : b.length = c.length) : zeroB (subI b c) = decide (b = c) := by
 rw [Bool.eq_iff_iff, decide_eq_true_eq]
 unfold zeroB
 rw [List.all_eq_true]
 constructor
 ·intro hz
  refine list_ext_getD h fun j hj => ?_
  have hm : (subI b c).getD j 0 = 0 := by
   rw [List.getD_eq_getElem?_getD, List.getElem?_eq_getElem (by rw [subI_len h]; exact hj)]
   exact of_decide_eq_true (hz _ (List.getElem_mem _))
  rw [sub_get h] at hm
  omega
 ·intro e x hx
  subst e
  obtain ⟨i, hi, rfl⟩ := List.mem_iff_getElem.1 hx
  have := sub_get (b := b) (c := b) rfl i
  rw [List.getD_eq_getElem?_getD, List.getElem?_eq_getElem hi] at this
  refine decide_eq_true ?_
  have h2 : (subI b b)[i] = b.getD i 0 - b.getD i 0 := this
  omega
set_option maxHeartbeats 8000000 in
theorem h61B (c : Nat) (b : List Int) (more : Int) (o cn : List Int) (ps : List Po) (i p1 p2 p3 : Int) (ns : List Int) (k : Int) (Q : AX -> St -> Prop) (hx : okB b (o, ps, cn) more) (hm1 : 1 <= more) (hmc : more <= c) (i0 : 0 <= i) (i1 : i < ps.length)
  (hp : (p1, p2, p3) = poA ps i.toNat) (hns : ns = reallyI p3) (k0 : 0 <= k) (k1 : k <= ns.length)
  (hN : expN ps (more - 1).toNat (subI b cn) i.toNat (ns.drop k.toNat) = none -> Q (.exit 2) (stS 1 sh61 (b, more, (o, ps, cn), i, ()))) (hS : ∀ l, expN ps (more - 1).toNat (subI b cn) i.toNat (ns.drop k.toNat) = some l -> Q .ret (stS 0 sh61r (l, true, ()))) :
  xloop2 Try.prog { nm := true, f := [(61, fc61 c), (83, fc83)] } 5 61 1 (lc61b c) ex61b (fun (_, _, _, _, _, ns, k, _) => mL ns k) (b, more, (o, ps, cn), i, (p1, p2, p3), ns, k, ()) Q := by
 rw [v61B]
 have hday := dayOk_iff.1 hx.day
 have hlen : 2 <= o.length /\ o.length <= 8 /\ cn.length = o.length /\ ps.length <= 16 := hday.len
 have hbl : b.length = o.length := hx.len
 have hpo : poOk o.length (poA ps i.toNat) = true := hday.pos _ (po_mem i0 i1)
 rw [<- hp] at hpo
 obtain ⟨a1, a2, a3, a4, a5⟩ := poOk_iff.1 hpo
 dsimp only at a1 a2 a3 a4 a5
 have hm3 := hx.cnt
 have hB := hx.bnd
 have hrl : ns.length <= 12 := by rw [hns]; exact really_len p3
 simp only [fork_iff, req_iff, decide_eq_true_eq, decide_eq_false_iff_not, true_and, Nat.zero_add]
 refine ⟨fun hk => ?_, fun hk => hN (by rw [drop_no hk]; rfl)⟩
 rw [drop_at k0 hk, expN_cons] at hN hS
 have hnm : ns.getD k.toNat 0 ∈ reallyI p3 := by
  rw [<- hns, List.getD_eq_getElem?_getD, List.getElem?_eq_getElem (show k.toNat < ns.length by omega)]; exact List.getElem_mem _
 have hnb := really_bd (by omega) hnm
 generalize ns.getD k.toNat 0 = x at *
 have hE : poA ps i.toNat = (p1, p2, p3) := hp.symm
 rw [hE] at hN hS
 have hi : ((i.toNat : Nat) : Int) = i := by omega
 rw [hi] at hN hS
 have hi1 : (i + 1).toNat = i.toNat + 1 := by omega
 unfold bd at hB
 refine ⟨⟨k0, hk⟩, inR_i64.2 (by omega), inR_i64.2 (by omega), inR_i64.2 (by omega), ⟨by omega, by omega, by omega, fun y hy => by have := hB y hy; omega, by omega, by omega⟩, fun r hr => ?_⟩
 have hsub : subI r cn = offM (subI b cn) (p1, p2, p3) x := by rw [hr]; exact sub_move (p := (p1, p2, p3)) (by omega)
 have hrb : offB (bd (more - 1)) r := by
  rw [hr]
  unfold bd moveI
  rw [show (100 - 20 * (more - 1)) * 1073741824 = (100 - 20 * more) * 1073741824 + 10737418240 + 10737418240 by omega]
  exact offB_add (offB_add hB (by omega) (by omega)) (by omega) (by omega)
 rw [hsub, hi1]
 refine ⟨⟨⟨hx.day, by rw [hr, moveI_len]; exact hx.len, hrb, by omega⟩, by show more - 1 < (c : Int); omega, by show (0 : Int) <= i + 1; omega, by show i + 1 <= (16 : Int); omega⟩, fun r1 b1 q1 q2 => ⟨fun hb => ?_, fun hb => ?_⟩⟩
 ·rw [hb] at q1
  obtain ⟨l, hl⟩ := Option.isSome_iff_exists.1 q1.symm
  have h1 := q2 l hl
  have h2 := (expl_ok ps _ _ _ l hl).1
  rw [hl] at hS
  refine ⟨⟨k0, hk⟩, ?_, fun ys hy => ?_⟩
  ·simp only [fitsN, Bool.and_eq_true, Nat.ble_eq]; unfold maxLen
   rw [h1, h2]
   omega
  ·have hyl : ys.length = 1 + r1.length := by rw [hy, List.length_append]; rfl
   rw [<- hyl, seg_all]
   refine ⟨Nat.le_refl _, ?_⟩
   rw [hy, h1]
   exact hS ((i, x) :: l) rfl
 ·rw [hb] at q1
  have hnone : expl ps (more - 1).toNat (offM (subI b cn) (p1, p2, p3) x) (i.toNat + 1) = none := by
   cases hc : expl ps (more - 1).toNat (offM (subI b cn) (p1, p2, p3) x) (i.toNat + 1) with
   | none => rfl
   | some l => rw [hc] at q1; cases q1
  rw [hnone] at hN hS
  exact ⟨inR_i64.2 (by omega), mL_dec hk, ⟨⟨hx, hm1, hmc, ⟨i0, i1⟩, hp, hns, by show (0 : Int) <= k + 1; omega, by show k + 1 <= (ns.length : Int); omega⟩, hN, hS⟩⟩
theorem ok61B {c : Nat} (h : FnOk Try.prog 61 (fc61 c)) : Lp2Ok Try.prog 61 1 (lc61b c) := lp2_of (n := 5) (ex := ex61b) (m := fun (_, _, _, _, _, ns, k, _) => mL ns k) (((good2_nilN _).addF ok83).addF h) fun (b, more, (o, ps, cn), i, (p1, p2, p3), ns, k, ()) Q hx => by
 obtain ⟨⟨g1, g2, g3, ⟨g4, g5⟩, g6, g7, g8, g9⟩, hN, hS⟩ := hx
 exact h61B c b more o cn ps i p1 p2 p3 ns k Q g1 g2 g3 g4 g5 g6 g7 g8 g9 hN hS
theorem h61L (c : Nat) (b : List Int) (more : Int) (o cn : List Int) (ps : List Po) (i : Int) (Q : AX -> St -> Prop) (hx : okB b (o, ps, cn) more) (hm1 : 1 <= more) (hmc : more <= c) (i0 : 0 <= i) (i1 : i <= 16)
  (hN : expl ps more.toNat (subI b cn) i.toNat = none -> Q (.exit 0) (stS 0 .nil ())) (hS : ∀ l, expl ps more.toNat (subI b cn) i.toNat = some l -> Q .ret (stS 0 sh61r (l, true, ()))) :
  xloop2 Try.prog { nm := true, f := [(91, fcReally)], l2 := [(61, 1, lc61b c)] } 5 61 0 (lc61 c) ex61 (fun (_, _, _, i, _) => (17 - i).toNat) (b, more, (o, ps, cn), i, ()) Q := by
 rw [v61L]
 have hday := dayOk_iff.1 hx.day
 have hps : ps.length <= 16 := hday.len.2.2.2
 have hm : more.toNat = (more - 1).toNat + 1 := by omega
 simp only [fork_iff, req_iff, decide_eq_true_eq, decide_eq_false_iff_not, true_and, List.drop_zero]
 refine ⟨fun hi => ?_, fun hi => hN (by rw [hm]; exact expl_end _ _ _ (by omega))⟩
 have hpo : poOk o.length (poA ps i.toNat) = true := hday.pos _ (po_mem i0 hi)
 have hpo := poOk_iff.1 hpo
 have e1 : poA ps i.toNat = ps.getD i.toNat (0, 0, 0) := rfl
 have hst := expl_step ps (more - 1).toNat (subI b cn) (i := i.toNat) (by omega)
 rw [<- hm] at hst
 rw [hst] at hN hS
 rw [e1] at hpo hN hS
 have hi1 : (i + 1).toNat = i.toNat + 1 := by omega
 refine ⟨⟨i0, hi⟩, ⟨hpo.2.2.2.1, hpo.2.2.2.2⟩, fun r hr => ⟨⟨hx, hm1, hmc, ⟨i0, hi⟩, e1.symm, hr, Int.le_refl (0 : Int), Int.natCast_nonneg _⟩, fun h => ?_, fun l h => ?_⟩⟩
 ·rw [hr] at h
  rw [h] at hN hS
  refine ⟨inR_i64.2 (by omega), by omega, ⟨⟨hx, hm1, hmc, by show (0 : Int) <= i + 1; omega, by show i + 1 <= (16 : Int); omega⟩, fun h2 => ?_, fun l h2 => ?_⟩⟩
  ·have h2 : expl ps more.toNat (subI b cn) (i + 1).toNat = none := h2
   rw [hi1] at h2
   exact hN h2
  ·have h2 : expl ps more.toNat (subI b cn) (i + 1).toNat = some l := h2
   rw [hi1] at h2
   exact hS l h2
 ·rw [hr] at h
  rw [h] at hS
  exact hS l rfl
theorem ok61L {c : Nat} (h : Lp2Ok Try.prog 61 1 (lc61b c)) : Lp2Ok Try.prog 61 0 (lc61 c) := lp2_of (n := 5) (ex := ex61) (m := fun (_, _, _, i, _) => (17 - i).toNat) (((good2_nilN _).addL2 h).addF ok91) fun (b, more, (o, ps, cn), i, ()) Q hx => by
 obtain ⟨⟨g1, g2, g3, g4, g5⟩, hN, hS⟩ := hx
 exact h61L c b more o cn ps i Q g1 g2 g3 g4 g5 hN hS
theorem h61F (c : Nat) (o cn : List Int) (ps : List Po) (b : List Int) (i more : Int) (K : dens [LM, .b] -> Prop) (hx : okB b (o, ps, cn) more) (hmc : more < c + 1) (i0 : 0 <= i) (i1 : i <= 16)
  (hK : ∀ (r : List Mi) (q : Bool), q = (expl ps more.toNat (subI b cn) i.toNat).isSome -> (∀ l, expl ps more.toNat (subI b cn) i.toNat = some l -> r = l) -> K (r, q, ())) :
  xfn1 Try.prog { nm := true, f := [(14, fcSame)], l2 := [(61, 0, lc61 c)] } 5 61 (fc61 (c + 1)) ((o, ps, cn), b, i, more, ()) K := by
 rw [v61F]
 have hm3 := hx.cnt
 have hbl := okB_off hx
 have hol : b.length <= 8 := by rw [hx.len]; exact (dayOk_iff.1 hx.day).len.2.1
 simp only [fork_iff, beq_iff_eq, beq_eq_false_iff_ne, ne_eq]
 refine ⟨fun hm => ⟨by omega, fun r hr => hK [] r ?_ (fun l hl => ?_)⟩, fun hm => ⟨⟨hx, by show (1 : Int) <= more; omega, by show more <= (c : Int); omega, i0, i1⟩, fun h => hK [] false (by rw [h]; rfl) (fun l hl => by rw [h] at hl; cases hl), fun l h => hK l true (by rw [h]; rfl) (fun l' hl => by rw [h] at hl; injection hl)⟩⟩
 ·have e : expl ps more.toNat (subI b cn) i.toNat = if zeroB (subI b cn) = true then some [] else none := by rw [hm]; rfl
  rw [e, sub_zero hbl, hr]
  by_cases c : b = cn
  ·rw [decide_eq_true c]; rfl
  ·rw [decide_eq_false c]; rfl
 ·have e : expl ps more.toNat (subI b cn) i.toNat = if zeroB (subI b cn) = true then some [] else none := by rw [hm]; rfl
  rw [e] at hl
  split at hl
  ·injection hl
  ·cases hl
theorem ok61 : ∀ c : Nat, FnOk Try.prog 61 (fc61 c)
 | 0 => fun ((o, ps, cn), b, i, more, ()) K hx => by
  obtain ⟨⟨g1, g2, -⟩, -⟩ := hx
  exact (no_more g1.cnt.1 g2).elim
 | c + 1 => fn1_of (n := 5) (((good2_nilN _).addL2 (ok61L (ok61B (ok61 c)))).addF ok14) fun ((o, ps, cn), b, i, more, ()) K hx => by
  obtain ⟨⟨g1, g2, g3, g4⟩, hK⟩ := hx
  exact h61F c o cn ps b i more K g1 (one_more g2) g3 g4 hK
end Go.P8
