/- Days: what a posting may really have been: the code keeps its contracts. No conditions. -/
import Derived.Test.YtfenogdjhadcoaaDayP1
import Derived.Test.YtfenogdjhadcoaaDayC
import Derived.Test.YtfenogdjhadcoaaCompY
import Derived.Test.YtfenogdjhadcoaaSortY
set_option linter.all false
set_option maxRecDepth 100000
set_option maxHeartbeats 4000000
namespace Go.P8
open Go.Lom Go.Proofs Go
theorem drop_at {l : List Int} {i : Int} (h0 : 0 <= i) (h1 : i < l.length) : l.drop i.toNat = l.getD i.toNat 0 :: l.drop (i + 1).toNat := by
 rw [show (i + 1).toNat = i.toNat + 1 by omega, List.drop_eq_getElem_cons (show i.toNat < l.length by omega), List.getD_eq_getElem?_getD, List.getElem?_eq_getElem (show i.toNat < l.length by omega)]; rfl
theorem drop_no {l : List Int} {i : Int} (h1 : ¬ i < l.length) : l.drop i.toNat = [] := List.drop_eq_nil_of_le (by omega)
theorem mL_dec {α : Type} {l : List α} {i : Int} (h : i < l.length) : mL l (i + 1) < mL l i := by unfold mL; omega
theorem first_none {s : Int} : ∀ (l : List Int) (i : Int), l.all (fun x => decide (x ≠ s)) = true -> firstEq s l i = -1
 | [], _, _ => rfl
 | x :: l, i, h => by
  rw [List.all_cons, Bool.and_eq_true, decide_eq_true_eq] at h
  unfold firstEq
  rw [if_neg h.1, first_none l (i + 1) h.2]
theorem h84D (l : List Int) (s i : Int) (Q : AX -> St -> Prop) (i0 : 0 <= i) (i1 : i <= l.length) (hl : l.length <= 2000)
  (hA : (l.drop i.toNat).all (fun x => decide (x ≠ s)) = true -> Q (.exit 0) (stS 2 (S [(0, .lst 0 I), (1, cl90)]) (l, ((), s, ()), ())))
  (hB : (l.drop i.toNat).all (fun x => decide (x ≠ s)) = false -> Q .ret (stS 2 (S [(0, .lst 0 I), (1, cl90), (4, .v I)]) (l, ((), s, ()), firstEq s (l.drop i.toNat) i, ()))) :
  xloop2 Try.prog {} 5 84 0 lc84d ex84d (fun (l, _, _, i, _) => mL l i) (l, ((), (s, ())), l.length, i, ()) Q := by
 rw [v84D]
 simp only [fork_iff, req_iff, decide_eq_true_eq, decide_eq_false_iff_not, true_and, Nat.add_zero, beq_iff_eq, beq_eq_false_iff_ne, ne_eq]
 refine ⟨fun hi => ⟨⟨i0, hi⟩, by omega, fun he => ?_, fun he => ⟨inR_i64.2 (by omega), mL_dec hi, ⟨⟨show (0 : Int) <= i + 1 by omega, show i + 1 <= (l.length : Int) by omega, hl⟩, fun h => ?_, fun h => ?_⟩⟩⟩, fun hi => ?_⟩
 ·rw [drop_at i0 hi] at hB
  unfold firstEq at hB
  rw [if_pos he] at hB
  exact hB (by rw [List.all_cons, decide_eq_false (fun c => c he), Bool.false_and])
 ·rw [drop_at i0 hi, List.all_cons, decide_eq_true he, Bool.true_and] at hA
  exact hA h
 ·rw [drop_at i0 hi, List.all_cons, decide_eq_true he, Bool.true_and] at hB
  unfold firstEq at hB
  rw [if_neg he] at hB
  exact hB h
 ·rw [drop_no hi] at hA
  exact hA rfl
theorem ok84D : Lp2Ok Try.prog 84 0 lc84d := lp2_of (n := 5) (ex := ex84d) (m := fun (l, _, _, i, _) => mL l i) (good2_nil _) fun (l, ((), (s, ())), m, i, ()) Q hx => by
 obtain ⟨⟨g1, g2, g3, g4⟩, hA, hB⟩ := hx
 have g3 : m = (l.length : Int) := g3
 subst g3
 exact h84D l s i Q g1 g2 g4 hA hB
theorem ok84E : F2Ok Try.prog 84 fc84d := fn2_of (n := 5) ((good2_nil _).addL2 ok84D) fun (l, ((), (s, ())), ()) K hx => by
 obtain ⟨g1, hK⟩ := hx
 show xfn2 Try.prog { l2 := [(84, 0, lc84d)] } 5 84 fc84d (l, ((), (s, ())), ()) K
 rw [v84E]
 simp only [req_iff, decide_eq_true_eq, true_and, List.drop_zero]
 refine ⟨⟨Int.le_refl (0 : Int), Int.natCast_nonneg _, g1⟩, fun h => ?_, fun _ => hK⟩
 have := first_none l 0 h
 have hK : K (l, ((), s, ()), firstEq s l 0, ()) := hK
 rw [this] at hK; exact hK
theorem h88L (l : List Int) (s i j : Int) (Q : AX -> St -> Prop) (i0 : 0 <= i) (ij : i < j) (j1 : j <= l.length) (hl : l.length <= 2000)
  (hQ : ∀ (z : List Int) (k : Int), z.length = l.length -> 0 <= k -> k < l.length -> z.take k.toNat = l.take i.toNat ++ (l.drop j.toNat).filter (fun x => decide (x ≠ s)) -> Q (.exit 0) (stS 2 sh88e (z, ((), s, ()), k, ()))) :
  xloop2 Try.prog { nm := true } 5 88 0 lc88 (fun _ => some (sh88e, 2)) (fun (l, _, _, j, _) => mL l j) (l, ((), (s, ())), i, j, ()) Q := by
 rw [v88L]
 simp only [fork_iff, req_iff, decide_eq_true_eq, decide_eq_false_iff_not, true_and, Nat.add_zero, Bool.not_eq_true', Bool.not_eq_false', beq_iff_eq, beq_eq_false_iff_ne, ne_eq]
 refine ⟨fun hj => ⟨⟨by omega, hj⟩, by omega, fun hn => ⟨⟨i0, by omega⟩, by omega, fun ys hy => ?_⟩, fun he => ⟨inR_i64.2 (by omega), mL_dec hj, ⟨⟨i0, show i < j + 1 by omega, show j + 1 <= (l.length : Int) by omega, hl⟩, fun z k z1 z2 z3 z4 => ?_⟩⟩⟩, fun hj => ?_⟩
 ·have hyl : ys.length = l.length := by rw [hy, List.length_set]
  refine ⟨inR_i64.2 (by omega), inR_i64.2 (by omega), hyl.symm, by unfold mL; omega, ⟨⟨show (0 : Int) <= i + 1 by omega, show i + 1 < j + 1 by omega, show j + 1 <= (ys.length : Int) by omega, by show ys.length <= 2000; omega⟩, fun z k z1 z2 z3 z4 => ?_⟩⟩
  refine hQ z k (z1.trans hyl) z2 (by omega) ?_
  rw [z4, drop_at (by omega) hj, List.filter_cons, if_pos (decide_eq_true hn)]
  have e1 : (i + 1).toNat = i.toNat + 1 := by omega
  have e2 : ys.take (i + 1).toNat = l.take i.toNat ++ [l.getD j.toNat 0] := by
   rw [hy, e1]
   apply List.ext_getElem
   ·rw [List.length_take, List.length_set, List.length_append, List.length_take]; simp; omega
   ·intro a h1 h2
    rw [List.length_take, List.length_set] at h1
    rw [List.getElem_take, List.getElem_set, List.getElem_append]
    by_cases c : i.toNat = a
    ·rw [if_pos c, dif_neg (by rw [List.length_take]; omega)]; simp
    ·rw [if_neg c, dif_pos (by rw [List.length_take]; omega), List.getElem_take]
  have e3 : ys.drop (j + 1).toNat = l.drop (j + 1).toNat := by
   rw [hy, List.drop_set_of_lt (by omega)]
  rw [e2, e3, List.append_assoc]; rfl
 ·refine hQ z k z1 z2 z3 ?_
  rw [z4, drop_at (by omega) hj, List.filter_cons, if_neg (by rw [decide_eq_true_eq]; exact fun c => c he)]
 ·refine hQ l i rfl i0 (by omega) ?_
  rw [drop_no hj]; simp
theorem ok88L : Lp2Ok Try.prog 88 0 lc88 := lp2_of (n := 5) (ex := fun _ => some (sh88e, 2)) (m := fun (l, _, _, j, _) => mL l j) (good2_nilN _) fun (l, ((), (s, ())), i, j, ()) Q hx => by
 obtain ⟨⟨g1, g2, g3, g4⟩, hQ⟩ := hx
 exact h88L l s i j Q g1 g2 g3 g4 hQ
theorem first_some {s : Int} : ∀ (l : List Int) (i : Int), firstEq s l i ≠ -1 -> 0 <= i -> i <= firstEq s l i /\ firstEq s l i < i + l.length /\ l.filter (fun x => decide (x ≠ s)) = l.take (firstEq s l i - i).toNat ++ (l.drop (firstEq s l i - i + 1).toNat).filter (fun x => decide (x ≠ s))
 | [], i, h, _ => absurd rfl h
 | x :: l, i, h, h0 => by
  unfold firstEq at h ⊢
  by_cases e : x = s
  ·rw [if_pos e]
   refine ⟨Int.le_refl _, by rw [List.length_cons]; omega, ?_⟩
   rw [Int.sub_self, List.filter_cons, if_neg (by rw [decide_eq_true_eq]; exact fun c => c e)]; rfl
  ·rw [if_neg e] at h ⊢
   obtain ⟨h1, h2, h3⟩ := first_some l (i + 1) h (by omega)
   refine ⟨by omega, by rw [List.length_cons]; omega, ?_⟩
   rw [List.filter_cons, if_pos (decide_eq_true e), h3]
   rw [show (firstEq s l (i + 1) - i).toNat = (firstEq s l (i + 1) - (i + 1)).toNat + 1 by omega, show (firstEq s l (i + 1) - i + 1).toNat = (firstEq s l (i + 1) - (i + 1) + 1).toNat + 1 by omega]; rfl
theorem first_filter {s : Int} : ∀ (l : List Int) (i : Int), 0 <= i -> firstEq s l i = -1 -> l.filter (fun x => decide (x ≠ s)) = l
 | [], _, _, _ => rfl
 | x :: l, i, h0, h => by
  unfold firstEq at h
  by_cases e : x = s
  ·rw [if_pos e] at h; omega
  ·rw [if_neg e] at h
   rw [List.filter_cons, if_pos (decide_eq_true e), first_filter l (i + 1) (by omega) h]
theorem h88F (l : List Int) (s : Int) (K : fcDel.post.den -> Prop) (h1 : 1 <= l.length) (hl : l.length <= 2000) (hK : ∀ r : List Int, r = l.filter (fun x => decide (x ≠ s)) -> K ((), (), r, ())) :
  xfn2 Try.prog { nm := true, ip := true, f2 := [(84, fc84d)], l2 := [(88, 0, lc88)] } 5 88 fcDel (l, ((), (s, ())), ()) K := by
 rw [v88F]
 simp only [fork_iff, req_iff, decide_eq_true_eq, decide_eq_false_iff_not, true_and, beq_iff_eq, beq_eq_false_iff_ne, ne_eq, Nat.zero_add, Nat.le_refl, seg_all]
 refine ⟨hl, fun he => hK l (first_filter l 0 (Int.le_refl 0) he).symm, fun hn => ?_⟩
 obtain ⟨f1, f2, f3⟩ := first_some l 0 hn (Int.le_refl 0)
 rw [Int.sub_zero] at f3
 refine ⟨inR_i64.2 (by omega), ⟨f1, show firstEq s l 0 < firstEq s l 0 + 1 by omega, show firstEq s l 0 + 1 <= (l.length : Int) by omega, hl⟩, fun z k z1 z2 z3 z4 => ⟨⟨z2, by omega, Int.le_refl _, trivial⟩, by omega, fun c hc => ⟨⟨z2, by omega⟩, ?_, ?_⟩⟩⟩
 ·simp; omega
 ·refine hK _ ?_
  rw [f3, <- z4]
  unfold seg
  rw [List.drop_zero, List.append_assoc, List.take_append_of_le_length (by rw [List.length_take]; omega), List.take_take, Nat.min_self]
theorem ok88 : F2Ok Try.prog 88 fcDel := fn2_of (n := 5) (((good2_nilI _).addL2 ok88L).addF2 ok84E) fun (l, ((), (s, ())), ()) K hx =>
 h88F l s K hx.1.1 hx.1.2 hx.2
theorem h60L (s : Int) (h : Dh) (n : Int) (o : List Int) (i : Int) (Q : AX -> St -> Prop) (hd : okDg (h, n)) (i0 : 0 <= i) (i1 : i <= n - 1) (ho : (o.length : Int) = i + 2)
  (hQ : Q (.exit 0) (stS 2 sh60e (s, o ++ (List.range' i.toNat (n - 1 - i).toNat).map (fun j => valI ((swapL (arL 11 h) j).take n.toNat)), ()))) :
  xloop2 Try.prog { nm := true, f := [(86, fc86)] } 5 60 0 lc60 (fun _ => some (sh60e, 2)) (fun (_, _, _, m, i, _) => (m - i).toNat) (s, (((h, n), ()), ()), o, n - 1, i, ()) Q := by
 rw [v60L]
 have hn : n <= 12 := hd.1.2
 simp only [fork_iff, req_iff, decide_eq_true_eq, decide_eq_false_iff_not, true_and, Nat.zero_add, Nat.le_refl, seg_all]
 refine ⟨fun hi => ⟨⟨hd, i0, by omega⟩, fun r hr => ⟨?_, fun ys hy => ?_⟩⟩, fun hi => ?_⟩
 ·simp only [fitsN, Bool.and_eq_true, Nat.ble_eq]; unfold maxLen; omega
 ·have hyl : ys.length = o.length + 1 := by rw [hy, List.length_append]; rfl
  rw [<- hyl, seg_all]
  refine ⟨inR_i64.2 (by omega), Nat.le_refl _, by omega, ⟨⟨hd, show (0 : Int) <= i + 1 by omega, show i + 1 <= n - 1 by omega, show (ys.length : Int) = i + 1 + 2 by omega⟩, ?_⟩⟩
  show Q (.exit 0) (stS 2 sh60e (s, ys ++ (List.range' (i + 1).toNat (n - 1 - (i + 1)).toNat).map (fun j => valI ((swapL (arL 11 h) j).take n.toNat)), ()))
  rw [show (n - 1 - i).toNat = (n - 1 - (i + 1)).toNat + 1 by omega, List.range'_succ, List.map_cons, <- hr] at hQ
  rw [hy, List.append_assoc, show (i + 1).toNat = i.toNat + 1 by omega]
  exact hQ
 ·rw [show (n - 1 - i).toNat = 0 by omega] at hQ
  have hQ : Q (.exit 0) (stS 2 sh60e (s, o ++ [], ())) := hQ
  rw [List.append_nil] at hQ
  exact hQ
theorem ok60L : Lp2Ok Try.prog 60 0 lc60 := lp2_of (n := 5) (ex := fun _ => some (sh60e, 2)) (m := fun (_, _, _, m, i, _) => (m - i).toNat) ((good2_nilN _).addF ok86) fun (s, (((h, n), ()), ()), o, m, i, ()) Q hx => by
 obtain ⟨⟨g1, g2, g3, g4, g5⟩, hQ⟩ := hx
 have g2 : m = n - 1 := g2
 subst g2
 exact h60L s h n o i Q g1 g3 g4 g5 hQ
theorem map_take (f : Nat -> Int) (l : List Nat) : (l.map Int.ofNat).take 0 = [] := rfl
theorem swap_map : ∀ (l : List Nat) (i : Nat), i + 1 < l.length -> (swapN i l).map Int.ofNat = swapL (l.map Int.ofNat) i
 | d :: e :: l, 0, _ => rfl
 | d :: l, i + 1, h => by
  show Int.ofNat d :: (swapN i l).map Int.ofNat = _
  rw [swap_map l i (by simpa using h)]
  unfold swapL
  rw [List.map_cons, List.set_cons_succ, List.set_cons_succ, List.getD_cons_succ, List.getD_cons_succ]
 | [], _, h => by simp at h
 | [_], 0, h => by simp at h
theorem swap_pad {l : List Int} {i : Nat} (h : i + 1 < l.length) : (swapL (padI l) i).take l.length = swapL l i := by
 unfold swapL padI
 have g : ∀ j, j < l.length -> (l ++ List.replicate (12 - l.length) (0 : Int)).getD j 0 = l.getD j 0 := fun j hj => by
  rw [List.getD_eq_getElem?_getD, List.getElem?_append_left hj, <- List.getD_eq_getElem?_getD]
 rw [g _ h, g i (by omega), List.set_append_left _ _ (by omega), List.set_append_left _ _ (by rw [List.length_set]; omega), List.take_append_of_le_length (by rw [List.length_set, List.length_set]; exact Nat.le_refl _)]
 rw [List.take_of_length_le (by rw [List.length_set, List.length_set]; exact Nat.le_refl _)]
theorem swaps_eq {s : Int} (h0 : 1 <= s) (h1 : s <= 1073741824) : (List.range' 0 ((digI s).length - 1)).map (fun j => valI ((swapL (padI (digI s)) j).take (digI s).length)) = swapsI s := by
 have hk := swK_eq (n := s.toNat) (by omega) 10 0 (by have := digN_len 12 s.toNat 10 (by omega); omega)
 have hl : (digI s).length = (digN 12 s.toNat).length := by unfold digI; rw [List.length_map]
 unfold swapsI
 rw [show ((10 ^ 0 : Nat) : Int) = 1 from rfl, show ((s.toNat : Nat) : Int) = s by omega, Nat.sub_zero] at hk
 rw [hk, hl]
 refine List.map_congr_left fun j hj => ?_
 rw [List.mem_range'_1] at hj
 have hj2 : j + 1 < (digI s).length := by omega
 rw [<- hl, swap_pad hj2]
 unfold digI
 rw [<- swap_map _ j (by omega), valI_map]
theorem h60F (s : Int) (K : dens [L] -> Prop) (h0 : 1 <= s) (h1 : s <= 1073741824) (hK : ∀ r : List Int, r = reallyI s -> K (r, ())) :
  xfn1 Try.prog { nm := true, f := [(85, fc85), (86, fc86)], f2 := [(87, fcSort), (89, fcComp), (88, fcDel)], l2 := [(60, 0, lc60)] } 5 60 fcReally (s, ()) K := by
 rw [v60F]
 simp only [req_iff, decide_eq_true_eq, true_and, Nat.zero_add, Nat.le_refl, seg_all]
 refine ⟨⟨show (0 : Int) <= s by omega, h1⟩, fun h m hh hm => ?_⟩
 have hl := digI_len h1
 have hp : 1 <= (digI s).length := by rw [digI_step (by omega) h1, List.length_cons]; omega
 have hL : ([0, 2 * s] ++ List.map (fun j => valI ((swapL (arL 11 h) j).take m.toNat)) (List.range' 0 (m - 1 - 0).toNat)) = realsI s := by
  rw [hh, hm, show ((digI s).length : Int).toNat = (digI s).length by omega, show (((digI s).length : Int) - 1 - 0).toNat = (digI s).length - 1 by omega, swaps_eq h0 h1]; rfl
 rw [hL]
 have hrl : (realsI s).length = (digI s).length + 1 := by
  show (swapsI s).length + 1 + 1 = _
  rw [<- swaps_eq h0 h1, List.length_map, List.length_range']; omega
 have hsl : (sortI (realsI s)).length = (realsI s).length := sortI_len _
 refine ⟨inR_i64.2 (by omega), inR_i64.2 (by omega), ⟨⟨⟨by show (0 : Int) <= m; omega, by show m <= (12 : Int); omega⟩, fun d hd => ?_⟩, Int.le_refl (0 : Int), by show (0 : Int) <= m - 1; omega, rfl⟩, by omega, hsl.symm, ⟨by omega, by omega⟩, fun r hr => ?_⟩
 ·rw [hh] at hd
  rcases pad_mem hd with e | e
  ·exact digI_mem (by omega) h1 e
  ·omega
 ·have hrp : 0 < r.length := by rw [hr]; exact comp_ne (by omega)
  have hrb : r.length <= (sortI (realsI s)).length := by rw [hr]; exact compI_le _
  exact ⟨⟨by omega, by omega⟩, fun q hq => hK q (by rw [hq, hr]; exact really_eq s fun y => Iff.rfl)⟩
theorem ok60 : FnOk Try.prog 60 fcReally := fn1_of (n := 5) ((((((good2_nilN _).addL2 ok60L).addF2 ok88).addF2 ok89).addF2 ok87).addF ok86 |>.addF ok85) fun (s, ()) K hx =>
 h60F s K hx.1.1 hx.1.2 hx.2
end Go.P8
