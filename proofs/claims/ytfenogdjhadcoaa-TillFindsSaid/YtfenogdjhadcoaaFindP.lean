/- Scales: what tells, who judges: the code keeps its contracts. No conditions. -/
import Derived.Test.YtfenogdjhadcoaaScaP2
import Derived.Test.YtfenogdjhadcoaaFindS
import Derived.Test.YtfenogdjhadcoaaPayP
set_option linter.all false
set_option maxRecDepth 100000
set_option maxHeartbeats 4000000
namespace Go.P8
open Go.Lom Go.Proofs Go
theorem smO_iff {n : Int} : smO n = true ↔ -1 <= n /\ n <= 1 := by simp [smO]
theorem smO_no {n : Int} (h : ¬ (-1 <= n /\ n <= 1)) : smO n = false := by
 cases e : smO n with
 | false => rfl
 | true => exact absurd (smO_iff.1 e) h
theorem h84W (l : List Int) (i : Int) (Q : AX -> St -> Prop) (G : Prop) (i0 : 0 <= i) (hl : l.length <= 100) (hA : (l.drop i.toNat).all smO = true -> Q (.exit 0) (stS 0 .nil ())) (hB : (l.drop i.toNat).all smO = false -> ∀ r : Int, 0 <= r -> Q .ret (stS 0 shF4 (r, ())))
  (hN : (0 : Int) <= i + 1 -> i + 1 <= (l.length : Int) -> ((l.drop (i + 1).toNat).all smO = true -> Q (.exit 0) (stS 0 .nil ())) -> ((l.drop (i + 1).toNat).all smO = false -> ∀ r : Int, 0 <= r -> Q .ret (stS 0 shF4 (r, ()))) -> G) :
  fork (decide (i < (l.length : Int))) (req (decide (0 <= i /\ i < (l.length : Int))) (fork (decide (l.getD i.toNat 0 >= -1)) (fork (!decide (l.getD i.toNat 0 <= 1)) (Q .ret (stS 0 shF4 (i, ()))) (req (inR .i64 (i + 1)) (mL l (i + 1) < mL l i /\ G))) (Q .ret (stS 0 shF4 (i, ()))))) (Q (.exit 0) (stS 0 .nil ())) := by
 simp only [fork_iff, req_iff, decide_eq_true_eq, decide_eq_false_iff_not, Bool.not_eq_true', Bool.not_eq_false', ge_iff_le]
 refine ⟨fun hi => ⟨⟨i0, hi⟩, ?_⟩, fun hi => ?_⟩
 ·rw [drop_step 0 i0 hi, List.all_cons] at hA hB
  refine ⟨fun h1 => ⟨fun h2 => ?_, fun h2 => ?_⟩, fun h1 => ?_⟩
  ·exact hB (by rw [smO_no fun h => h2 h.2, Bool.false_and]) i i0
  ·rw [smO_iff.2 ⟨h1, h2⟩, Bool.true_and] at hA hB
   exact ⟨inR_i64.2 (by omega), mL_lt hi, hN (by omega) (by omega) hA hB⟩
  ·exact hB (by rw [smO_no fun h => h1 h.1, Bool.false_and]) i i0
 ·rw [drop_end hi] at hA
  exact hA rfl
theorem ok84A : Lp2Ok Try.prog 84 0 (lc84w 104) := lp2_of (n := 5) (ex := exF4) (m := fun (l, _, _, i, _) => mL l i) (good2_nil _) fun (l, ((), ()), m, i, ()) Q hx => by
 obtain ⟨⟨g1, g2, g3, g4⟩, hA, hB⟩ := hx
 have g3 : m = (l.length : Int) := g3
 subst g3
 show xloop2 Try.prog {} 5 84 0 (lc84w 104) exF4 (fun (l, _, _, i, _) => mL l i) (l, ((), ()), (l.length : Int), i, ()) Q
 rw [v84A]
 exact h84W l i Q _ g1 g4 hA hB fun a b c d => ⟨⟨a, b, rfl, g4⟩, c, d⟩
theorem ok84B : Lp2Ok Try.prog 84 0 (lc84w 76) := lp2_of (n := 5) (ex := exF4) (m := fun (l, _, _, i, _) => mL l i) (good2_nil _) fun (l, ((), ()), m, i, ()) Q hx => by
 obtain ⟨⟨g1, g2, g3, g4⟩, hA, hB⟩ := hx
 have g3 : m = (l.length : Int) := g3
 subst g3
 show xloop2 Try.prog {} 5 84 0 (lc84w 76) exF4 (fun (l, _, _, i, _) => mL l i) (l, ((), ()), (l.length : Int), i, ()) Q
 rw [v84B]
 exact h84W l i Q _ g1 g4 hA hB fun a b c d => ⟨⟨a, b, rfl, g4⟩, c, d⟩
theorem ok84AF : FnOk Try.prog 84 (fc84w 104) := fn1_of (n := 5) ((good2_nil _).addL2 ok84A) fun (l, ((), ()), ()) K hx => by
 obtain ⟨g1, hK⟩ := hx
 show xfn1 Try.prog { l2 := [(84, 0, lc84w 104)] } 5 84 (fc84w 104) (l, ((), ()), ()) K
 rw [v84AF]
 simp only [List.drop_zero]
 exact ⟨⟨Int.le_refl (0 : Int), Int.natCast_nonneg _, trivial, g1⟩, fun h => hK (-1) (by show decide ((0 : Int) <= -1) = !l.all smO; rw [h]; rfl), fun h r hr => hK r (by show decide ((0 : Int) <= r) = !l.all smO; rw [h, decide_eq_true hr]; rfl)⟩
theorem ok84BF : FnOk Try.prog 84 (fc84w 76) := fn1_of (n := 5) ((good2_nil _).addL2 ok84B) fun (l, ((), ()), ()) K hx => by
 obtain ⟨g1, hK⟩ := hx
 show xfn1 Try.prog { l2 := [(84, 0, lc84w 76)] } 5 84 (fc84w 76) (l, ((), ()), ()) K
 rw [v84BF]
 simp only [List.drop_zero]
 exact ⟨⟨Int.le_refl (0 : Int), Int.natCast_nonneg _, trivial, g1⟩, fun h => hK (-1) (by show decide ((0 : Int) <= -1) = !l.all smO; rw [h]; rfl), fun h r hr => hK r (by show decide ((0 : Int) <= r) = !l.all smO; rw [h, decide_eq_true hr]; rfl)⟩
theorem ok58A : FnOk Try.prog 58 (fc58w 104) := fn1_of (n := 5) ((good2_nil _).addF ok84AF) fun (l, ((), ()), ()) K hx => by
 obtain ⟨g1, hK⟩ := hx
 show xfn1 Try.prog { f := [(84, fc84w 104)] } 5 58 (fc58w 104) (l, ((), ()), ()) K
 rw [v58A]
 exact ⟨g1, fun r hr => hK _ hr⟩
theorem ok58B : FnOk Try.prog 58 (fc58w 76) := fn1_of (n := 5) ((good2_nil _).addF ok84BF) fun (l, ((), ()), ()) K hx => by
 obtain ⟨g1, hK⟩ := hx
 show xfn1 Try.prog { f := [(84, fc84w 76)] } 5 58 (fc58w 76) (l, ((), ()), ()) K
 rw [v58B]
 exact ⟨g1, fun r hr => hK _ hr⟩
theorem int_inF {l : List Int} {i : Int} (h0 : 0 <= i) (h1 : i < l.length) : l.getD i.toNat 0 ∈ l := getD_mem (by omega)
theorem h48W (n : Int) (l : List Int) (i : Int) (Q : AX -> St -> Prop) (hl : l.length <= 100) (hs : ∀ x ∈ l, -1 <= x /\ x <= 1) (h0 : 0 <= i) (h1 : i <= l.length) (n0 : -i <= n) (n1 : n <= i) (hQ : ∀ r, r = n + (l.drop i.toNat).sum -> Q (.exit 0) (stS 0 sh48we (r, ()))) :
  xloop2 Try.prog {} 5 48 0 lc48w (fun _ => some (sh48we, 0)) (fun (_, _, l, _, i, _) => mL l i) (((), ()), n, l, (l.length : Int), i, ()) Q := by
 rw [v48W]
 simp only [fork_iff, req_iff, decide_eq_true_eq, decide_eq_false_iff_not, true_and]
 refine ⟨fun hi => ⟨⟨h0, hi⟩, ?_⟩, fun hi => hQ n (by rw [drop_end hi]; simp)⟩
 have hx := hs _ (int_inF h0 hi)
 rw [drop_step 0 h0 hi] at hQ
 simp only [List.sum_cons] at hQ
 generalize l.getD i.toNat 0 = x at *
 exact ⟨inR_i64.2 (by omega), inR_i64.2 (by omega), mL_lt hi, ⟨⟨hl, hs⟩, show (0 : Int) <= i + 1 by omega, show i + 1 <= (l.length : Int) by omega, show -(i + 1) <= n + x by omega, show n + x <= i + 1 by omega⟩, fun r hr => hQ r (hr.trans (Int.add_assoc _ _ _))⟩
theorem ok48WL : Lp2Ok Try.prog 48 0 lc48w := lp2_of (n := 5) (ex := fun _ => some (sh48we, 0)) (m := fun (_, _, l, _, i, _) => mL l i) (good2_nil _) fun (((), ()), n, l, m, i, ()) Q hx => by
 obtain ⟨⟨⟨g0, g1⟩, g2, g3, g4, g5, g6⟩, hQ⟩ := hx
 have g2 : m = (l.length : Int) := g2
 subst g2
 exact h48W n l i Q g0 g1 g3 g4 g5 g6 hQ
theorem ok48W : FnOk Try.prog 48 fc48w := fn1_of (n := 5) ((good2_nil _).addL2 ok48WL) fun (l, ((), ()), ()) K hx => by
 obtain ⟨⟨g1, g2⟩, hK⟩ := hx
 have hK : ∀ r, r = l.sum -> K (r, ()) := hK
 show xfn1 Try.prog { l2 := [(48, 0, lc48w)] } 5 48 fc48w (l, ((), ()), ()) K
 rw [v48WF]
 simp only [List.drop_zero]
 exact ⟨⟨⟨g1, g2⟩, trivial, Int.le_refl (0 : Int), Int.natCast_nonneg _, by decide, Int.le_refl (0 : Int)⟩, fun r hr => hK r (hr.trans (Int.zero_add _))⟩
theorem rowB_iff {n : Int} {l : List Int} : rowB n l = true ↔ rowOk n l := by
 unfold rowB rowOk
 simp only [Bool.and_eq_true, decide_eq_true_eq, List.all_eq_true, smO_iff]
theorem rowB_no {n : Int} {l : List Int} (h : ¬ rowOk n l) : rowB n l = false := by
 cases e : rowB n l with
 | false => rfl
 | true => exact absurd (rowB_iff.1 e) h
theorem planB_iff {n : Int} {p : List (List Int)} : planB n p = true ↔ planOk n p := by
 unfold planB planOk
 simp only [Bool.and_eq_true, decide_eq_true_eq, List.all_eq_true, rowB_iff, and_assoc]
theorem h114L (l : List (List Int)) (n i : Int) (Q : AX -> St -> Prop) (i0 : 0 <= i) (i1 : i <= l.length) (hl : l.length <= 100) (hn : n <= 12)
  (hA : (l.drop i.toNat).all (rowB n) = true -> Q (.exit 0) (stS 1 (S [(1, cl103)]) (((), (n, ())), ()))) (hB : (l.drop i.toNat).all (rowB n) = false -> ∀ r : Int, 0 <= r -> Q .ret (stS 1 (S [(1, cl103), (4, .v I)]) (((), (n, ())), r, ()))) :
  xloop2 Try.prog { nm := true, f := [(58, fc58w 104), (48, fc48w)] } 5 114 0 lc114 ex114 (fun (l, _, _, i, _) => mL l i) (l, ((), (n, ())), (l.length : Int), i, ()) Q := by
 rw [v114L]
 simp only [fork_iff, req_iff, decide_eq_true_eq, decide_eq_false_iff_not, bne_iff_ne, ne_eq, bne_eq_false_iff_eq]
 refine ⟨fun hi => ⟨⟨i0, hi⟩, ?_⟩, fun hi => ?_⟩
 ·rw [drop_step [] i0 hi, List.all_cons] at hA hB
  generalize hr : l.getD i.toNat [] = row at *
  have bad : ¬ rowOk n row -> Q .ret (stS 1 (S [(1, cl103), (4, .v I)]) (((), (n, ())), i, ())) := fun h => hB (by rw [rowB_no h, Bool.false_and]) i i0
  refine ⟨fun h => bad fun h' => h h'.1, fun h => ?_⟩
  have hrl : row.length <= 100 := by omega
  refine ⟨hrl, fun b hb => ⟨fun hbt => ?_, fun hbf => ?_⟩⟩
  ·subst hb
   refine bad fun h' => ?_
   rw [List.all_eq_true.2 fun x hx => smO_iff.2 (h'.2.1 x hx)] at hbt
   cases hbt
  ·subst hb
   have hsm : row.all smO = true := by
    cases e : row.all smO with
    | true => rfl
    | false => rw [e] at hbf; cases hbf
   have hsm : ∀ x ∈ row, -1 <= x /\ x <= 1 := fun x hx => smO_iff.1 (List.all_eq_true.1 hsm x hx)
   refine ⟨⟨hrl, hsm⟩, fun r hr => ⟨fun h0 => bad fun h' => h0 (hr.trans h'.2.2), fun h0 => ?_⟩⟩
   have hok : rowB n row = true := rowB_iff.2 ⟨h, hsm, hr.symm.trans h0⟩
   rw [hok, Bool.true_and] at hA hB
   exact ⟨inR_i64.2 (by omega), mL_lt hi, ⟨show (0 : Int) <= i + 1 by omega, show i + 1 <= (l.length : Int) by omega, trivial, hl, hn⟩, hA, hB⟩
 ·rw [drop_end hi] at hA
  exact hA rfl
theorem ok114L : Lp2Ok Try.prog 114 0 lc114 := lp2_of (n := 5) (ex := ex114) (m := fun (l, _, _, i, _) => mL l i) (((good2_nilN _).addF ok48W).addF ok58A) fun (l, ((), (n, ())), m, i, ()) Q hx => by
 obtain ⟨⟨g1, g2, g3, g4, g5⟩, hA, hB⟩ := hx
 have g3 : m = (l.length : Int) := g3
 subst g3
 exact h114L l n i Q g1 g2 g4 g5 hA hB
theorem ok114 : F2Ok Try.prog 114 fc114 := fn2_of (n := 5) ((good2_nilN _).addL2 ok114L) fun (l, ((), (n, ())), ()) K hx => by
 obtain ⟨⟨g1, g2⟩, hK⟩ := hx
 show xfn2 Try.prog { nm := true, l2 := [(114, 0, lc114)] } 5 114 fc114 (l, ((), (n, ())), ()) K
 rw [v114F]
 simp only [List.drop_zero]
 exact ⟨⟨Int.le_refl (0 : Int), Int.natCast_nonneg _, trivial, g1, g2⟩, fun h => hK (-1) (by show decide ((0 : Int) <= -1) = !l.all (rowB n); rw [h]; rfl), fun h r hr => hK r (by show decide ((0 : Int) <= r) = !l.all (rowB n); rw [h, decide_eq_true hr]; rfl)⟩
theorem ok102 : F2Ok Try.prog 102 fc102 := fn2_of (n := 5) ((good2_nilN _).addF2 ok114) fun (l, ((), (n, ())), ()) K hx => by
 obtain ⟨g1, hK⟩ := hx
 show xfn2 Try.prog { nm := true, f2 := [(114, fc114)] } 5 102 fc102 (l, ((), (n, ())), ()) K
 rw [v102F]
 exact ⟨g1, fun r hr => hK _ hr⟩
theorem ok74 : FnOk Try.prog 74 fc74 := fn1_of (n := 5) ((good2_nilN _).addF2 ok102) fun (n, p, ()) K hx => by
 obtain ⟨g1, hK⟩ := hx
 have hK : ∀ b : Bool, b = planB n p -> K (b, ()) := hK
 show xfn1 Try.prog { nm := true, f2 := [(102, fc102)] } 5 74 fc74 (n, p, ()) K
 rw [v74F]
 simp only [fork_iff, decide_eq_true_eq, decide_eq_false_iff_not, ge_iff_le]
 refine ⟨fun h0 => ⟨fun h1 => ?_, fun h1 => hK _ ?_⟩, fun h0 => hK _ ?_⟩
 ·refine ⟨⟨by omega, g1⟩, fun b hb => hK _ ?_⟩
  unfold planB
  rw [decide_eq_true (show 1 <= p.length by omega), decide_eq_true (show p.length <= 4 by omega), hb, Bool.not_not]; rfl
 ·unfold planB
  rw [decide_eq_false (show ¬ p.length <= 4 by omega), Bool.false_and, Bool.and_false]
 ·unfold planB
  rw [decide_eq_false (show ¬ 1 <= p.length by omega), Bool.false_and]
theorem getD_set4 {r : List Int} (x : Int) (h : r.length = 4) (k j : Nat) (hj : j < 4) : (r.set j x).getD k 0 = if k = j then x else r.getD k 0 := by
 rw [List.getD_eq_getElem?_getD, List.getD_eq_getElem?_getD, List.getElem?_set]
 by_cases e : j = k
 ·rw [if_pos e, if_pos (by omega), if_pos e.symm]; rfl
 ·rw [if_neg e, if_neg fun h => e h.symm]
theorem cell_in {q : List (List Int)} {c : Int} {i : Nat} (x : Int) (h : i < q.length) : cellP q c i x = (q.getD i []).getD c.toNat 0 := by unfold cellP; rw [if_pos h]
theorem cell_out {q : List (List Int)} {c : Int} {i : Nat} (x : Int) (h : ¬ i < q.length) : cellP q c i x = x := by unfold cellP; rw [if_neg h]
theorem fill_step {q : List (List Int)} {r : List Int} {c i : Int} (hr : r.length = 4) (hq : q.length <= 4) (i0 : 0 <= i) (hi : i < q.length) : fillR q c (i + 1) (padR (r.set i.toNat ((q.getD i.toNat []).getD c.toNat 0))) = fillR q c i (padR r) := by
 have hi4 : i = 0 \/ i = 1 \/ i = 2 \/ i = 3 := by omega
 unfold padR
 rw [getD_set4 _ hr 0 _ (by omega), getD_set4 _ hr 1 _ (by omega), getD_set4 _ hr 2 _ (by omega), getD_set4 _ hr 3 _ (by omega)]
 unfold fillR
 rcases hi4 with rfl | rfl | rfl | rfl
 ·rw [cell_in (i := 0) (c := c) (r.getD 0 0) (by omega)]; rfl
 ·rw [cell_in (i := 1) (c := c) (r.getD 1 0) (by omega)]; rfl
 ·rw [cell_in (i := 2) (c := c) (r.getD 2 0) (by omega)]; rfl
 ·rw [cell_in (i := 3) (c := c) (r.getD 3 0) (by omega)]; rfl
theorem fill_end {q : List (List Int)} {c i : Int} (r : R4) (hi : ¬ i < q.length) : fillR q c i r = r := by
 have go : ∀ (k : Nat) (x : Int), (if i <= (k : Int) then cellP q c k x else x) = x := fun k x => by
  split
  ·exact cell_out x (by omega)
  ·rfl
 unfold fillR
 have e0 := go 0 r.1
 have e1 := go 1 r.2.1
 have e2 := go 2 r.2.2.1
 have e3 := go 3 r.2.2.2
 exact r4_ext e0 e1 e2 e3
theorem h75C (p : List (List Int)) (l : CM) (c : Int) (r : List Int) (n c' : Int) (q : List (List Int)) (i : Int) (Q : AX -> St -> Prop) (hq : q.length <= 4) (i0 : 0 <= i) (i1 : i <= q.length) (c0 : 0 <= c) (hc : ∀ x ∈ q, c < (x.length : Int)) (hr : r.length = 4)
  (hQ : ∀ r' : List Int, r'.length = 4 -> padR r' = fillR q c i (padR r) -> Q (.exit 2) (stS 2 sh75ce (p, l, c, r', n, c', ()))) :
  xloop2 Try.prog { nm := true } 5 75 1 lc75c (fun _ => some (sh75ce, 2)) (fun (_, _, _, _, _, _, q, _, i, _) => mL q i) (p, l, c, r, n, c', q, (q.length : Int), i, ()) Q := by
 rw [v75C]
 simp only [fork_iff, req_iff, decide_eq_true_eq, decide_eq_false_iff_not]
 refine ⟨fun hi => ⟨⟨i0, hi⟩, ⟨c0, hc _ (getD_mem (by omega))⟩, ⟨i0, by omega⟩, by omega, fun ys hy => ?_⟩, fun hi => hQ r hr (fill_end _ hi).symm⟩
 have hy : ys = r.set i.toNat ((q.getD i.toNat []).getD c.toNat 0) := by rw [hy, Nat.zero_add]
 have hyl : ys.length = 4 := by rw [hy, List.length_set, hr]
 refine ⟨inR_i64.2 (by omega), mL_lt hi, ⟨⟨⟨trivial, hq⟩, ⟨show (0 : Int) <= i + 1 by omega, show i + 1 <= (q.length : Int) by omega⟩, c0, hc, hyl⟩, fun r' hr' he => hQ r' hr' (he.trans ?_)⟩⟩
 rw [hy]; exact fill_step hr hq i0 hi
theorem ok75C : Lp2Ok Try.prog 75 1 lc75c := lp2_of (n := 5) (ex := fun _ => some (sh75ce, 2)) (m := fun (_, _, _, _, _, _, q, _, i, _) => mL q i) (good2_nilN _) fun (p, l, c, r, n, c', q, m, i, ()) Q hx => by
 obtain ⟨⟨⟨g1, g2⟩, ⟨g3, g4⟩, g5, g6, g7⟩, hQ⟩ := hx
 have g1 : m = (q.length : Int) := g1
 subst g1
 exact h75C p l c r n c' q i Q g2 g3 g4 g5 g6 g7 hQ
theorem fill_row (p : List (List Int)) (c : Int) : fillR p c 0 (padR [0, 0, 0, 0]) = rowR p c := rfl
theorem putC_no {x : R4} {c s : Int} {l : CM} (h : (gt4 l (mulR x s)).isSome = true) : putC x c s l = none := by unfold putC; rw [if_pos h]
theorem putC_yes {x : R4} {c s : Int} {l : CM} (h : (gt4 l (mulR x s)).isSome = false) : putC x c s l = some (tmPut TR4 l (mulR x s) (c, s)) := by
 unfold putC
 rw [if_neg (by rw [h]; exact Bool.false_ne_true), put4]
 cases e : gt4 l (mulR x s) with
 | none => rfl
 | some v => rw [e] at h; cases h
theorem h75L (p : List (List Int)) (l : CM) (n c : Int) (Q : AX -> St -> Prop) (hp : planOk n p) (c0 : 0 <= c) (cn : c <= n) (n1 : n <= 12)
  (hS : ∀ m, casesC p (n - c).toNat c l = some m -> Q (.exit 0) (stS 1 sh75e (m, ()))) (hN : casesC p (n - c).toNat c l = none -> Q .ret (stS 0 sh75r ((), false, ()))) :
  xloop2 Try.prog { nm := true, ip := true, un := 4, ul := [2], f := [(100, fc100)], l2 := [(75, 1, lc75c)] } 5 75 0 lc75 ex75 (fun (_, _, n, c, _) => (n - c).toNat) (p, l, n, c, ()) Q := by
 rw [v75L]
 simp only [fork_iff, req_iff, decide_eq_true_eq, decide_eq_false_iff_not]
 refine ⟨fun hc => ⟨⟨⟨trivial, hp.1.2⟩, ⟨Int.le_refl (0 : Int), Int.natCast_nonneg _⟩, c0, fun x hx => ?_, trivial⟩, fun r' h4 he => ⟨h4, h4, ?_⟩⟩, fun hc => ?_⟩
 ·have := (hp.2 x hx).1
  show c < (x.length : Int)
  omega
 ·rw [fill_row] at he
  have he : (r'.getD 0 0, r'.getD 1 0, r'.getD 2 0, r'.getD 3 0) = rowR p c := he
  rw [he]
  have hsm := row_sm hp c
  have es : (n - c).toNat = (n - (c + 1)).toNat + 1 := by omega
  rw [es, casesC] at hS hN
  unfold stepC at hS hN
  refine ⟨⟨hsm, by decide, by decide⟩, fun r hr => ?_⟩
  have hr : r = mulR (rowR p c) 1 := hr
  subst hr
  refine ⟨fun h => hN (by rw [putC_no h]; rfl), fun h => ⟨h4, h4, ⟨hsm, by decide, by decide⟩, fun r hr => ?_⟩⟩
  have hr : r = mulR (rowR p c) (-1) := hr
  subst hr
  rw [putC_yes h] at hS hN
  refine ⟨fun h2 => hN (by rw [Option.bind_some, putC_no h2]; rfl), fun h2 => ?_⟩
  rw [Option.bind_some, putC_yes h2] at hS hN
  exact ⟨inR_i64.2 (by omega), by omega, ⟨⟨hp, show (0 : Int) <= c + 1 by omega, show c + 1 <= n by omega, n1⟩, hS, hN⟩⟩
 ·have e : (n - c).toNat = 0 := by omega
  rw [e] at hS
  exact hS l rfl
theorem ok75L : Lp2Ok Try.prog 75 0 lc75 := lp2_of (n := 5) (ex := ex75) (m := fun (_, _, n, c, _) => (n - c).toNat) (((good2_nilL _ 4 [2]).addL2 ok75C).addF ok100) fun (p, l, n, c, ()) Q hx => by
 obtain ⟨⟨g1, g2, g3, g4⟩, hS, hN⟩ := hx
 exact h75L p l n c Q g1 g2 g3 g4 hS hN
theorem cases_eq (n : Int) (p : List (List Int)) : casesC p (n - 0).toNat 0 [((0, 0, 0, 0), -1, 0)] = casesT n p := by rw [Int.sub_zero]; rfl
theorem ok75S : F2Ok Try.prog 75 fc75s := fn2_of (n := 5) ((good2_nilN _).addL2 ok75L) fun (n, p, ()) K hx => by
 obtain ⟨⟨g1, g2, g3⟩, hK⟩ := hx
 show xfn2 Try.prog { nm := true, l2 := [(75, 0, lc75)] } 5 75 fc75s (n, p, ()) K
 rw [v75S]
 have e := cases_eq n p
 refine ⟨⟨g1, Int.le_refl (0 : Int), g2, g3⟩, fun m hm => hK true ?_, fun hm => hK false ?_⟩
 ·rw [<- e]; exact (congrArg Option.isSome hm).symm
 ·rw [<- e]; exact (congrArg Option.isSome hm).symm
theorem ok75T : F2Ok Try.prog 75 fc75t := fn2_of (n := 5) ((good2_nilN _).addL2 ok75L) fun (n, p, ()) K hx => by
 obtain ⟨⟨⟨g1, g2, g3⟩, g4⟩, hK⟩ := hx
 show xfn2 Try.prog { nm := true, l2 := [(75, 0, lc75)] } 5 75 fc75t (n, p, ()) K
 rw [v75T]
 have e := cases_eq n p
 refine ⟨⟨g1, Int.le_refl (0 : Int), g2, g3⟩, fun m hm => hK m (e.symm.trans hm), fun hm => ?_⟩
 have g4 : (casesT n p).isSome = true := g4
 rw [<- e] at g4
 have := (congrArg Option.isSome hm).symm.trans g4
 cases this
theorem ok38 : FnOk Try.prog 38 fc38 := fn1_of (n := 5) (((good2_nilN _).addF2 ok75S).addF ok74) fun (n, p, ()) K hx => by
 obtain ⟨-, hK⟩ := hx
 have hK : ∀ (b : Bool) (e : Int), (b, e) = tellsV n p -> K (b, e, ()) := hK
 show xfn1 Try.prog { nm := true, f := [(74, fc74)], f2 := [(75, fc75s)] } 5 38 fc38 (n, p, ()) K
 rw [v38F]
 simp only [fork_iff, decide_eq_true_eq, decide_eq_false_iff_not, Bool.not_eq_true', Bool.not_eq_false', ge_iff_le]
 unfold tellsV at hK
 refine ⟨fun h0 => ⟨fun h1 => hK _ _ ?_, fun h1 => ?_⟩, fun h0 => hK _ _ ?_⟩
 ·rw [if_neg fun h => h1 h.2]
 ·rw [if_pos ⟨h0, h1⟩] at hK
  refine ⟨h1, fun b hb => ⟨fun h => hK _ _ ?_, fun h => ?_⟩⟩
  ·rw [if_neg (by rw [<- hb, h]; exact Bool.false_ne_true)]
  ·have hb : planB n p = true := hb.symm.trans h
   rw [if_pos hb] at hK
   exact ⟨⟨planB_iff.1 hb, show (0 : Int) <= n by omega, h1⟩, fun b hb => hK _ _ (by rw [hb])⟩
 ·rw [if_neg fun h => h0 h.1]
theorem pad_eq (l : List Int) (h : l.length <= 4) : ((List.take 0 [(0 : Int), 0, 0, 0] ++ l ++ List.drop (0 + l.length) [0, 0, 0, 0]).getD 0 0, (List.take 0 [(0 : Int), 0, 0, 0] ++ l ++ List.drop (0 + l.length) [0, 0, 0, 0]).getD 1 0, (List.take 0 [(0 : Int), 0, 0, 0] ++ l ++ List.drop (0 + l.length) [0, 0, 0, 0]).getD 2 0, (List.take 0 [(0 : Int), 0, 0, 0] ++ l ++ List.drop (0 + l.length) [0, 0, 0, 0]).getD 3 0) = padR l /\ (List.take 0 [(0 : Int), 0, 0, 0] ++ l ++ List.drop (0 + l.length) [0, 0, 0, 0]).length = 4 := by
 match l, h with
 | [], _ => exact ⟨rfl, rfl⟩
 | [_], _ => exact ⟨rfl, rfl⟩
 | [_, _], _ => exact ⟨rfl, rfl⟩
 | [_, _, _], _ => exact ⟨rfl, rfl⟩
 | [_, _, _, _], _ => exact ⟨rfl, rfl⟩
 | _ :: _ :: _ :: _ :: _ :: l, h => simp only [List.length_cons] at h; omega
theorem tells_some {n : Int} {p : List (List Int)} (h : tellsV n p = (true, 0)) : 3 <= n /\ n <= 12 /\ planOk n p /\ (casesT n p).isSome = true := by
 unfold tellsV at h
 split at h
 ·rename_i hn
  split at h
  ·rename_i hb
   injection h with h1 h2
   exact ⟨hn.1, hn.2, planB_iff.1 hb, h1⟩
  ·injection h with h1 h2; cases h1
 ·injection h with h1 h2; cases h1
theorem tells_no {n : Int} {p : List (List Int)} (h : tellsV n p = (false, 0)) : casesT n p = none := by
 unfold tellsV at h
 split at h
 ·split at h
  ·injection h with h1 h2
   cases e : casesT n p with
   | none => rfl
   | some m => rw [e] at h1; cases h1
  ·injection h with h1 h2; cases h2
 ·injection h with h1 h2; cases h2
theorem ok39 : FnOk Try.prog 39 fc39 := fn1_of (n := 5) ((((good2_nilI _).addF2 ok75T).addF ok58B).addF ok38) fun (n, p, l, ()) K hx => by
 obtain ⟨⟨l0, l1⟩, hK⟩ := hx
 have l0 : 1 <= l.length := l0
 have l1 : l.length <= 4 := l1
 have hK : ∀ a b e : Int, (a, b, e) = judgeV n p l -> K (a, b, e, ()) := hK
 show xfn1 Try.prog { nm := true, ip := true, f := [(38, fc38), (58, fc58w 76)], f2 := [(75, fc75t)] } 5 39 fc39 (n, p, l, ()) K
 rw [v39F]
 obtain ⟨pe1, pe2⟩ := pad_eq l l1
 simp only [pe1, pe2]
 simp only [fork_iff, req_iff, decide_eq_true_eq, decide_eq_false_iff_not, Bool.not_eq_true', Bool.not_eq_false', bne_iff_ne, ne_eq, bne_eq_false_iff_eq, Nat.blt_eq, true_and]
 unfold judgeV at hK
 refine fun b e he => ⟨fun h0 => hK _ _ _ ?_, fun h0 => ?_⟩
 ·rw [<- he, if_pos h0]
 ·have h0 : e = 0 := h0
  subst h0
  rw [<- he, if_neg (fun h => h rfl)] at hK
  refine ⟨fun hb => ?_, fun hb => ?_⟩
  ·subst hb
   rw [tells_no he.symm] at hK
   exact hK _ _ _ rfl
  ·subst hb
   obtain ⟨n0, n1, hp, hc⟩ := tells_some he.symm
   obtain ⟨m, hm⟩ := Option.isSome_iff_exists.1 hc
   rw [hm] at hK
   refine ⟨fun h => hK _ _ _ ?_, fun h => ⟨by omega, fun b hb => ⟨fun h2 => hK _ _ _ ?_, fun h2 => ⟨l1, l0, ⟨⟨hp, show (0 : Int) <= n by omega, n1⟩, hc⟩, fun m' hm' => ?_⟩⟩⟩⟩
   ·show (0, 0, 7) = if l.length = p.length /\ l.all smO = true then _ else _
    rw [if_neg fun h' => h (by rw [h'.1])]
   ·show (0, 0, 7) = if l.length = p.length /\ l.all smO = true then _ else _
    rw [if_neg fun h' => by rw [h2, h'.2] at hb; cases hb]
   ·have hll : l.length = p.length := by omega
    have hsm : l.all smO = true := by
     cases e : l.all smO with
     | true => rfl
     | false => rw [h2, e] at hb; cases hb
    have hmm : m' = m := by
     have := hm'.symm.trans hm
     injection this
    subst hmm
    have hK : ∀ a b e : Int, (a, b, e) = (if l.length = p.length /\ l.all smO = true then (match gt4 m' (padR l) with | none => ((0 : Int), (0 : Int), (4 : Int)) | some v => (v.1, v.2, 0)) else ((0 : Int), (0 : Int), (7 : Int))) -> K (a, b, e, ()) := hK
    rw [if_pos ⟨hll, hsm⟩] at hK
    refine ⟨fun h3 => hK _ _ _ ?_, fun h3 => hK _ _ _ ?_⟩
    ·have h3 : (gt4 m' (padR l)).isSome = false := h3
     cases e : gt4 m' (padR l) with
     | none => rfl
     | some v => rw [e] at h3; cases h3
    ·have h3 : (gt4 m' (padR l)).isSome = true := h3
     obtain ⟨v, hv⟩ := Option.isSome_iff_exists.1 h3
     rw [hv]
     have hv : tmGet TR4 m' (padR l) = some v := hv
     show ((Option.getD (tmGet TR4 m' (padR l)) (0, 0)).1, (Option.getD (tmGet TR4 m' (padR l)) (0, 0)).2, (0 : Int)) = _
     rw [hv]; rfl
end Go.P8
