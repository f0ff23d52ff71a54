/- The fewest, Reasons: the code keeps its contracts. No conditions. -/
import Derived.Test.YtfenogdjhadcoaaGreatZatP4
set_option linter.constructorNameAsVariable false
set_option linter.unusedVariables false
set_option linter.unusedSimpArgs false
set_option maxRecDepth 100000
set_option maxHeartbeats 4000000
namespace Go.P8
open Go.Lom Go.Proofs Go

theorem h71A (is : List Int) (tw : Wt) (l : List Dl) (h : Ar) (m : Int) (Q : AX → St → Prop) (gw : watP (tw, l, h)) (gi : idxOk (tw, l, h) is) (m0 : 1 ≤ m) (m1 : m ≤ is.length) (hg : tw.2.1 ≤ grt l is is.length)
    (hQ : ∀ m1 : Int, m1 = manyF l is tw.2.1 ((is.length : Int) - m).toNat m.toNat → m ≤ m1 → m1 ≤ is.length → tw.2.1 ≤ grt l is m1.toNat → Q (.exit 0) (stS 1 sh71a (is, (tw, l, h), m1, ()))) :
    xloop2 Tryz.prog { f := [(47, fcGrt)] } 5 27 0 lc71a (fun _ => some (sh71a, 1)) (fun (is, _, m, _) => (is.length - m).toNat) (is, (tw, l, h), m, ()) Q := by
  rw [v71A]
  refine ⟨⟨gw, gi, show (0 : Int) ≤ m by omega, m1⟩, fun r hr => ⟨rfl, ?_⟩⟩
  have h64 := gi.1
  simp only [fork_iff, req_iff, decide_eq_true_eq, decide_eq_false_iff_not]
  have step : manyF l is tw.2.1 ((is.length : Int) - m).toNat m.toNat = if grt l is m.toNat < tw.2.1 ∧ m < is.length then manyF l is tw.2.1 ((is.length : Int) - (m + 1)).toNat (m + 1).toNat else m.toNat := by
    by_cases q : m < is.length
    · rw [show ((is.length : Int) - m).toNat = ((is.length : Int) - (m + 1)).toNat + 1 by omega, show (m + 1).toNat = m.toNat + 1 by omega]
      simp only [manyF, q, and_true]
    · rw [show ((is.length : Int) - m).toNat = 0 by omega, if_neg (fun z => q z.2)]; rfl
  refine ⟨fun q => ?_, fun q => hQ m ?_ (Int.le_refl _) m1 (by omega)⟩
  · have hlt : m < is.length := by
      rcases Int.lt_or_le m is.length with z | z
      · exact z
      · have : m.toNat = is.length := by omega
        rw [this] at hr; omega
    refine ⟨inR_i64.2 (by omega), show ((is.length : Int) - (m + 1)).toNat < ((is.length : Int) - m).toNat by omega, ⟨gw, gi, show (1 : Int) ≤ m + 1 by omega, show m + 1 ≤ (is.length : Int) by omega, hg⟩, fun m2 e1 e2 e3 e4 => hQ m2 ?_ (show m ≤ m2 from Int.le_trans (by omega) (show m + 1 ≤ m2 from e2)) e3 e4⟩
    rw [step, if_pos ⟨by omega, hlt⟩]; exact e1
  · rw [step, if_neg (fun z => by omega)]; omega
theorem ok71A : Lp2Ok Tryz.prog 27 0 lc71a := lp2_of (n := 5) (ex := fun _ => some (sh71a, 1)) (m := fun (is, _, m, _) => (is.length - m).toNat) ((good2_nil _).addF ok97) fun (is, (tw, l, h), m, ()) Q hx => by
  obtain ⟨⟨g1, g2, g3, g4, g5⟩, hQ⟩ := hx
  exact h71A is tw l h m Q g1 g2 g3 g4 g5 hQ
theorem pickF_zero (l : List Dl) (s : Int) (is : List Int) (n : Int) : pickF l s is 0 n = [] := by cases is <;> simp [pickF]
theorem idx_drop {w : Wat} {is : List Int} (g : idxOk w is) (j : Nat) : idxOk w (is.drop j) := ⟨by rw [List.length_drop]; have := g.1; omega, fun i hi => g.2 i (List.mem_of_mem_drop hi)⟩
theorem h71B (is : List Int) (tw : Wt) (l : List Dl) (h : Ar) (m : Int) (o : List Int) (n a : Int) (Q : AX → St → Prop) (gw : watP (tw, l, h)) (gi : idxOk (tw, l, h) is) (a0 : 0 ≤ a) (a1 : a ≤ is.length) (om : (o.length : Int) ≤ m) (mo : m - o.length ≤ is.length - a) (oa : (o.length : Int) ≤ a) (n0 : 0 ≤ n) (n1 : n ≤ a * 1073741824)
    (hg : tw.2.1 ≤ n + grt l (is.drop a.toNat) (m - o.length).toNat) (hQ : ∀ o1 : List Int, o1 = o ++ pickF l tw.2.1 (is.drop a.toNat) (m - o.length).toNat n → Q (.exit 2) (stS 2 sh71be (o1, ()))) :
    xloop2 Tryz.prog { nm := true, f := [(47, fcGrt)] } 5 27 1 lc71b (fun _ => some (sh71be, 2)) (fun (is, _, _, _, _, a, _) => mL is a) (is, (tw, l, h), m, o, n, a, ()) Q := by
  rw [v71B]
  have h64 := gi.1
  simp only [fork_iff, req_iff, decide_eq_true_eq, decide_eq_false_iff_not, ge_iff_le, Nat.zero_add, Nat.le_refl, seg_self, true_and, List.take_length]
  refine ⟨fun hm => ?_, fun hm => hQ o (by rw [show (m - (o.length : Int)).toNat = 0 by omega, pickF_zero, List.append_nil])⟩
  have ha : a < is.length := by omega
  have hx : 0 ≤ is.getD a.toNat 0 ∧ is.getD a.toNat 0 < (l.length : Int) := gi.2 _ (int_in a0 ha)
  have hb : 1 ≤ amt l (is.getD a.toNat 0) ∧ amt l (is.getD a.toNat 0) ≤ 1073741824 := amt_bd gw hx.1 hx.2
  have hgb := fun r => grt_bd gw (idx_drop gi (a + 1).toNat) r
  have hgb : ∀ r, 0 ≤ grt l (is.drop (a + 1).toNat) r ∧ grt l (is.drop (a + 1).toNat) r ≤ 68719476736 := hgb
  have hdl : (is.drop (a + 1).toNat).length = is.length - (a + 1).toNat := List.length_drop
  rw [drop_step 0 a0 ha, show (m - (o.length : Int)).toNat = (m - o.length - 1).toNat + 1 by omega] at hg hQ
  rw [show (l.getD (is.getD a.toNat 0).toNat ((0 : Int), (0 : Int), (0 : Int))).2.2 = amt l (is.getD a.toNat 0) from rfl]
  simp only [pickF, Nat.add_one_ne_zero, if_false, Nat.add_sub_cancel] at hQ
  have gi2 := idx_drop gi (a + 1).toNat
  have next := fun (z : ¬ tw.2.1 ≤ n + amt l (is.getD a.toNat 0) + grt l (is.drop (a + 1).toNat) (m - o.length - 1).toNat) => pick_next (l := l) (a := is.getD a.toNat 0) (is := is.drop (a + 1).toNat) (r := (m - o.length - 1).toNat) (s := tw.2.1) (n := n) (by omega) hg z
  generalize is.getD a.toNat 0 = x at *
  generalize amt l x = v at *
  have hm2 : (a + 1) * 1073741824 = a * 1073741824 + 1073741824 := by omega
  refine ⟨⟨a0, ha⟩, hx, inR_i64.2 (by omega), inR_i64.2 (by omega), inR_i64.2 (by omega), inR_i64.2 (by omega), ⟨by omega, by omega, Int.le_refl _⟩, fun q1 => ⟨⟨gw, gi2, show (0 : Int) ≤ m - o.length - 1 by omega, q1⟩, fun r hr => ?_⟩, fun q1 => absurd (show m - (o.length : Int) - 1 ≤ ((is.drop (a + 1).toNat).length : Int) by omega) q1⟩
  have hrb := hgb (m - o.length - 1).toNat
  rw [← hr] at hrb
  refine ⟨inR_i64.2 (by omega), fun q2 => ⟨⟨a0, ha⟩, fits100 (by omega), fun ys hys => ?_⟩, fun q2 => ?_⟩
  · subst hys
    have e1 : (o ++ [x]).length = o.length + 1 := by simp
    rw [← e1, seg_self]
    have e2 : (m - ((o ++ [x]).length : Int)).toNat = (m - o.length - 1).toNat := by omega
    have hch : (m - o.length - 1).toNat ≤ (is.drop (a + 1).toNat).length ∧ tw.2.1 ≤ n + v + grt l (is.drop (a + 1).toNat) (m - o.length - 1).toNat := ⟨by omega, by rw [← hr]; exact q2⟩
    rw [if_pos hch] at hQ
    exact ⟨inR_i64.2 (by omega), Nat.le_refl _, mL_lt ha, ⟨gw, gi, show (0 : Int) ≤ a + 1 by omega, show a + 1 ≤ (is.length : Int) by omega, show ((o ++ [x]).length : Int) ≤ m by omega, show m - ((o ++ [x]).length : Int) ≤ (is.length : Int) - (a + 1) by omega, show ((o ++ [x]).length : Int) ≤ a + 1 by omega, show (0 : Int) ≤ n + v by omega, show n + v ≤ (a + 1) * 1073741824 by omega, show tw.2.1 ≤ n + v + grt l (is.drop (a + 1).toNat) (m - ((o ++ [x]).length : Int)).toNat by rw [e2]; exact hch.2⟩, fun o1 ho1 => hQ o1 (by
      have ho1 : o1 = (o ++ [x]) ++ pickF l tw.2.1 (is.drop (a + 1).toNat) (m - ((o ++ [x]).length : Int)).toNat (n + v) := ho1
      rw [ho1, e2]; simp)⟩
  · rw [hr] at q2
    obtain ⟨z1, z2⟩ := next (by omega)
    rw [if_neg (fun z => q2 z.2)] at hQ
    have e2 : (m - (o.length : Int)).toNat = (m - o.length - 1).toNat + 1 := by omega
    exact ⟨inR_i64.2 (by omega), mL_lt ha, ⟨gw, gi, show (0 : Int) ≤ a + 1 by omega, show a + 1 ≤ (is.length : Int) by omega, om, show m - (o.length : Int) ≤ (is.length : Int) - (a + 1) by omega, show (o.length : Int) ≤ a + 1 by omega, n0, show n ≤ (a + 1) * 1073741824 by omega, show tw.2.1 ≤ n + grt l (is.drop (a + 1).toNat) (m - (o.length : Int)).toNat by rw [e2]; exact z2⟩, fun o1 ho1 => hQ o1 (by
      have ho1 : o1 = o ++ pickF l tw.2.1 (is.drop (a + 1).toNat) (m - (o.length : Int)).toNat n := ho1
      rw [ho1, e2])⟩
theorem ok71B : Lp2Ok Tryz.prog 27 1 lc71b := lp2_of (n := 5) (ex := fun _ => some (sh71be, 2)) (m := fun (is, _, _, _, _, a, _) => mL is a) ((good2_nilN _).addF ok97) fun (is, (tw, l, h), m, o, n, a, ()) Q hx => by
  obtain ⟨⟨g1, g2, g3, g4, g5, g6, g7, g8, g9, g10⟩, hQ⟩ := hx
  exact h71B is tw l h m o n a Q g1 g2 g3 g4 g5 g6 g7 g8 g9 g10 hQ
theorem h71F (tw : Wt) (l : List Dl) (h : Ar) (is : List Int) (K : dens [L] → Prop) (gw : watP (tw, l, h)) (gi : idxOk (tw, l, h) is) (h1 : 1 ≤ is.length) (hg : tw.2.1 ≤ sumOf l is) (hK : ∀ r : List Int, r = fewestF tw l is → K (r, ())) :
    xfn1 Tryz.prog { l2 := [(27, 0, lc71a), (27, 1, lc71b)] } 5 27 fcFst ((tw, l, h), is, ()) K := by
  rw [v71F]
  refine ⟨⟨gw, gi, Int.le_refl (1 : Int), show (1 : Int) ≤ (is.length : Int) by omega, by rw [grt_all]; exact hg⟩, fun m1 e1 e2 e3 e4 => ⟨⟨gw, gi, Int.le_refl (0 : Int), show (0 : Int) ≤ (is.length : Int) by omega, show (0 : Int) ≤ m1 by have : (1 : Int) ≤ m1 := e2; omega, show m1 - 0 ≤ (is.length : Int) - 0 by have : m1 ≤ (is.length : Int) := e3; omega, Int.le_refl (0 : Int), Int.le_refl (0 : Int), show (0 : Int) ≤ 0 * 1073741824 by decide, ?_⟩, fun o1 ho1 => ?_⟩⟩
  · show tw.2.1 ≤ 0 + grt l is (m1 - 0).toNat
    rw [Int.zero_add, Int.sub_zero]; exact e4
  · simp only [req_iff, decide_eq_true_eq, Nat.zero_add, Nat.le_refl, seg_self, true_and]
    refine hK o1 ?_
    have ho1 : o1 = pickF l tw.2.1 is (m1 - 0).toNat 0 := ho1
    have e1 : m1 = (manyF l is tw.2.1 ((is.length : Int) - 1).toNat 1 : Nat) := e1
    rw [ho1, e1, Int.sub_zero, Int.toNat_natCast, show ((is.length : Int) - 1).toNat = is.length - 1 by omega]
    rfl
theorem ok71 : FnOk Tryz.prog 27 fcFst := fn1_of (n := 5) (((good2_nil _).addL2 ok71B).addL2 ok71A) fun ((tw, l, h), is, ()) K hx => h71F tw l h is K hx.1.1 hx.1.2.1 hx.1.2.2.1 hx.1.2.2.2 hx.2

/-! Reasons -/
theorem dls_all : ∀ (l : List Dl) (last : Int), 0 ≤ last → dlsOk l last = true → ∀ d ∈ l, dayOk d
  | [], _, _, _, d, hd => by cases hd
  | e :: l, last, h0, h, d, hd => by
    simp only [dlsOk, Bool.and_eq_true] at h
    have he := dlOk_iff.1 h.1
    rcases List.mem_cons.1 hd with rfl | hd
    · exact ⟨by omega, he.1.2, he.2.1.1, he.2.1.2, he.2.2.1, he.2.2.2⟩
    · exact dls_all l e.1 (by omega) h.2 d hd
theorem wat_iff {l : List Dl} {ls : List Lk} {w : Wt} : watOk l ls w = true ↔ linkedOk ls = true ∧ l.length ≤ 64 ∧ dlsOk l 0 = true ∧ wtOk w = true := by
  simp only [watOk, Bool.and_eq_true, decide_eq_true_eq, and_assoc]
theorem watP_of {l : List Dl} {ls : List Lk} {w : Wt} (h : Ar) (g : watOk l ls w = true) : watP (w, l, h) := by
  obtain ⟨_, h2, h3, h4⟩ := wat_iff.1 g
  exact ⟨h4, h2, dls_all l 0 (by omega) h3⟩
theorem winF_mem {w : Wt} {l : List Dl} {hs : List Int} {k : Int} : ∀ (n : Nat) (i x : Int), x ∈ winF w l hs k n i ↔ (i ≤ x ∧ x < i + n) ∧ winB w l hs k x = true
  | 0, i, x => by simp [winF]; omega
  | n + 1, i, x => by
    simp only [winF]
    have ih := winF_mem (w := w) (l := l) (hs := hs) (k := k) n (i + 1) x
    split
    · rename_i hb
      rw [List.mem_cons, ih]
      constructor
      · rintro (rfl | ⟨h1, h2⟩)
        · exact ⟨by omega, hb⟩
        · exact ⟨by omega, h2⟩
      · rintro ⟨h1, h2⟩
        by_cases e : x = i
        · exact .inl e
        · exact .inr ⟨by omega, h2⟩
    · rename_i hb
      rw [ih]
      constructor
      · rintro ⟨h1, h2⟩; exact ⟨by omega, h2⟩
      · rintro ⟨h1, h2⟩
        have : x ≠ i := fun e => by subst e; exact hb h2
        exact ⟨by omega, h2⟩
theorem winF_len {w : Wt} {l : List Dl} {hs : List Int} {k : Int} : ∀ (n : Nat) (i : Int), (winF w l hs k n i).length ≤ n
  | 0, i => by simp [winF]
  | n + 1, i => by
    simp only [winF]
    have ih := winF_len (w := w) (l := l) (hs := hs) (k := k) n (i + 1)
    split
    · simp; omega
    · omega
theorem all_idx {w : Wt} {l : List Dl} {h : Ar} {hs : List Int} {k : Int} (g : watP (w, l, h)) (k0 : 0 ≤ k) (k1 : k < l.length) : idxOk (w, l, h) (allI w l hs k) := by
  have h64 : l.length ≤ 64 := g.2.1
  refine ⟨?_, fun i hi => ?_⟩
  · have := winF_len (w := w) (l := l) (hs := hs) (k := k) (k + 1).toNat 0
    unfold allI; omega
  · have := (winF_mem _ _ _).1 hi
    show 0 ≤ i ∧ i < (l.length : Int)
    omega
theorem h34F (l : List Dl) (ls : List Lk) (w : Wt) (k : Int) (K : dens [L, E] → Prop) (g1 : l.length ≤ big) (g2 : ls.length ≤ big) (hK : ∀ (r : List Int) (e : Int), (r, e) = reasonsF l ls w k → K (r, e, ())) :
    xfn1 Tryz.prog { f := [(17, fcWatch), (20, fcRep), (21, fcSums), (27, fcFst)], f2 := [(14, fc50w)] } 5 9 fcReas (l, ls, w, k, ()) K := by
  rw [v34F]
  refine ⟨⟨g1, g2⟩, fun hw h e1 e2 => ?_, fun hw => hK _ _ (by unfold reasonsF; rw [hw]; rfl)⟩
  have gw := watP_of h hw
  have h64 : l.length ≤ 64 := gw.2.1
  have gW := wtOk_iff.1 gw.1
  have gW : (1 ≤ w.1 ∧ w.1 ≤ 366) ∧ (1 ≤ w.2.1 ∧ w.2.1 ≤ 1073741824) ∧ (1 ≤ w.2.2.1 ∧ w.2.2.1 ≤ w.2.1) ∧ (1 ≤ w.2.2.2 ∧ w.2.2.2 ≤ 64) := gW
  simp only [fork_iff, req_iff, decide_eq_true_eq, decide_eq_false_iff_not, Bool.not_eq_true', Bool.not_eq_false', ge_iff_le, List.drop_zero, Nat.zero_add, Nat.le_refl, seg_self, true_and]
  have hR : reasonsF l ls w k = if 0 ≤ k ∧ k ≤ (l.length : Int) - 1 then if repB w l (headOf ls) k = true then if sumOf l (allI w l (headOf ls) k) < w.2.1 then ((smallI w l (headOf ls) k).take w.2.2.2.toNat, 0) else (fewestF w l (allI w l (headOf ls) k), 0) else ([], 4) else ([], 7) := by
    unfold reasonsF; rw [if_pos hw]
  rw [e1]
  refine ⟨inR_i64.2 (by omega), fun k0 => ⟨fun k1 => hK _ _ (by rw [hR, if_neg (fun z => k1 z.2)]), fun k1 => ⟨⟨gw, k0, show k < (l.length : Int) by omega⟩, fun b hb => ⟨fun q => hK _ _ (by rw [hR, if_pos ⟨k0, k1⟩, ← hb, q]; rfl), fun q => ⟨⟨gw, k0, show k < (l.length : Int) by omega⟩, fun a s n f1 f2 f3 => ?_⟩⟩⟩⟩, fun k0 => hK _ _ (by rw [hR, if_neg (fun z => k0 z.1)])⟩
  have hrep : repB w l (headOf ls) k = true := by rw [← hb]; exact q
  rw [if_pos ⟨k0, k1⟩, if_pos hrep, ← f3, ← f1, ← f2] at hR
  have ia : idxOk (w, l, h) a := by rw [f1]; exact all_idx gw k0 (by omega)
  refine ⟨fun z => ⟨⟨Int.le_refl (0 : Int), by omega, ?_⟩, ?_, fun r hr => hK _ _ (by rw [hR, if_pos z, hr])⟩, fun z => ⟨⟨gw, ia, ?_, ?_⟩, fun r hr => hK _ _ (by rw [hR, if_neg z, hr])⟩⟩
  · unfold repB at hrep
    rw [← f3, ← f2, decide_eq_false (show ¬ w.2.1 ≤ n by omega), Bool.false_or, decide_eq_true_eq] at hrep
    exact hrep
  · rw [List.length_take]; omega
  · rcases Nat.eq_zero_or_pos a.length with y | y
    · have : a = [] := List.length_eq_zero_iff.1 y
      rw [← f1, this] at f3
      have : n = 0 := f3
      omega
    · exact y
  · have : n = sumOf l a := by rw [f3, ← f1]
    rw [← this]; omega
theorem ok34 : FnOk Tryz.prog 9 fcReas := fn1_of (n := 5) ((((good2_nil _).addF2 ok50w).addF ok71).addF ok70 |>.addF ok69 |>.addF ok66) fun (l, ls, w, k, ()) K hx => h34F l ls w k K hx.1.1 hx.1.2 hx.2
end Go.P8
