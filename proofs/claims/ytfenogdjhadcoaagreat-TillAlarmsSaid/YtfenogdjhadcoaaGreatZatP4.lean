/- The greatest, the fewest: the code keeps its contracts. No conditions. -/
import Derived.Test.YtfenogdjhadcoaaGreatZatP3
import Derived.Test.YtfenogdjhadcoaaGreatZatS3
import Derived.Test.YtfenogdjhadcoaaGreatWatG
set_option linter.constructorNameAsVariable false
set_option linter.unusedVariables false
set_option linter.unusedSimpArgs false
set_option maxRecDepth 100000
set_option maxHeartbeats 4000000
namespace Go.P8
open Go.Lom Go.Proofs Go

theorem int_in {l : List Int} {i : Int} (h0 : 0 ≤ i) (h1 : i < l.length) : l.getD i.toNat 0 ∈ l := by
  rw [List.getD_eq_getElem?_getD, List.getElem?_eq_getElem (show i.toNat < l.length by omega)]
  exact List.getElem_mem _
theorem h48GL (n : Int) (l : List Int) (i : Int) (Q : AX → St → Prop) (ga : amtsOk l) (h0 : 0 ≤ i) (h1 : i ≤ l.length) (n0 : 0 ≤ n) (n1 : n ≤ i * 1073741824) (hQ : ∀ r, r = n + (l.drop i.toNat).sum → Q (.exit 0) (stS 0 sh48ge (r, ()))) :
    xloop2 Tryz.prog {} 5 52 0 lc48g (fun _ => some (sh48ge, 0)) (fun (_, _, l, _, i, _) => mL l i) (((), ()), n, l, (l.length : Int), i, ()) Q := by
  rw [v48GL]
  simp only [fork_iff, req_iff, decide_eq_true_eq, decide_eq_false_iff_not, true_and]
  have h64 := ga.1
  refine ⟨fun hi => ⟨⟨h0, hi⟩, ?_⟩, fun hi => hQ n (by rw [drop_end hi]; simp)⟩
  have hx := ga.2 _ (int_in h0 hi)
  rw [drop_step 0 h0 hi] at hQ
  simp only [List.sum_cons] at hQ
  generalize l.getD i.toNat 0 = x at *
  exact ⟨inR_i64.2 (by omega), inR_i64.2 (by omega), mL_lt hi, ⟨ga, show (0 : Int) ≤ i + 1 by omega, show i + 1 ≤ (l.length : Int) by omega, show (0 : Int) ≤ n + x by omega, show n + x ≤ (i + 1) * 1073741824 by omega⟩, fun r hr => hQ r (hr.trans (Int.add_assoc _ _ _))⟩
theorem ok48GL : Lp2Ok Tryz.prog 52 0 lc48g := lp2_of (n := 5) (ex := fun _ => some (sh48ge, 0)) (m := fun (_, _, l, _, i, _) => mL l i) (good2_nil _) fun (((), ()), n, l, m, i, ()) Q hx => by
  obtain ⟨⟨g1, g2, g3, g4, g5, g6⟩, hQ⟩ := hx
  have g2 : m = (l.length : Int) := g2
  subst g2
  exact h48GL n l i Q g1 g3 g4 g5 g6 hQ
theorem ok48G : FnOk Tryz.prog 52 fc48g := fn1_of (n := 5) ((good2_nil _).addL2 ok48GL) fun (l, ((), ()), ()) K hx => by
  obtain ⟨g1, hK⟩ := hx
  have hK : ∀ r, r = l.sum → K (r, ()) := hK
  rw [v48GF]
  refine ⟨⟨g1, rfl, Int.le_refl (0 : Int), show (0 : Int) ≤ (l.length : Int) by omega, Int.le_refl (0 : Int), show (0 : Int) ≤ 0 * 1073741824 by decide⟩, fun r hr => hK r (hr.trans (Int.zero_add _))⟩

/-! the greatest -/
theorem amt_bd {w : Wat} (g : watP w) {i : Int} (h0 : 0 ≤ i) (h1 : i < w.2.1.length) : 1 ≤ amt w.2.1 i ∧ amt w.2.1 i ≤ 1073741824 := (g.2.2 _ (dl_in h0 h1)).2.2.2.2
theorem amts_of {w : Wat} {is : List Int} (g : watP w) (h : idxOk w is) : ∀ x ∈ is.map (amt w.2.1), 0 ≤ x ∧ x ≤ 1073741824 := fun x hx => by
  obtain ⟨i, hi, rfl⟩ := List.mem_map.1 hx
  have := amt_bd g (h.2 i hi).1 (h.2 i hi).2
  omega
theorem grt_bd {w : Wat} {is : List Int} (g : watP w) (h : idxOk w is) (r : Nat) : 0 ≤ grt w.2.1 is r ∧ grt w.2.1 is r ≤ 68719476736 := by
  have := topS_bd (B := 1073741824) (by decide) _ (amts_of g h) r
  rw [List.length_map] at this
  refine ⟨this.1, Int.le_trans this.2 ?_⟩
  have := h.1
  omega
theorem h97L (r : Int) (tw : Wt) (l : List Dl) (h : Ar) (o is : List Int) (i : Int) (Q : AX → St → Prop) (gi : idxOk (tw, l, h) is) (h0 : 0 ≤ i) (h1 : i ≤ is.length) (ho : (o.length : Int) ≤ i) (hQ : ∀ o1 : List Int, o1 = o ++ (is.drop i.toNat).map (amt l) → Q (.exit 0) (stS 2 sh97e (r, o1, ()))) :
    xloop2 Tryz.prog { nm := true } 5 47 0 lc97 (fun _ => some (sh97e, 2)) (fun (_, _, _, is, _, i, _) => mL is i) (r, (tw, l, h), o, is, (is.length : Int), i, ()) Q := by
  rw [v97L]
  simp only [fork_iff, req_iff, decide_eq_true_eq, decide_eq_false_iff_not, true_and, Nat.zero_add, Nat.le_refl, seg_self]
  have h64 := gi.1
  refine ⟨fun hi => ⟨⟨h0, hi⟩, ?_⟩, fun hi => hQ o (by rw [drop_end hi]; simp)⟩
  have hx : 0 ≤ is.getD i.toNat 0 ∧ is.getD i.toNat 0 < (l.length : Int) := gi.2 _ (int_in h0 hi)
  rw [drop_step 0 h0 hi] at hQ
  rw [show (l.getD (is.getD i.toNat 0).toNat ((0 : Int), (0 : Int), (0 : Int))).2.2 = amt l (is.getD i.toNat 0) from rfl]
  generalize is.getD i.toNat 0 = x at *
  refine ⟨hx, fits100 (by omega), fun ys hys => ?_⟩
  subst hys
  have e1 : (o ++ [amt l x]).length = o.length + 1 := by simp
  rw [← e1, seg_self]
  exact ⟨inR_i64.2 (by omega), Nat.le_refl _, mL_lt hi, ⟨gi, show (0 : Int) ≤ i + 1 by omega, show i + 1 ≤ (is.length : Int) by omega, show ((o ++ [amt l x]).length : Int) ≤ i + 1 by omega⟩, fun o1 ho1 => hQ o1 (by rw [ho1]; simp)⟩
theorem ok97L : Lp2Ok Tryz.prog 47 0 lc97 := lp2_of (n := 5) (ex := fun _ => some (sh97e, 2)) (m := fun (_, _, _, is, _, i, _) => mL is i) (good2_nilN _) fun (r, (tw, l, h), o, is, m, i, ()) Q hx => by
  obtain ⟨⟨g1, g2, g3, g4, g5⟩, hQ⟩ := hx
  have g2 : m = (is.length : Int) := g2
  subst g2
  exact h97L r tw l h o is i Q g1 g3 g4 g5 hQ
theorem h97F (tw : Wt) (l : List Dl) (h : Ar) (is : List Int) (r : Int) (K : dens [I] → Prop) (gw : watP (tw, l, h)) (gi : idxOk (tw, l, h) is) (h0 : 0 ≤ r) (h1 : r ≤ is.length) (hK : ∀ q, q = grt l is r.toNat → K (q, ())) :
    xfn1 Tryz.prog { nm := true, f := [(52, fc48g)], f2 := [(66, fcSort)], l2 := [(47, 0, lc97)] } 5 47 fcGrt ((tw, l, h), is, r, ()) K := by
  rw [v97F]
  have h64 := gi.1
  have ha : ∀ x ∈ is.map (amt l), 0 ≤ x ∧ x ≤ 1073741824 := amts_of gw gi
  refine ⟨⟨gi, rfl, Int.le_refl (0 : Int), show (0 : Int) ≤ (is.length : Int) by omega, Int.le_refl (0 : Int)⟩, fun o1 ho1 => ?_⟩
  have ho1 : o1 = is.map (amt l) := ho1
  subst ho1
  simp only [req_iff, decide_eq_true_eq, List.length_map, Nat.le_refl, true_and, sortI_len, Int.le_refl, and_true]
  have e : ((is.length : Int) - r).toNat = is.length - r.toNat := by omega
  have hs : seg ((is.length : Int) - r).toNat (is.length - ((is.length : Int) - r).toNat) (sortI (is.map (amt l))) = (sortI (is.map (amt l))).drop (is.length - r.toNat) := by
    unfold seg
    rw [e, List.take_of_length_le (by rw [List.length_drop, sortI_len, List.length_map]; omega)]
  rw [hs]
  refine ⟨by omega, inR_i64.2 (by omega), ⟨by omega, by omega⟩, by omega, ⟨?_, fun x hx => ?_⟩, fun q hq => hK q ?_⟩
  · rw [List.length_drop, sortI_len, List.length_map]; omega
  · exact ha x ((List.mergeSort_perm _ _).mem_iff.1 (List.mem_of_mem_drop hx))
  · rw [hq]
    have := top_drop (is.map (amt l)) r.toNat
    rw [List.length_map] at this
    exact this
theorem ok97 : FnOk Tryz.prog 47 fcGrt := fn1_of (n := 5) (((good2_nilN _).addL2 ok97L).addF2 ok87 |>.addF ok48G) fun ((tw, l, h), is, r, ()) K hx => h97F tw l h is r K hx.1.1 hx.1.2.1 hx.1.2.2.1 hx.1.2.2.2 hx.2
end Go.P8
