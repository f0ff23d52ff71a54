/- The reference's least: the code keeps its contract. No conditions. -/
import Derived.Test.YtfenogdjhadcoaaGreatRefZS
set_option linter.constructorNameAsVariable false
set_option linter.unusedVariables false
set_option linter.unusedSimpArgs false
set_option maxRecDepth 100000
set_option maxHeartbeats 4000000
namespace Go.P8
open Go.Lom Go.Proofs Go

theorem h29A (l : List Dl) (is : List Int) (s m : Int) (Q : AX → St → Prop) (g : ixP l is) (m0 : 0 ≤ m) (m1 : m ≤ is.length) (hg : s ≤ grt l is is.length)
    (hQ : ∀ m1 : Int, m1 = manyF l is s ((is.length : Int) - m).toNat m.toNat → m ≤ m1 → m1 ≤ is.length → s ≤ grt l is m1.toNat → Q (.exit 0) (stS 0 sh29a (l, is, s, m1, ()))) :
    xloop2 Tryz.prog { f := [(48, fcMost 65)] } 5 29 0 lc29a (fun _ => some (sh29a, 0)) (fun (_, is, _, m, _) => (is.length - m).toNat) (l, is, s, m, ()) Q := by
  rw [v29A]
  have h64 := g.2.2.1
  refine ⟨⟨g, m0, show m ≤ (1000 : Int) by omega, show is.length < 65 by omega⟩, fun r hr => ?_⟩
  simp only [fork_iff, req_iff, decide_eq_true_eq, decide_eq_false_iff_not]
  have step : manyF l is s ((is.length : Int) - m).toNat m.toNat = if grt l is m.toNat < s ∧ m < is.length then manyF l is s ((is.length : Int) - (m + 1)).toNat (m + 1).toNat else m.toNat := by
    by_cases q : m < is.length
    · rw [show ((is.length : Int) - m).toNat = ((is.length : Int) - (m + 1)).toNat + 1 by omega, show (m + 1).toNat = m.toNat + 1 by omega]
      simp only [manyF, q, and_true]
    · rw [show ((is.length : Int) - m).toNat = 0 by omega, if_neg (fun z => q z.2)]; rfl
  refine ⟨fun q => ?_, fun q => hQ m ?_ (Int.le_refl _) m1 (by omega)⟩
  · have hlt : m < is.length := by
      rcases Int.lt_or_le m is.length with z | z
      · exact z
      · have : m.toNat = is.length := by omega
        rw [this] at hr; omega
    refine ⟨inR_i64.2 (by omega), show ((is.length : Int) - (m + 1)).toNat < ((is.length : Int) - m).toNat by omega, ⟨g, show (0 : Int) ≤ m + 1 by omega, show m + 1 ≤ (is.length : Int) by omega, hg⟩, fun m2 e1 e2 e3 e4 => hQ m2 ?_ (show m ≤ m2 from Int.le_trans (by omega) (show m + 1 ≤ m2 from e2)) e3 e4⟩
    rw [step, if_pos ⟨by omega, hlt⟩]; exact e1
  · rw [step, if_neg (fun z => by omega)]; omega
theorem ok29A : Lp2Ok Tryz.prog 29 0 lc29a := lp2_of (n := 5) (ex := fun _ => some (sh29a, 0)) (m := fun (_, is, _, m, _) => (is.length - m).toNat) ((good2_nil _).addF (ok48m 65)) fun (l, is, s, m, ()) Q hx => h29A l is s m Q hx.1.1 hx.1.2.1 hx.1.2.2.1 hx.1.2.2.2 hx.2
theorem pick_shift (l : List Dl) (d : Int) : ∀ (is : List Int) (r : Nat) (s n : Int), pickF l (s - d) is r n = pickF l s is r (n + d)
  | [], _, _, _ => rfl
  | a :: is, r, s, n => by
    simp only [pickF]
    split
    · rfl
    · rw [pick_shift l d is (r - 1) s (n + amt l a), pick_shift l d is r s n, show n + amt l a + d = n + d + amt l a by omega]
      by_cases q : r - 1 ≤ is.length ∧ s ≤ n + d + amt l a + grt l is (r - 1)
      · rw [if_pos q, if_pos ⟨q.1, by omega⟩]
      · rw [if_neg q, if_neg (fun z => q ⟨z.1, by omega⟩)]
theorem h29B (l : List Dl) (is : List Int) (s m : Int) (o : List Int) (i : Int) (Q : AX → St → Prop) (g : ixP l is) (h0 : 0 ≤ i) (h1 : i ≤ is.length) (ho : (o.length : Int) ≤ i) (m0 : 0 ≤ m) (m1 : m ≤ is.length - i) (s1 : s ≤ 1073741824) (s0 : 0 ≤ s + i * 1073741824) (hg : s ≤ grt l (is.drop i.toNat) m.toNat)
    (hQ : ∀ r : List Int, r = o ++ pickF l s (is.drop i.toNat) m.toNat 0 → Q (.exit 2) (stS 1 sh29be (r, ()))) :
    xloop2 Tryz.prog { nm := true, f := [(48, fcMost 65)] } 5 29 1 lc29b (fun _ => some (sh29be, 1)) (fun (_, is, _, _, _, i, _) => mL is i) (l, is, s, m, o, i, ()) Q := by
  rw [v29B]
  have h64 := g.2.2.1
  simp only [fork_iff, req_iff, decide_eq_true_eq, decide_eq_false_iff_not, ge_iff_le, gt_iff_lt, Nat.zero_add, Nat.le_refl, seg_self, true_and, List.take_length]
  refine ⟨fun hi => ⟨fun hm => ?_, fun hm => hQ o (by rw [show m.toNat = 0 by omega, pickF_zero, List.append_nil])⟩, fun hi => hQ o (by rw [show m.toNat = 0 by omega, pickF_zero, List.append_nil])⟩
  have hx := g.2.2.2 _ (int_in h0 hi)
  have dx : dayOk (l.getD (is.getD i.toNat 0).toNat ((0, 0, 0) : Dl)) := g.2.1 _ (dl_in hx.1 hx.2)
  have hb : 1 ≤ amt l (is.getD i.toNat 0) ∧ amt l (is.getD i.toNat 0) ≤ 1073741824 := dx.2.2.2.2
  have hdl : (is.drop (i + 1).toNat).length = is.length - (i + 1).toNat := List.length_drop
  have gd : ixP l (is.drop (i + 1).toNat) := ⟨g.1, g.2.1, by omega, fun z hz => g.2.2.2 z (List.mem_of_mem_drop hz)⟩
  rw [drop_step 0 h0 hi, show m.toNat = (m - 1).toNat + 1 by omega] at hg hQ
  rw [show (l.getD (is.getD i.toNat 0).toNat ((0 : Int), (0 : Int), (0 : Int))).2.2 = amt l (is.getD i.toNat 0) from rfl]
  simp only [pickF, Nat.add_one_ne_zero, if_false, Nat.add_sub_cancel, Int.zero_add] at hQ
  have next := fun (z : ¬ s ≤ 0 + amt l (is.getD i.toNat 0) + grt l (is.drop (i + 1).toNat) (m - 1).toNat) => pick_next (l := l) (a := is.getD i.toNat 0) (is := is.drop (i + 1).toNat) (r := (m - 1).toNat) (s := s) (n := 0) (by omega) (by omega) z
  generalize is.getD i.toNat 0 = x at *
  generalize amt l x = v at *
  have hm2 : (i + 1) * 1073741824 = i * 1073741824 + 1073741824 := by omega
  refine ⟨⟨h0, hi⟩, hx, inR_i64.2 (by omega), ⟨by omega, by omega, Int.le_refl _⟩, inR_i64.2 (by omega), ⟨gd, show (0 : Int) ≤ m - 1 by omega, show m - 1 ≤ (1000 : Int) by omega, by omega⟩, fun r hr => ?_⟩
  have hrb := grtz_bd gd (m - 1).toNat
  rw [← hr] at hrb
  refine ⟨inR_i64.2 (by omega), fun q => ⟨⟨h0, hi⟩, fits100 (by omega), fun ys hys => ?_⟩, fun q => ?_⟩
  · subst hys
    have e1 : (o ++ [x]).length = o.length + 1 := by simp
    rw [← e1, seg_self]
    have hch : (m - 1).toNat ≤ (is.drop (i + 1).toNat).length ∧ s ≤ v + grt l (is.drop (i + 1).toNat) (m - 1).toNat := ⟨by omega, by rw [← hr]; exact q⟩
    rw [if_pos hch] at hQ
    refine ⟨⟨h0, hi⟩, hx, inR_i64.2 (by omega), inR_i64.2 (by omega), inR_i64.2 (by omega), Nat.le_refl _, mL_lt hi, ⟨g, show (0 : Int) ≤ i + 1 by omega, show i + 1 ≤ (is.length : Int) by omega, show ((o ++ [x]).length : Int) ≤ i + 1 by omega, show (0 : Int) ≤ m - 1 by omega, show m - 1 ≤ (is.length : Int) - (i + 1) by omega, show s - v ≤ (1073741824 : Int) by omega, show (0 : Int) ≤ s - v + (i + 1) * 1073741824 by omega, show s - v ≤ grt l (is.drop (i + 1).toNat) (m - 1).toNat by have := hch.2; omega⟩, fun r2 hr2 => hQ r2 ?_⟩
    have hr2 : r2 = (o ++ [x]) ++ pickF l (s - v) (is.drop (i + 1).toNat) (m - 1).toNat 0 := hr2
    rw [hr2, pick_shift]
    simp
  · rw [hr] at q
    obtain ⟨z1, z2⟩ := next (by omega)
    rw [if_neg (fun z => q z.2)] at hQ
    have e2 : m.toNat = (m - 1).toNat + 1 := by omega
    exact ⟨inR_i64.2 (by omega), mL_lt hi, ⟨g, show (0 : Int) ≤ i + 1 by omega, show i + 1 ≤ (is.length : Int) by omega, show (o.length : Int) ≤ i + 1 by omega, m0, show m ≤ (is.length : Int) - (i + 1) by omega, s1, show (0 : Int) ≤ s + (i + 1) * 1073741824 by omega, show s ≤ grt l (is.drop (i + 1).toNat) m.toNat by rw [e2]; omega⟩, fun r2 hr2 => hQ r2 (by rw [hr2, e2])⟩
theorem ok29B : Lp2Ok Tryz.prog 29 1 lc29b := lp2_of (n := 5) (ex := fun _ => some (sh29be, 1)) (m := fun (_, is, _, _, _, i, _) => mL is i) ((good2_nilN _).addF (ok48m 65)) fun (l, is, s, m, o, i, ()) Q hx => by
  obtain ⟨⟨g1, g2, g3, g4, g5, g6, g7, g8, g9⟩, hQ⟩ := hx
  exact h29B l is s m o i Q g1 g2 g3 g4 g5 g6 g7 g8 g9 hQ
end Go.P8
