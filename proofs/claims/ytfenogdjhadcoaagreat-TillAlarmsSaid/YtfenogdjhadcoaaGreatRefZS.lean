/- The reference's most and least: the code keeps its contracts. No conditions. -/
import Derived.Test.YtfenogdjhadcoaaGreatRefZR
import Derived.Test.YtfenogdjhadcoaaGreatRefZ2
set_option linter.constructorNameAsVariable false
set_option linter.unusedVariables false
set_option linter.unusedSimpArgs false
set_option maxRecDepth 100000
set_option maxHeartbeats 4000000
namespace Go.P8
open Go.Lom Go.Proofs Go

theorem sortD_eq {xs ys : List Int} (h : xs.Perm ys) : sortD xs = sortD ys :=
  List.Perm.eq_of_pairwise (le := fun a b : Int => b ≤ a) (fun a b _ _ h1 h2 => Int.le_antisymm h2 h1) (sortD_pw xs) (sortD_pw ys) (((sortD_perm xs).trans h).trans (sortD_perm ys).symm)
theorem topS_max {x : Int} {xs rest : List Int} (hp : xs.Perm (x :: rest)) (hx : ∀ y ∈ rest, y ≤ x) (m : Nat) : topS (m + 1) xs = x + topS m rest := by
  have e : sortD xs = x :: sortD rest := by
    rw [sortD_eq hp]
    refine List.Perm.eq_of_pairwise (le := fun a b : Int => b ≤ a) (fun a b _ _ h1 h2 => Int.le_antisymm h2 h1) (sortD_pw _) (List.pairwise_cons.2 ⟨fun y hy => hx y ((sortD_perm rest).mem_iff.1 hy), sortD_pw rest⟩) ((sortD_perm _).trans ((sortD_perm rest).symm.cons x))
  unfold topS
  rw [e, List.take_succ_cons, List.sum_cons]
theorem h48M (l : List Dl) (is : List Int) (m best i : Int) (Q : AX → St → Prop) (g : ixP l is) (h0 : 0 ≤ i) (h1 : i ≤ is.length) (b0 : 0 ≤ best) (b1 : best < is.length) (hb : ∀ j : Nat, (j : Int) < i → amt l (is.getD j 0) ≤ amt l (is.getD best.toNat 0))
    (hQ : ∀ b1 : Int, 0 ≤ b1 → b1 < is.length → (∀ j ∈ is, amt l j ≤ amt l (is.getD b1.toNat 0)) → Q (.exit 0) (stS 0 sh48me (l, is, m, b1, ()))) :
    xloop2 Tryz.prog {} 5 48 0 lc48m (fun _ => some (sh48me, 0)) (fun (_, is, _, _, i, _) => mL is i) (l, is, m, best, i, ()) Q := by
  rw [v48M]
  simp only [fork_iff, req_iff, decide_eq_true_eq, decide_eq_false_iff_not, gt_iff_lt]
  have h64 := g.2.2.1
  refine ⟨fun hi => ?_, fun hi => hQ best b0 b1 fun j hj => ?_⟩
  · have hx := g.2.2.2 _ (int_in h0 hi)
    have hbx := g.2.2.2 _ (int_in b0 b1)
    rw [show (l.getD (is.getD i.toNat 0).toNat ((0 : Int), (0 : Int), (0 : Int))).2.2 = amt l (is.getD i.toNat 0) from rfl, show (l.getD (is.getD best.toNat 0).toNat ((0 : Int), (0 : Int), (0 : Int))).2.2 = amt l (is.getD best.toNat 0) from rfl]
    refine ⟨⟨h0, hi⟩, hx, ⟨b0, b1⟩, hbx, fun q => ⟨inR_i64.2 (by omega), mL_lt hi, ⟨g, show (0 : Int) ≤ i + 1 by omega, show i + 1 ≤ (is.length : Int) by omega, h0, hi, fun j hj => ?_⟩, hQ⟩, fun q => ⟨inR_i64.2 (by omega), mL_lt hi, ⟨g, show (0 : Int) ≤ i + 1 by omega, show i + 1 ≤ (is.length : Int) by omega, b0, b1, fun j hj => ?_⟩, hQ⟩⟩
    · have hj : (j : Int) < i + 1 := hj
      by_cases e : (j : Int) = i
      · rw [show j = i.toNat by omega]; exact Int.le_refl _
      · have := hb j (by omega)
        show amt l (is.getD j 0) ≤ amt l (is.getD i.toNat 0)
        omega
    · have hj : (j : Int) < i + 1 := hj
      by_cases e : (j : Int) = i
      · rw [show j = i.toNat by omega]
        show amt l (is.getD i.toNat 0) ≤ amt l (is.getD best.toNat 0)
        omega
      · exact hb j (by omega)
  · obtain ⟨n, hn, rfl⟩ := List.getElem_of_mem hj
    have := hb n (by omega)
    rw [List.getD_eq_getElem?_getD, List.getElem?_eq_getElem hn] at this
    exact this
theorem ok48M : Lp2Ok Tryz.prog 48 0 lc48m := lp2_of (n := 5) (ex := fun _ => some (sh48me, 0)) (m := fun (_, is, _, _, i, _) => mL is i) (good2_nil _) fun (l, is, m, best, i, ()) Q hx => by
  obtain ⟨⟨g1, g2, g3, g4, g5, g6⟩, hQ⟩ := hx
  exact h48M l is m best i Q g1 g2 g3 g4 g5 g6 hQ
theorem grtz_bd {l : List Dl} {is : List Int} (g : ixP l is) (r : Nat) : 0 ≤ grt l is r ∧ grt l is r ≤ 68719476736 := by
  have hb : ∀ x ∈ is.map (amt l), 0 ≤ x ∧ x ≤ 1073741824 := fun x hx => by
    obtain ⟨i, hi, rfl⟩ := List.mem_map.1 hx
    have h := g.2.2.2 i hi
    have dx : dayOk (l.getD i.toNat ((0, 0, 0) : Dl)) := g.2.1 _ (dl_in h.1 h.2)
    exact ⟨Int.le_trans (by decide) dx.2.2.2.2.1, dx.2.2.2.2.2⟩
  have := topS_bd (B := 1073741824) (by decide) _ hb r
  rw [List.length_map] at this
  refine ⟨this.1, Int.le_trans this.2 ?_⟩
  have := g.2.2.1
  omega
theorem h48MF (c : Nat) (l : List Dl) (is : List Int) (m : Int) (K : dens [I] → Prop) (g : ixP l is) (m0 : 0 ≤ m) (m1 : m ≤ 1000) (hc : is.length < c + 1) (hK : ∀ r : Int, r = grt l is m.toNat → K (r, ())) :
    xfn1 Tryz.prog { nm := true, f := [(48, fcMost c)], l2 := [(48, 0, lc48m)] } 5 48 (fcMost (c + 1)) (l, is, m, ()) K := by
  rw [v48MF]
  have h64 := g.2.2.1
  simp only [fork_iff, req_iff, decide_eq_true_eq, beq_iff_eq, beq_eq_false_iff_ne, ne_eq, List.drop_zero, List.nil_append, Nat.zero_add, List.take_length, true_and, Nat.le_refl, Int.le_refl, and_true]
  refine ⟨fun e => hK 0 (by rw [e]; exact (grt_zero l is).symm), fun hm => ⟨fun e => hK 0 ?_, fun hl => ⟨⟨g, show (0 : Int) ≤ (is.length : Int) by omega, show (0 : Int) < (is.length : Int) by omega, fun j hj => absurd (show (j : Int) < 0 from hj) (by omega)⟩, fun b b0 b1 hb => ?_⟩⟩⟩
  · have : is = [] := List.length_eq_zero_iff.1 (by omega)
    subst this; simp [grt, topS, sortD]
  have e1 : (is.take b.toNat).length = b.toNat := by rw [List.length_take]; omega
  have e2 : (is.drop (b + 1).toNat).length = is.length - (b.toNat + 1) := by rw [List.length_drop]; omega
  refine ⟨⟨b0, by omega⟩, inR_i64.2 (by omega), ⟨by omega, by omega⟩, fits100 (by omega), fun ys hys => ?_⟩
  subst hys
  refine ⟨Nat.le_refl _, fits100 (by omega), fun zs hzs => ?_⟩
  rw [seg_self] at hzs
  have e3 : zs.length = (is.take b.toNat).length + (is.drop (b + 1).toNat).length := by rw [hzs]; simp
  rw [← e3, seg_self]
  have hsplit : is = is.take b.toNat ++ is.getD b.toNat 0 :: is.drop (b + 1).toNat := by
    rw [← drop_step 0 b0 b1, List.take_append_drop]
  have hmem : ∀ z ∈ zs, z ∈ is := fun z hz => by
    rw [hzs] at hz
    rcases List.mem_append.1 hz with hz | hz
    · exact List.mem_of_mem_take hz
    · exact List.mem_of_mem_drop hz
  have gz : ixP l zs := ⟨g.1, g.2.1, by omega, fun z hz => g.2.2.2 z (hmem z hz)⟩
  have hx := g.2.2.2 _ (int_in b0 b1)
  have dx : dayOk (l.getD (is.getD b.toNat 0).toNat ((0, 0, 0) : Dl)) := g.2.1 _ (dl_in hx.1 hx.2)
  refine ⟨⟨b0, b1⟩, hx, inR_i64.2 (by omega), Nat.le_refl _, ⟨gz, show (0 : Int) ≤ m - 1 by omega, show m - 1 ≤ (1000 : Int) by omega, by omega⟩, fun r hr => ?_⟩
  have hrb := grtz_bd gz (m - 1).toNat
  rw [← hr] at hrb
  have d6 := dx.2.2.2.2
  refine ⟨inR_i64.2 ?_, hK _ ?_⟩
  · have d6 : 1 ≤ (l.getD (is.getD b.toNat 0).toNat ((0 : Int), (0 : Int), (0 : Int))).2.2 ∧ (l.getD (is.getD b.toNat 0).toNat ((0 : Int), (0 : Int), (0 : Int))).2.2 ≤ 1073741824 := d6
    omega
  · have hp : (is.map (amt l)).Perm (amt l (is.getD b.toNat 0) :: zs.map (amt l)) := by
      rw [← List.map_cons]
      refine List.Perm.map _ ?_
      rw [hzs]
      conv => lhs; rw [hsplit]
      exact List.perm_middle
    have := topS_max hp (fun y hy => by
      obtain ⟨z, hz, rfl⟩ := List.mem_map.1 hy
      exact hb z (hmem z hz)) (m - 1).toNat
    unfold grt at hr ⊢
    rw [hr, show m.toNat = (m - 1).toNat + 1 by omega, this]; rfl
theorem ok48m : ∀ c, FnOk Tryz.prog 48 (fcMost c)
  | 0 => fn1_of (n := 5) (T := {}) (good2_nil _) fun x K hx => absurd hx.1.2.2.2 (Nat.not_lt_zero _)
  | c + 1 => fn1_of (n := 5) (((good2_nilN _).addL2 ok48M).addF (ok48m c)) fun (l, is, m, ()) K hx => h48MF c l is m K hx.1.1 hx.1.2.1 hx.1.2.2.1 hx.1.2.2.2 hx.2
end Go.P8
