/- Payments: pay, Check: the code keeps its contracts. No conditions. -/
import Derived.Test.YtfenogdjhadcoaaPayP
set_option linter.all false
set_option maxRecDepth 100000
set_option maxHeartbeats 4000000
namespace Go.P8
open Go.Lom Go.Proofs Go
theorem h45B (cs : List Int) (m : Memo) (hv : List Int) (q s : Int) (o : List Int) (n : Int) (l : List Int) (k i : Int) (Q : AX -> St -> Prop) (g1 : okC cs hv) (g2 : memoOk cs hv m) (q0 : 0 <= q) (q1 : q < cs.length) (s0 : 0 <= s) (s1 : s <= 2000) (n0 : 0 <= n) (n1 : n <= 2000) (n2 : n * cs.getD q.toNat 0 <= s)
  (hh : hasN (few (lst cs hv (q + 1))) (cs.getD q.toNat 0) s (fewI cs hv (q, s)) n)
  (hQ : ∀ (m1 : Memo) (n1 : Int), memoOk cs hv m1 -> n1 = topN (few (lst cs hv (q + 1))) (cs.getD q.toNat 0) s (fewI cs hv (q, s)) n.toNat -> Q (.exit 2) (stS 7 sh45b (cs, m1, hv, ((), (), (), (), (), ()), (q, s), o, q, cs.getD q.toNat 0, n1, l, k, i, ()))) :
  xloop2 Try.prog { nm := true, f2 := [(77, fc77 9)] } 5 45 1 lc45b (fun _ => some (sh45b, 7)) (fun (_, _, _, _, _, _, _, _, n, _) => n.toNat) (cs, m, hv, ((), (), (), (), (), ()), (q, s), o, q, cs.getD q.toNat 0, n, l, k, i, ()) Q := by
 rw [v45B]
 obtain ⟨⟨c1, c2⟩, d1, d2⟩ := coin_at g1 q0 q1
 have hl8 := g1.len.2
 generalize hc : cs.getD q.toNat 0 = x at *
 have hx0 : 0 <= n * x := Int.mul_nonneg n0 (by omega)
 have f0 := few_nonneg (lst cs hv (q + 1)) (s - n * x)
 have f1 := few_le (lst cs hv (q + 1)) (s - n * x)
 simp only [fork_iff, req_iff, decide_eq_true_eq, decide_eq_false_iff_not, bne_iff_ne, bne_eq_false_iff_eq, ne_eq, Nat.zero_add, seg_self, Nat.le_refl, true_and]
 refine ⟨inR_i64.2 (by omega), inR_i64.2 (by omega), inR_i64.2 (by omega), ⟨g1, g2, ⟨show (0 : Int) <= q + 1 by omega, show q + 1 <= (cs.length : Int) by omega, show (cs.length : Int) - (q + 1) < ((9 : Nat) : Int) by omega⟩, show (0 : Int) <= s - n * x by omega, show s - n * x <= (2000 : Int) by omega⟩, fun m1 a hm1 ha => ?_⟩
 have ha : a = few (lst cs hv (q + 1)) (s - n * x) := ha
 rw [<- ha] at f0 f1
 refine ⟨inR_i64.2 (by omega), ⟨g1, hm1, ⟨q0, show q <= (cs.length : Int) by omega, show (cs.length : Int) - q < ((9 : Nat) : Int) by omega⟩, s0, s1⟩, fun m2 b hm2 hb => ⟨fun hne => ?_, fun he => ?_⟩⟩
 ·obtain ⟨j, j0, j1, j2⟩ := hh
  have hj : j ≠ n := fun e => hne (by rw [hb, <- j2, e, ha])
  have hn1 : 1 <= n := by omega
  obtain ⟨p, hp⟩ : ∃ p, n.toNat = p + 1 := ⟨n.toNat - 1, by omega⟩
  have hp2 : ((p : Int) + 1) = n := by omega
  rw [hp] at hQ
  simp only [topN] at hQ
  rw [hp2] at hQ
  rw [if_neg (show ¬ n + few (lst cs hv (q + 1)) (s - n * x) = fewI cs hv (q, s) from fun e => hne (by rw [hb, ha]; exact e)), show p = (n - 1).toNat by omega] at hQ
  have hx2 : (n - 1) * x <= s := by rw [Int.sub_mul, Int.one_mul]; omega
  refine ⟨inR_i64.2 (by omega), by omega, ⟨⟨g1, hm2, ⟨q0, q1⟩, ⟨s0, s1⟩, hc.symm, ⟨show (0 : Int) <= n - 1 by omega, show n - 1 <= (2000 : Int) by omega, hx2⟩, ⟨j, j0, by omega, j2⟩⟩, hQ⟩⟩
 ·refine hQ m2 n hm2 ?_
  by_cases hn : n = 0
  ·subst hn; rfl
  ·obtain ⟨p, hp⟩ : ∃ p, n.toNat = p + 1 := ⟨n.toNat - 1, by omega⟩
   have hp2 : ((p : Int) + 1) = n := by omega
   rw [hp]
   simp only [topN]
   rw [hp2, if_pos (by rw [<- ha, <- hb]; exact he)]
theorem ok45B : Lp2Ok Try.prog 45 1 lc45b := lp2_of (n := 5) (ex := fun _ => some (sh45b, 7)) (m := fun (_, _, _, _, _, _, _, _, n, _) => n.toNat) ((good2_nilN _).addF2 (ok77 9)) fun (cs, m, hv, u, (k0, s), o, q, c, n, l, k, i, ()) Q hx => by
 obtain ⟨⟨g1, g2, ⟨g3, g4⟩, g5, ⟨g6, g7⟩, g8, ⟨g9, g10, g11⟩, g12⟩, hQ⟩ := hx
 have g5 : k0 = q := g5
 have g8 : c = cs.getD q.toNat 0 := g8
 subst g5 g8
 exact h45B cs m hv k0 s o n l k i Q g1 g2 g3 g4 g6 g7 g9 g10 g11 g12 hQ
theorem h45L (cs : List Int) (m : Memo) (hv : List Int) (s : Int) (o : List Int) (i : Int) (Q : AX -> St -> Prop) (g1 : okC cs hv) (g2 : memoOk cs hv m) (i0 : 0 <= i) (i1 : i <= cs.length) (s0 : 0 <= s) (s1 : s <= 2000) (hf : fewI cs hv (i, s) < 1073741824) (ho : (o.length : Int) <= i)
  (hQ : ∀ r, r = o ++ payL (lst cs hv i) s -> Q (.exit 0) (stS 7 sh45e (r, ()))) :
  xloop2 Try.prog { nm := true, l2 := [(45, 1, lc45b)] } 5 45 0 lc45 (fun _ => some (sh45e, 7)) (fun (_, _, _, _, _, _, l, _, i, _) => mL l i) (cs, m, hv, ((), (), (), (), (), ()), (i, s), o, cs, (cs.length : Int), i, ()) Q := by
 rw [v45L]
 have hl := g1.len
 simp only [fork_iff, req_iff, decide_eq_true_eq, decide_eq_false_iff_not, ne_eq, Nat.zero_add, seg_self, Nat.le_refl, true_and]
 refine ⟨fun hi => ?_, fun hi => hQ _ (by rw [lst_end g1 hi]; simp [payL])⟩
 obtain ⟨⟨c1, c2⟩, d1, d2⟩ := coin_at g1 i0 hi
 obtain ⟨q1, q2, q3⟩ := quo_bd s0 c1
 have hmn : manyI cs hv (i, s) - 1 = min (hv.getD i.toNat 0) (s.tdiv (cs.getD i.toNat 0)) := by unfold manyI; simp only; omega
 obtain ⟨n1, n2, n3, n4⟩ := many_bd g1 i0 hi s0
 have hhas := fewI_has g1 i0 hi s0 hf
 rw [payL_step g1 i0 hi] at hQ
 simp only [ite_min]
 rw [<- hmn]
 have hmb := mul_bd (i := manyI cs hv (i, s) - 1) (by omega) s0 c1 n3
 have hq0 : cs.getD i.toNat 0 ≠ 0 := by omega
 have hsp := topN_spec (n := (manyI cs hv (i, s) - 1).toNat) (by rw [show (((manyI cs hv (i, s) - 1).toNat : Nat) : Int) = manyI cs hv (i, s) - 1 by omega]; exact hhas)
 generalize hn : manyI cs hv (i, s) - 1 = n at *
 refine ⟨⟨i0, hi⟩, ⟨i0, by omega⟩, hq0, inR_i64.2 (by omega), ⟨g1, g2, ⟨i0, hi⟩, ⟨s0, s1⟩, ⟨show (0 : Int) <= n by omega, show n <= (2000 : Int) by omega, hmb.2⟩, hhas⟩, fun m1 a hm1 ha => ?_⟩
 rw [<- ha] at hQ hsp
 obtain ⟨a0, a1, a2⟩ := hsp
 have a1' : a <= s.tdiv (cs.getD i.toNat 0) := by omega
 have hab := mul_bd a0 s0 c1 a1'
 generalize cs.getD i.toNat 0 = x at *
 have hf2 : few (lst cs hv (i + 1)) (s - a * x) < 1073741824 := by omega
 refine ⟨inR_i64.2 (by omega), inR_i64.2 (by omega), inR_i64.2 (by omega), fits100 (by omega), fun ys hys => ⟨inR_i64.2 (by omega), ?_⟩⟩
 have hyl : o.length + 1 = ys.length := by rw [hys]; simp
 rw [seg_exact hyl]
 exact ⟨by omega, mL_lt hi, ⟨⟨g1, hm1, ⟨show (0 : Int) <= i + 1 by omega, show i + 1 <= (cs.length : Int) by omega⟩, ⟨show (0 : Int) <= s - a * x by omega, show s - a * x <= (2000 : Int) by omega⟩, hf2, show (ys.length : Int) <= i + 1 by omega⟩, fun r hr => hQ r (by
  have hr : r = ys ++ payL (lst cs hv (i + 1)) (s - a * x) := hr
  rw [hr, hys, List.append_assoc]; rfl)⟩⟩
theorem ok45L : Lp2Ok Try.prog 45 0 lc45 := lp2_of (n := 5) (ex := fun _ => some (sh45e, 7)) (m := fun (_, _, _, _, _, _, l, _, i, _) => mL l i) ((good2_nilN _).addL2 ok45B) fun (cs, m, hv, u, (k0, s), o, l, k, i, ()) Q hx => by
 obtain ⟨⟨g1, g2, g3, g4, ⟨g5, g6⟩, g7, ⟨g8, g9⟩, g10, g11⟩, hQ⟩ := hx
 have g3 : l = cs := g3
 have g4 : k = (cs.length : Int) := g4
 have g7 : k0 = i := g7
 subst g3 g4 g7
 exact h45L l m hv s o k0 Q g1 g2 g5 g6 g8 g9 g10 g11 hQ
theorem ok45 : FnOk Try.prog 45 fcPayI := fn1_of (n := 5) (((good2_nilN _).addL2 ok45L).addF2 (ok77 9)) fun (cs, hv, sum, ()) K hx => by
 obtain ⟨⟨g1, g2, g3⟩, hK⟩ := hx
 have g1 : okC cs hv := g1
 have hl8 := g1.len.2
 have key : ∀ sum : Int, 0 <= sum -> sum <= 2000 -> (∀ r e, (r, e) = payR cs hv sum -> K (r, e, ())) -> xfn1 Try.prog { nm := true, f2 := [(77, fc77 9)], l2 := [(45, 0, lc45)] } 5 45 fcPayI (cs, hv, sum, ()) K := fun sum g2 g3 hK => by
  rw [v45F]
  simp only [fork_iff, req_iff, decide_eq_true_eq, decide_eq_false_iff_not, Nat.zero_add, seg_self, Nat.le_refl, true_and, List.nil_append]
  refine ⟨⟨g1, memo_nil _ _, ⟨Int.le_refl (0 : Int), Int.natCast_nonneg _, show (cs.length : Int) - 0 < ((9 : Nat) : Int) by omega⟩, g2, g3⟩, fun m1 n hm1 hn => ?_⟩
  have hn : n = few (cs.zip hv) sum := hn
  refine ⟨fun h => hK [] 4 (by unfold payR; rw [if_pos (by rw [<- hn]; exact h)]), fun h => ⟨⟨g1, hm1, ⟨Int.le_refl (0 : Int), Int.natCast_nonneg _⟩, ⟨g2, g3⟩, show fewI cs hv (0, sum) < (1073741824 : Int) from by show few (cs.zip hv) sum < _; omega, Int.le_refl (0 : Int)⟩, fun r hr => hK r 0 (by unfold payR; rw [if_neg (by rw [<- hn]; exact h)]; rw [hr]; rfl)⟩⟩
 exact key sum g2 g3 hK
end Go.P8
