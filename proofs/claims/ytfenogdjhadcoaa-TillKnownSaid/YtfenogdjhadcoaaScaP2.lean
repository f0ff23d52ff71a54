/- Scales: Weigh: the code keeps its contract. No conditions. -/
import Derived.Test.YtfenogdjhadcoaaScaP3
set_option linter.all false
set_option maxRecDepth 100000
set_option maxHeartbeats 4000000
namespace Go.P8
open Go.Lom Go.Proofs Go
instance (n : Int) (r : R4) : Decidable (smR n r) := by unfold smR; infer_instance
theorem sides_ok : ∀ m : Fin 3, (sidesT (m.val + 1)).length <= 100 /\ ∀ r ∈ sidesT (m.val + 1), smR 1 r := by decide +kernel
theorem coins_tab : ∀ k : Fin 10, let n : Int := (k.val : Int) + 3; (((coinsT n 0).length : Int) < n /\ ((coinsT n 1).length : Int) < n) /\ (n ≠ 3 -> ((coinsT n 2).length : Int) < n) /\ (coinsT n (manyT n)).length = n.toNat := by decide +kernel
theorem coins_at {n : Int} (h0 : 3 <= n) (h1 : n <= 12) : (((coinsT n 0).length : Int) < n /\ ((coinsT n 1).length : Int) < n) /\ (n ≠ 3 -> ((coinsT n 2).length : Int) < n) /\ (coinsT n (manyT n)).length = n.toNat := by
 have := coins_tab ⟨(n - 3).toNat, by omega⟩
 have e : (((n - 3).toNat : Nat) : Int) + 3 = n := by omega
 dsimp only at this
 rw [e] at this
 exact this
theorem coins_lt {n m : Int} (h0 : 3 <= n) (h1 : n <= 12) (m0 : 0 <= m) (m1 : m < manyT n) : ((coinsT n m).length : Int) < n := by
 obtain ⟨⟨a, b⟩, c, -⟩ := coins_at h0 h1
 unfold manyT at m1
 split at m1
 ·have : m = 0 \/ m = 1 := by omega
  rcases this with rfl | rfl
  ·exact a
  ·exact b
 ·rename_i h3
  have : m = 0 \/ m = 1 \/ m = 2 := by omega
  rcases this with rfl | rfl | rfl
  ·exact a
  ·exact b
  ·exact c h3
theorem manyT_bd (n : Int) : 2 <= manyT n /\ manyT n <= 3 := by unfold manyT; split <;> omega
theorem sides_at {m : Int} (m0 : 0 <= m) (m1 : m <= 2) : (sidesT (m + 1).toNat).length <= 100 /\ ∀ r ∈ sidesT (m + 1).toNat, smR 1 r := by
 have hso := sides_ok ⟨m.toNat, by omega⟩
 have e : (m + 1).toNat = m.toNat + 1 := by omega
 rw [e]; exact hso
theorem coins_go {n m : Int} {cs : List R4} (n0 : 3 <= n) (n1 : n <= 12) (m0 : 0 <= m) (m1 : m <= manyT n) (hcs : cs = coinsT n m) (h : (cs.length : Int) < n) : m < manyT n := by
 by_cases c : m < manyT n
 ·exact c
 ·have e : m = manyT n := by omega
  have hl := (coins_at n0 n1).2.2
  rw [<- e, <- hcs] at hl
  omega
theorem coins_end {n m : Int} {cs : List R4} (n0 : 3 <= n) (n1 : n <= 12) (m0 : 0 <= m) (m1 : m <= manyT n) (hcs : cs = coinsT n m) (h : ¬ (cs.length : Int) < n) : m = manyT n := by
 by_cases c : m < manyT n
 ·exact absurd (by rw [hcs]; exact coins_lt n0 n1 m0 c) h
 ·omega
theorem coins_nx {n m : Int} {r r1 : List R4} (m0 : 0 <= m) (hr : r = sidesT (m + 1).toNat) (hr1 : r1 = chosenT r n) : r1 = coinsT n (m + 1) := by
 unfold coinsT
 rw [if_neg (by omega), hr1, hr]
theorem h37L (n m : Int) (cs : List R4) (Q : AX -> St -> Prop) (n0 : 3 <= n) (n1 : n <= 12) (m0 : 0 <= m) (m1 : m <= manyT n) (hcs : cs = coinsT n m) (hQ : Q (.exit 0) (stS 0 sh37e (manyT n, coinsT n (manyT n), ()))) :
  xloop2 Try.prog { nm := true, f := [(73, fc73), (72, fc72)] } 5 37 0 lc37 (fun _ => some (sh37e, 0)) (fun (n, m, _) => (4 - m).toNat) (n, m, cs, ()) Q := by
 rw [v37L]
 have hb := manyT_bd n
 simp only [fork_iff, req_iff, decide_eq_true_eq, decide_eq_false_iff_not]
 refine ⟨fun h => ?_, fun h => ?_⟩
 ·have hm : m < manyT n := coins_go n0 n1 m0 m1 hcs h
  have m2 : m <= 2 := by omega
  have hso := sides_at m0 m2
  refine ⟨inR_i64.2 (by omega), ⟨show (1 : Int) <= m + 1 by omega, show m + 1 <= 3 by omega⟩, fun r hr => ?_⟩
  have hr : r = sidesT (m + 1).toNat := hr
  refine ⟨⟨by rw [hr]; exact hso.1, by rw [hr]; exact hso.2, show (0 : Int) <= n by omega, n1⟩, fun r1 hr1 => ⟨by omega, ⟨⟨⟨n0, n1⟩, ⟨by show (0 : Int) <= m + 1; omega, by show m + 1 <= manyT n; omega⟩, coins_nx m0 hr hr1⟩, hQ⟩⟩⟩
 ·have hm : m = manyT n := coins_end n0 n1 m0 m1 hcs h
  rw [hcs, hm]; exact hQ
theorem ok37L : Lp2Ok Try.prog 37 0 lc37 := lp2_of (n := 5) (ex := fun _ => some (sh37e, 0)) (m := fun (n, m, _) => (4 - m).toNat) (((good2_nilN _).addF ok72).addF ok73) fun (n, m, cs, ()) Q hx => by
 obtain ⟨⟨⟨g1, g2⟩, ⟨g3, g4⟩, g5⟩, hQ⟩ := hx
 exact h37L n m cs Q g1 g2 g3 g4 g5 hQ
theorem fit8 {n : Nat} (h : n <= 300) : fitsN n 8 = true := by simp only [fitsN, Bool.and_eq_true, Nat.ble_eq]; unfold maxLen; omega
theorem h37C (cs0 cs : List R4) (pl : List (List Int)) (j : Int) (o : List Int) (m i a : Int) (Q : AX -> St -> Prop) (j0 : 0 <= j) (j1 : j <= 2) (hl : cs.length <= 12) (a0 : 0 <= a) (a1 : a <= cs.length) (ho : (o.length : Int) <= a)
  (hQ : Q (.exit 4) (stS 2 sh37ce (cs0, pl, j, o ++ colT (cs.drop a.toNat) j, m, i, ()))) :
  xloop2 Try.prog { nm := true, fz := true } 5 37 2 lc37c (fun _ => some (sh37ce, 2)) (fun (_, _, _, _, _, _, cs, _, a, _) => mL cs a) (cs0, pl, j, o, m, i, cs, cs.length, a, ()) Q := by
 have hj : j = 0 \/ j = 1 \/ j = 2 := by omega
 have hnext : ∀ (x : Int), x = cellR (cs.getD a.toNat (0, 0, 0, 0)) j -> a < (cs.length : Int) -> ∀ ys : List Int, ys = o ++ [x] -> inR .i64 (a + 1) = true /\ o.length + 1 <= ys.length /\ mL cs (a + 1) < mL cs a /\ lc37c.spec (cs0, pl, j, seg 0 (o.length + 1) ys, m, i, cs, cs.length, a + 1, ()) Q := fun x hx ha ys hy => by
  have hyl : ys.length = o.length + 1 := by rw [hy, List.length_append]; rfl
  rw [drop_atR a0 ha] at hQ
  rw [<- hyl, seg_all]
  refine ⟨inR_i64.2 (by omega), by omega, mL_R ha, ⟨⟨⟨j0, by show j <= (2 : Int); omega⟩, rfl, hl, ⟨by show (0 : Int) <= a + 1; omega, by show a + 1 <= (cs.length : Int); omega⟩, by show (ys.length : Int) <= a + 1; omega⟩, ?_⟩⟩
  show Q (.exit 4) (stS 2 sh37ce (cs0, pl, j, ys ++ colT (cs.drop (a + 1).toNat) j, m, i, ()))
  rw [hy, hx, List.append_assoc]; exact hQ
 have hend : ¬ a < (cs.length : Int) -> Q (.exit 4) (stS 2 sh37ce (cs0, pl, j, o, m, i, ())) := fun ha => by
  have e : colT (cs.drop a.toNat) j = [] := by rw [List.drop_of_length_le (by omega)]; rfl
  rw [e, List.append_nil] at hQ; exact hQ
 have hf : fitsN (o.length + 1) 8 = true := fit8 (by omega)
 rcases hj with rfl | rfl | rfl
 ·rw [v37C0]
  simp only [fork_iff, req_iff, decide_eq_true_eq, decide_eq_false_iff_not, Nat.zero_add, Nat.le_refl, seg_all, true_and]
  exact ⟨fun ha => ⟨⟨a0, ha⟩, hf, fun ys hy => by have := hnext _ rfl ha ys hy; simpa only [true_and] using this⟩, hend⟩
 ·rw [v37C1]
  simp only [fork_iff, req_iff, decide_eq_true_eq, decide_eq_false_iff_not, Nat.zero_add, Nat.le_refl, seg_all, true_and]
  exact ⟨fun ha => ⟨⟨a0, ha⟩, hf, fun ys hy => by have := hnext _ rfl ha ys hy; simpa only [true_and] using this⟩, hend⟩
 ·rw [v37C2]
  simp only [fork_iff, req_iff, decide_eq_true_eq, decide_eq_false_iff_not, Nat.zero_add, Nat.le_refl, seg_all, true_and]
  exact ⟨fun ha => ⟨⟨a0, ha⟩, hf, fun ys hy => by have := hnext _ rfl ha ys hy; simpa only [true_and] using this⟩, hend⟩
theorem ok37C : Lp2Ok Try.prog 37 2 lc37c := lp2_of (n := 5) (ex := fun _ => some (sh37ce, 2)) (m := fun (_, _, _, _, _, _, cs, _, a, _) => mL cs a) (good2_nilB _ []) fun (cs0, pl, j, o, m, i, cs, k, a, ()) Q hx => by
 obtain ⟨⟨⟨g1, g2⟩, g3, g4, ⟨g5, g6⟩, g7⟩, hQ⟩ := hx
 have g3 : k = (cs.length : Int) := g3
 subst g3
 exact h37C cs0 cs pl j o m i a Q g1 g2 g4 g5 g6 g7 hQ
theorem rows_step {cs : List R4} {i m : Int} (h0 : 0 <= i) (h : i < m) : rowsT cs i m = colT cs i :: rowsT cs (i + 1) m := by
 unfold rowsT
 rw [show (m - i).toNat = (m - (i + 1)).toNat + 1 by omega, List.range'_succ, List.map_cons, show (i + 1).toNat = i.toNat + 1 by omega]
 rw [show ((i.toNat : Nat) : Int) = i by omega]; rfl
theorem rows_end {cs : List R4} {i m : Int} (h : ¬ i < m) : rowsT cs i m = [] := by
 unfold rowsT
 rw [show (m - i).toNat = 0 by omega]; rfl
theorem h37B (cs : List R4) (pl : List (List Int)) (m i : Int) (Q : AX -> St -> Prop) (hl : cs.length <= 12) (i0 : 0 <= i) (i1 : i <= m) (m1 : m <= 3) (hp : (pl.length : Int) <= i) (hQ : Q (.exit 2) (stS 1 sh37be (pl ++ rowsT cs i m, ()))) :
  xloop2 Try.prog { nm := true, fz := true, l2 := [(37, 2, lc37c)] } 5 37 1 lc37b (fun _ => some (sh37be, 1)) (fun (_, _, m, i, _) => (m - i).toNat) (cs, pl, m, i, ()) Q := by
 rw [v37B]
 simp only [fork_iff, req_iff, decide_eq_true_eq, decide_eq_false_iff_not, Nat.zero_add, Nat.le_refl, seg_all, true_and, List.drop_zero, List.nil_append]
 refine ⟨fun hi => ?_, fun hi => ?_⟩
 ·rw [rows_step i0 hi] at hQ
  refine ⟨⟨⟨i0, by omega⟩, hl, ⟨Int.le_refl (0 : Int), Int.natCast_nonneg _⟩, Int.le_refl (0 : Int)⟩, ?_, fun ys hy => ?_⟩
  ·simp only [fitsN, Bool.and_eq_true, Nat.ble_eq]; unfold maxLen; omega
  ·have hyl : ys.length = pl.length + 1 := by rw [hy, List.length_append]; rfl
   rw [<- hyl, seg_all]
   refine ⟨inR_i64.2 (by omega), Nat.le_refl _, by omega, ⟨⟨hl, ⟨by show (0 : Int) <= i + 1; omega, by show i + 1 <= m; omega, m1⟩, by show (ys.length : Int) <= i + 1; omega⟩, ?_⟩⟩
   show Q (.exit 2) (stS 1 sh37be (ys ++ rowsT cs (i + 1) m, ()))
   rw [hy, List.append_assoc]; exact hQ
 ·rw [rows_end hi, List.append_nil] at hQ; exact hQ
theorem ok37B : Lp2Ok Try.prog 37 1 lc37b := lp2_of (n := 5) (ex := fun _ => some (sh37be, 1)) (m := fun (_, _, m, i, _) => (m - i).toNat) ((good2_nilB _ []).addL2 ok37C) fun (cs, pl, m, i, ()) Q hx => by
 obtain ⟨⟨g1, ⟨g2, g3, g4⟩, g5⟩, hQ⟩ := hx
 exact h37B cs pl m i Q g1 g2 g3 g4 g5 hQ
theorem ok37 : FnOk Try.prog 37 fc37 := fn1_of (n := 5) (((good2_nilB _ []).addL2 ok37B).addL2 ok37L) fun (n, ()) K hx => by
 obtain ⟨-, hK⟩ := hx
 show xfn1 Try.prog { nm := true, fz := true, l2 := [(37, 0, lc37), (37, 1, lc37b)] } 5 37 fc37 (n, ()) K
 rw [v37F]
 simp only [fork_iff, req_iff, decide_eq_true_eq, decide_eq_false_iff_not, Bool.not_eq_true', Bool.not_eq_false', Nat.zero_add, Nat.le_refl, seg_all, true_and, List.nil_append]
 have hno : ¬ ((3 : Int) <= n /\ n <= (12 : Int)) -> K ([], 7, ()) := fun h => hK [] 7 (by rw [if_neg h])
 refine ⟨fun h0 => ⟨fun h1 => hno fun h => h1 h.2, fun h1 => ?_⟩, fun h0 => hno fun h => h0 h.1⟩
 have h0 : (3 : Int) <= n := h0
 have h1 : n <= (12 : Int) := h1
 have hb := manyT_bd n
 have hl := (coins_at h0 h1).2.2
 exact ⟨⟨⟨h0, h1⟩, ⟨Int.le_refl (0 : Int), by show (0 : Int) <= manyT n; omega⟩, rfl⟩, ⟨by show (coinsT n (manyT n)).length <= 12; rw [hl]; omega, ⟨Int.le_refl (0 : Int), by show (0 : Int) <= manyT n; omega, hb.2⟩, Int.le_refl (0 : Int)⟩, hK _ _ (by rw [if_pos ⟨h0, h1⟩]; rfl)⟩
end Go.P8
