/- Audits: what is missed, and the worst loss: the code keeps its contracts. No conditions. -/
import Derived.Test.YtfbbpilflbpifaaAudS
set_option linter.constructorNameAsVariable false
set_option linter.unusedVariables false
set_option linter.unusedSimpArgs false
set_option maxRecDepth 100000
set_option maxHeartbeats 4000000
namespace Go.P10
open Go.Lom Go.Proofs Go
theorem tri_enc (a : Au) : TS.enc (a, triC) = [.rl I a.1, .rl I a.2.1, .int .i64 a.2.2.1, .int .i64 a.2.2.2] ++ triC.map (AV.int .i64) := rfl
theorem tri_at {a : Au} {x y : Int} (hx : 0 ≤ x ∧ x < 9) (hy : 0 ≤ y ∧ y < 9) :
    selOk .i64 (TS.enc (a, triC)) (addN (4 + x.toNat * 9) y.toNat) = true ∧ selI (TS.enc (a, triC)) (addN (4 + x.toNat * 9) y.toNat) = chs x y := by
  rw [addN_eq, tri_enc]
  have hl : triC.length = 81 := rfl
  have hk : (9 * x + y).toNat < triC.length := by omega
  have e1 : 4 + x.toNat * 9 + y.toNat = 4 + (9 * x + y).toNat := by omega
  rw [e1]
  have e2 : (triC.map (AV.int .i64))[(9 * x + y).toNat]? = some (.int .i64 (triC[(9 * x + y).toNat])) := by rw [List.getElem?_map, List.getElem?_eq_getElem hk]; rfl
  have e3 : ([.rl I a.1, .rl I a.2.1, .int .i64 a.2.2.1, .int .i64 a.2.2.2] ++ triC.map (AV.int .i64))[4 + (9 * x + y).toNat]? = some (AV.int .i64 (triC[(9 * x + y).toNat])) := by
    rw [List.getElem?_append_right (by simp), ← e2]; congr 1; simp
  constructor
  · unfold selOk; rw [e3]; rfl
  · unfold selI chs
    rw [List.getD_eq_getElem?_getD, List.getElem?_map, e3, List.getD_eq_getElem?_getD, List.getElem?_eq_getElem hk]; rfl
theorem chs_bd (x y : Int) : 0 ≤ chs x y ∧ chs x y ≤ 70 := by
  unfold chs
  by_cases h : (9 * x + y).toNat < triC.length
  · have : ∀ z ∈ triC, 0 ≤ z ∧ z ≤ 70 := by decide
    exact this _ (getD_mem h 0)
  · rw [List.getD_eq_getElem?_getD, List.getElem?_eq_none (by omega)]
    exact ⟨Int.le_refl 0, by decide⟩
theorem each_at : ∀ {st l : List Int}, eachB st l = true → l.length = st.length ∧ ∀ k : Nat, k < st.length → 0 ≤ l.getD k 0 ∧ l.getD k 0 ≤ st.getD k 0
  | [], [], _ => ⟨rfl, fun k hk => by simp at hk⟩
  | [], _ :: _, h => by simp [eachB] at h
  | _ :: _, [], h => by simp [eachB] at h
  | n :: st, x :: l, h => by
    simp only [eachB, Bool.and_eq_true, decide_eq_true_eq] at h
    obtain ⟨h1, h2⟩ := each_at h.2
    refine ⟨by simp [h1], fun k hk => ?_⟩
    cases k with
    | zero => exact h.1
    | succ k =>
      simp only [List.getD_cons_succ]
      exact h2 k (by simpa using hk)
theorem each_of : ∀ {st l : List Int}, l.length = st.length → (∀ k : Nat, k < st.length → 0 ≤ l.getD k 0 ∧ l.getD k 0 ≤ st.getD k 0) → eachB st l = true
  | [], [], _, _ => rfl
  | [], _ :: _, h, _ => by simp at h
  | _ :: _, [], h, _ => by simp at h
  | n :: st, x :: l, h, h2 => by
    simp only [eachB, Bool.and_eq_true, decide_eq_true_eq]
    refine ⟨h2 0 (by simp), each_of (by simpa using h) fun k hk => ?_⟩
    have := h2 (k + 1) (by simpa using hk)
    simpa only [List.getD_cons_succ] using this
theorem mul_bd {a b A B : Int} (h0 : 0 ≤ a) (h1 : a ≤ A) (h2 : 0 ≤ b) (h3 : b ≤ B) : 0 ≤ a * b ∧ a * b ≤ A * B :=
  ⟨Int.mul_nonneg h0 h2, Int.mul_le_mul h1 h3 h2 (by omega)⟩
theorem pow70 {i : Int} (h0 : 0 ≤ i) (h1 : i ≤ 4) : (70 : Int) ^ i.toNat ≤ 24010000 := by
  have : i.toNat = 0 ∨ i.toNat = 1 ∨ i.toNat = 2 ∨ i.toNat = 3 ∨ i.toNat = 4 := by omega
  rcases this with h | h | h | h | h <;> rw [h] <;> decide
theorem h65L (sa lo : List Int) (a : Au) (x y : Int) (i : Int) (Q : LQ) (h1 : okSt a.1) (h2 : eachB a.1 sa = true) (h3 : eachB a.1 lo = true) (h4 : 0 ≤ i) (h5 : i ≤ a.1.length) (h6 : 0 ≤ x ∧ x ≤ 70 ^ i.toNat) (h7 : 0 ≤ y ∧ y ≤ 70 ^ i.toNat)
    (hQ : ∀ p q, p = x * prodM (a.1.drop i.toNat) (sa.drop i.toNat) (lo.drop i.toNat) → q = y * allM (a.1.drop i.toNat) (sa.drop i.toNat) → Q (.exit 0) (stS 0 sh65e (p, q, ()))) :
    xloop2 Try.prog { nm := true } 5 65 0 lc65 (fun _ => some (sh65e, 0)) (fun (_, _, _, _, _, l, _, i, _) => mL l i) (sa, lo, (a, triC), x, y, a.1, (a.1.length : Int), i, ()) Q := by
  rw [v65L]
  have hl := h1.1
  refine fork_iff.2 ⟨fun hi => ?_, fun hi => ?_⟩
  · have hi : i < a.1.length := of_decide_eq_true hi
    obtain ⟨s1, s2⟩ := each_at h2
    obtain ⟨l1, l2⟩ := each_at h3
    have hn : i.toNat < a.1.length := by omega
    have s2 := s2 i.toNat hn
    have l2 := l2 i.toNat hn
    have n2 := h1.2 _ (getD_mem hn 0)
    rw [drop_step 0 h4 hi, drop_step 0 h4 (show i < sa.length by omega), drop_step 0 h4 (show i < lo.length by omega)] at hQ
    simp only [prodM, allM] at hQ
    have t1 := tri_at (a := a) (x := a.1.getD i.toNat 0 - lo.getD i.toNat 0) (y := sa.getD i.toNat 0) ⟨by omega, by omega⟩ ⟨by omega, by omega⟩
    have t2 := tri_at (a := a) (x := a.1.getD i.toNat 0) (y := sa.getD i.toNat 0) ⟨by omega, by omega⟩ ⟨by omega, by omega⟩
    have b1 := chs_bd (a.1.getD i.toNat 0 - lo.getD i.toNat 0) (sa.getD i.toNat 0)
    have b2 := chs_bd (a.1.getD i.toNat 0) (sa.getD i.toNat 0)
    have hp := pow70 h4 (by omega)
    have hp1 : (70 : Int) ^ (i + 1).toNat = 70 ^ i.toNat * 70 := by rw [show (i + 1).toNat = i.toNat + 1 by omega, Int.pow_succ]
    generalize a.1.getD i.toNat 0 = n at *
    generalize sa.getD i.toNat 0 = s at *
    generalize lo.getD i.toNat 0 = o at *
    rw [t1.1, t1.2, t2.1, t2.2]
    generalize chs (n - o) s = c1 at *
    generalize chs n s = c2 at *
    have m1 := mul_bd h6.1 h6.2 b1.1 b1.2
    have m2 := mul_bd h7.1 h7.2 b2.1 b2.2
    refine req_iff.2 ⟨decide_eq_true ⟨h4, hi⟩, req_iff.2 ⟨decide_eq_true ⟨h4, by omega⟩, req_iff.2 ⟨inR_i64.2 (by omega), req_iff.2 ⟨decide_eq_true ⟨h4, by omega⟩, req_iff.2 ⟨decide_eq_true ⟨by omega, by omega⟩, req_iff.2 ⟨decide_eq_true ⟨by omega, by omega⟩, req_iff.2 ⟨rfl,
      req_iff.2 ⟨inR_i64.2 (by omega), req_iff.2 ⟨decide_eq_true ⟨h4, by omega⟩, req_iff.2 ⟨decide_eq_true ⟨by omega, by omega⟩, req_iff.2 ⟨decide_eq_true ⟨by omega, by omega⟩, req_iff.2 ⟨rfl, req_iff.2 ⟨inR_i64.2 (by omega), req_iff.2 ⟨inR_i64.2 (by omega), mL_lt hi, ?_⟩⟩⟩⟩⟩⟩⟩⟩⟩⟩⟩⟩⟩⟩
    refine ⟨⟨h1, h2, h3, rfl, rfl, rfl, ⟨show (0 : Int) ≤ i + 1 by omega, show i + 1 ≤ (a.1.length : Int) by omega⟩, ⟨m1.1, ?_⟩, ⟨m2.1, ?_⟩⟩, fun p q hp hq => hQ p q ?_ ?_⟩
    · show x * c1 ≤ (70 : Int) ^ (i + 1).toNat
      rw [hp1]; exact m1.2
    · show y * c2 ≤ (70 : Int) ^ (i + 1).toNat
      rw [hp1]; exact m2.2
    · rw [hp, Int.mul_assoc]
    · rw [hq, Int.mul_assoc]
  · have hi : ¬ i < a.1.length := of_decide_eq_false hi
    rw [drop_end hi] at hQ
    simp only [prodM, allM] at hQ
    exact hQ x y (by rw [Int.mul_one]) (by rw [Int.mul_one])
theorem ok65L : Lp2Ok Try.prog 65 0 lc65 := lp2_of (n := 5) (ex := fun _ => some (sh65e, 0)) (m := fun (_, _, _, _, _, l, _, i, _) => mL l i) (good2_nilN _) fun (sa, lo, (a, tri), x, y, l, m, i, ()) Q hx => by
  obtain ⟨⟨h1, h2, h3, hl, ht, hm, h5, h6, h7⟩, hQ⟩ := hx
  have hl : a.1 = l := hl
  have ht : tri = triC := ht
  subst hl ht
  have hm : m = (a.1.length : Int) := hm
  subst hm
  exact h65L sa lo a x y i Q h1 h2 h3 h5.1 h5.2 h6 h7 hQ
theorem ok65 : FnOk Try.prog 65 fc65 := fn1_of (n := 5) ((good2_nilN _).addL2 ok65L) fun ((a, tri), sa, lo, ()) K hx => by
  obtain ⟨⟨h1, h2, h3, ht⟩, hK⟩ := hx
  have ht : tri = triC := ht
  subst ht
  have hK : ∀ p q, p = prodM a.1 sa lo → q = allM a.1 sa → K (p, q, ()) := hK
  rw [v65F]
  refine ⟨⟨h1, h2, h3, rfl, rfl, rfl, ⟨Int.le_refl 0, show (0 : Int) ≤ (a.1.length : Int) by omega⟩, ⟨show (0 : Int) ≤ 1 by decide, show (1 : Int) ≤ 70 ^ 0 by decide⟩, ⟨show (0 : Int) ≤ 1 by decide, show (1 : Int) ≤ 70 ^ 0 by decide⟩⟩, fun p q hp hq => hK p q ?_ ?_⟩
  · rw [hp, Int.one_mul]; rfl
  · rw [hq, Int.one_mul]; rfl
theorem ok58 : F2Ok Try.prog 58 fc58 := fn2_of (n := 5) (good2_nil _) fun (l, ()) K hx => by
  obtain ⟨hl, hK⟩ := hx
  have hK : ∀ r : List Int, r = l → K ((), r, ()) := hK
  rw [v58F]
  refine fun b hb => fork_iff.2 ⟨fun h => hK [] (List.eq_nil_of_length_eq_zero (hb h)).symm, fun _ => ?_⟩
  rw [Nat.zero_add, List.nil_append]
  refine req_iff.2 ⟨fitsM (by omega), req_iff.2 ⟨by simp, ?_⟩⟩
  rw [seg_self]
  exact hK l rfl
theorem runW_app {st sa : List Int} {x : W3} {l m : List (List Int)} : runW st sa x (l ++ m) = runW st sa (runW st sa x l) m := List.foldl_append ..
theorem gWs_step {n : Int} {st l : List Int} {left i : Int} (h0 : 0 ≤ i) (h1 : i < min n left + 1) : gWs n st l left i = gW st (l ++ [i]) (left - i) ++ gWs n st l left (i + 1) := by
  unfold gWs
  rw [show (min n left).toNat + 1 - i.toNat = ((min n left).toNat + 1 - (i + 1).toNat) + 1 by omega, List.range'_succ, List.flatMap_cons, show i.toNat + 1 = (i + 1).toNat by omega, show ((i.toNat : Nat) : Int) = i by omega]
theorem gWs_end {n : Int} {st l : List Int} {left i : Int} (h0 : 0 ≤ i) (hm : 0 ≤ min n left) (h1 : ¬ i < min n left + 1) : gWs n st l left i = [] := by
  unfold gWs
  rw [show (min n left).toNat + 1 - i.toNat = 0 by omega]; rfl
theorem gW_gWs {n : Int} {st l : List Int} {left : Int} : gW (n :: st) l left = gWs n st l left 0 := by
  unfold gWs
  rw [gW, List.range_eq_range']; rfl
theorem okP_snoc {st zs : List Int} {n : Nat} {i : Int} {ys : List Int} (h : okP st zs n) (hn : n < st.length) (h0 : 0 ≤ i) (h1 : i ≤ st.getD n 0) (hy : ys.take (n + 1) = zs.take n ++ [i]) : okP st ys (n + 1) := by
  obtain ⟨h2, h3, h4⟩ := h
  have hl : (ys.take (n + 1)).length = n + 1 := by rw [hy]; simp; omega
  have hyl : n + 1 ≤ ys.length := by rw [List.length_take] at hl; omega
  refine ⟨hyl, by omega, ?_⟩
  rw [hy]
  obtain ⟨e1, e2⟩ := each_at h4
  refine each_of (by simp; omega) fun k hk => ?_
  have hkn : k < n + 1 := by rw [List.length_take] at hk; omega
  have g1 : (st.take (n + 1)).getD k 0 = st.getD k 0 := by
    rw [List.getD_eq_getElem?_getD, List.getElem?_take, if_pos hkn, ← List.getD_eq_getElem?_getD]
  rw [g1]
  by_cases e : k < n
  · have := e2 k (by rw [List.length_take]; omega)
    have g2 : (st.take n).getD k 0 = st.getD k 0 := by rw [List.getD_eq_getElem?_getD, List.getElem?_take, if_pos e, ← List.getD_eq_getElem?_getD]
    have g3 : (zs.take n ++ [i]).getD k 0 = (zs.take n).getD k 0 := by
      rw [List.getD_eq_getElem?_getD, List.getElem?_append_left (by rw [List.length_take]; omega), ← List.getD_eq_getElem?_getD]
    rw [g2] at this
    rw [g3]; exact this
  · have ek : k = n := by omega
    subst ek
    have g3 : (zs.take k ++ [i]).getD k 0 = i := by
      rw [List.getD_eq_getElem?_getD, List.getElem?_append_right (by rw [List.length_take]; omega), List.length_take, show k - min k zs.length = 0 by omega]; rfl
    rw [g3]; exact ⟨h0, h1⟩
theorem seg_take {α : Type} {z : List α} {n : Nat} : seg 0 n z = z.take n := by simp [seg]
theorem take_take_of {α : Type} {z ys zs : List α} {n : Nat} (h : z.take (n + 1) = ys.take (n + 1)) {i : α} (hy : ys.take (n + 1) = zs.take n ++ [i]) (hn : n ≤ zs.length) : z.take n = zs.take n := by
  have : (z.take (n + 1)).take n = (zs.take n ++ [i]).take n := by rw [h, hy]
  rw [List.take_take, show min n (n + 1) = n by omega] at this
  rw [this, List.take_append_of_le_length (by rw [List.length_take]; omega), List.take_take, Nat.min_self]
theorem h94L (c : Nat) (z : List Int) (n : Nat) (left : Int) (a : Au) (sa b : List Int) (mo al sum i : Int) (Q : LQ) (h1 : okSt a.1) (h2 : eachB a.1 sa = true) (h3 : okP a.1 z n) (h4 : n < a.1.length) (h5 : a.1.length - n ≤ c) (h6 : 0 ≤ left ∧ left ≤ 1000) (h7 : 0 ≤ sum) (h8 : 0 ≤ i) (h9 : i ≤ min (a.1.getD n 0) left + 1)
    (hQ : ∀ (z' b1 : List Int) (m1 a1 : Int), z'.take n = z.take n → n ≤ z'.length → (b1, m1, a1) = runW a.1 sa (b, mo, al) (gWs (a.1.getD n 0) (a.1.drop (n + 1)) (z.take n) left i) → Q (.exit 0) (stS 11 sh94e ((z', n), (a, triC), (((a, triC), sa, b1, m1, a1, ()), (rngOf Try.prog 67 0)), sum, ((), (), (), (), (), ()), ()))) :
    xloop2 Try.prog { nm := true, ip := true, f2 := [(94, fc94 c)] } 5 94 0 (lc94 c) (fun _ => some (sh94e, 11)) (fun (_, _, _, _, _, _, m, i, _) => (m - i).toNat) ((z, n), left, (a, triC), (((a, triC), sa, b, mo, al, ()), (rngOf Try.prog 67 0)), sum, ((), (), (), (), (), ()), min (a.1.getD n 0) left + 1, i, ()) Q := by
  rw [v94L]
  have hst := h1.1
  have hnv := h1.2 _ (getD_mem h4 0)
  have hz := h3.1
  generalize hN : a.1.getD n 0 = N at *
  refine fork_iff.2 ⟨fun hi => ?_, fun hi => ?_⟩
  · have hi : i < min N left + 1 := of_decide_eq_true hi
    rw [gWs_step h8 hi] at hQ
    have road : ∀ (ys z0 : List Int), ys.take (n + 1) = z.take n ++ [i] → (∀ z' : List Int, z'.take (n + 1) = ys.take (n + 1) → n + 1 ≤ z'.length → True) →
        req (Nat.ble (n + 1) ys.length) ((okSt a.1 ∧ triC = triC ∧ (a, triC) = (a, triC) ∧ rngOf Try.prog 67 0 = rngOf Try.prog 67 0 ∧ eachB a.1 sa = true ∧ okP a.1 ys (n + 1) ∧ a.1.length - (n + 1) < c ∧ ((0 : Int) ≤ left - i ∧ left - i ≤ 1000) ∧ (0 : Int) ≤ sum) ∧
          ∀ (z' b1 : List Int) (m1 a1 : Int), z'.take (n + 1) = ys.take (n + 1) → n + 1 ≤ z'.length → (b1, m1, a1) = runW a.1 sa (b, mo, al) (gW (a.1.drop (n + 1)) (ys.take (n + 1)) (left - i)) →
            inR .i64 (i + 1) = true ∧ ((min N left + 1) - (i + 1)).toNat < ((min N left + 1) - i).toNat ∧ (Nat.ble n z'.length = true ∧ LC2.spec (lc94 c) ((z', n), left, (a, triC), (((a, triC), sa, b1, m1, a1, ()), (rngOf Try.prog 67 0)), sum, ((), (), (), (), (), ()), min N left + 1, i + 1, ()) Q) ∧
              (LC2.spec (lc94 c) ((z, n), left, (a, triC), (((a, triC), sa, b1, m1, a1, ()), (rngOf Try.prog 67 0)), sum, ((), (), (), (), (), ()), min N left + 1, i + 1, ()) Q)) := by
      intro ys z0 hys _
      have hp := okP_snoc h3 h4 h8 (show i ≤ a.1.getD n 0 by rw [hN]; omega) hys
      refine req_iff.2 ⟨Nat.ble_eq_true_of_le hp.1, ⟨h1, rfl, rfl, rfl, h2, hp, by omega, ⟨by omega, by omega⟩, h7⟩, fun z' b1 m1 a1 e1 e2 e3 => ?_⟩
      rw [hys] at e3
      have ez := take_take_of e1 hys hz
      have fin : ∀ z2 : List Int, z2.take n = z.take n → n ≤ z2.length → LC2.spec (lc94 c) ((z2, n), left, (a, triC), (((a, triC), sa, b1, m1, a1, ()), (rngOf Try.prog 67 0)), sum, ((), (), (), (), (), ()), min N left + 1, i + 1, ()) Q := fun z2 g1 g2 =>
        ⟨⟨h1, rfl, rfl, rfl, h2, ⟨g2, Nat.le_of_lt h4, show eachB (a.1.take n) (z2.take n) = true by rw [g1]; exact h3.2.2⟩, h4, h5, h6, h7, show min N left + 1 = min (a.1.getD n 0) left + 1 by rw [hN], ⟨show (0 : Int) ≤ i + 1 by omega, show i + 1 ≤ min N left + 1 by omega⟩⟩, fun z' b2 m2 a2 k1 k2 k3 => hQ z' b2 m2 a2 (by rw [← g1]; exact k1) k2 (by
          have k3 : (b2, m2, a2) = runW a.1 sa (b1, m1, a1) (gWs (a.1.getD n 0) (a.1.drop (n + 1)) (z2.take n) left (i + 1)) := k3
          rw [runW_app, ← e3, k3, g1, hN])⟩
      exact ⟨inR_i64.2 (by omega), by omega, ⟨Nat.ble_eq_true_of_le (by omega), fin z' ez (by omega)⟩, fin z rfl hz⟩
    refine req_iff.2 ⟨inR_i64.2 (by omega), rfl, req_iff.2 ⟨decide_eq_true (by omega), req_iff.2 ⟨fitsM (by omega), fun ys hys => ⟨rfl, ?_⟩, fun ys hys => ⟨rfl, ?_⟩⟩⟩⟩
    · rw [Nat.zero_add] at hys
      have ht : ys.take (n + 1) = z.take n ++ [i] := by
        rw [hys, List.append_assoc, ← List.append_assoc, List.take_append_of_le_length (by simp; omega), List.take_of_length_le (by simp; omega)]
      obtain ⟨r1, r2, r3⟩ := req_iff.1 (road ys ys ht fun _ _ _ => trivial)
      refine req_iff.2 ⟨r1, r2, fun z' b1 m1 a1 e1 e2 e3 => ?_⟩
      obtain ⟨k1, k2, k3, _⟩ := r3 z' b1 m1 a1 e1 e2 e3
      exact req_iff.2 ⟨k1, req_iff.2 ⟨k3.1, k2, k3.2⟩⟩
    · rw [seg_take] at hys
      have ht : ys.take (n + 1) = z.take n ++ [i] := by rw [hys, List.take_of_length_le (by simp; omega)]
      obtain ⟨r1, r2, r3⟩ := req_iff.1 (road ys ys ht fun _ _ _ => trivial)
      refine req_iff.2 ⟨r1, r2, fun z' b1 m1 a1 e1 e2 e3 => ?_⟩
      obtain ⟨k1, k2, _, k4⟩ := r3 z' b1 m1 a1 e1 e2 e3
      exact req_iff.2 ⟨k1, req_iff.2 ⟨Nat.ble_eq_true_of_le hz, k2, k4⟩⟩
  · have hi : ¬ i < min N left + 1 := of_decide_eq_false hi
    refine req_iff.2 ⟨Nat.ble_eq_true_of_le hz, ?_⟩
    exact hQ z b mo al rfl hz (by rw [gWs_end h8 (by omega) hi]; rfl)
theorem ok94L (c : Nat) (hc : F2Ok Try.prog 94 (fc94 c)) : Lp2Ok Try.prog 94 0 (lc94 c) := lp2_of (n := 5) (ex := fun _ => some (sh94e, 11)) (m := fun (_, _, _, _, _, _, m, i, _) => (m - i).toNat) ((good2_nilI _).addF2 hc) fun ((z, n), left, (a, tri), ((s, sa, b, mo, al, ()), rg), sum, ((), (), (), (), (), ()), m, i, ()) Q hx => by
  obtain ⟨⟨h1, ht, hs, hr, h2, h3, h4, h5, h6, h7, hm, h8⟩, hQ⟩ := hx
  have ht : tri = triC := ht
  subst ht
  have hs : s = (a, triC) := hs
  have hr : rg = rngOf Try.prog 67 0 := hr
  subst hs hr
  have hm : m = min (a.1.getD n 0) left + 1 := hm
  subst hm
  exact h94L c z n left a sa b mo al sum i Q h1 h2 h3 h4 h5 h6 h7 h8.1 h8.2 hQ
theorem h94F (c : Nat) (z : List Int) (n : Nat) (left : Int) (a : Au) (sa b : List Int) (mo al sum : Int) (K : post94.den → Prop) (h1 : okSt a.1) (h2 : eachB a.1 sa = true) (h3 : okP a.1 z n) (h5 : a.1.length - n < c + 1) (h6 : 0 ≤ left ∧ left ≤ 1000) (h7 : 0 ≤ sum)
    (hK : ∀ (z' b1 : List Int) (m1 a1 : Int), z'.take n = z.take n → n ≤ z'.length → (b1, m1, a1) = runW a.1 sa (b, mo, al) (gW (a.1.drop n) (z.take n) left) → K ((z', n), (), (a, triC), (((a, triC), sa, b1, m1, a1, ()), (rngOf Try.prog 67 0)), sum, ((), (), (), (), (), ()), true, ())) :
    xfn2 Try.prog { nm := true, ip := true, f := [(65, fc65)], f2 := [(58, fc58)], l2 := [(94, 0, lc94 c)] } 5 94 (fc94 (c + 1)) ((z, n), left, (a, triC), (((a, triC), sa, b, mo, al, ()), (rngOf Try.prog 67 0)), sum, ((), (), (), (), (), ()), ()) K := by
  rw [v94F]
  have hz := h3.1
  have hst := h1.1
  refine fork_iff.2 ⟨fun hn => ?_, fun hn => ?_⟩
  · have hn : n = a.1.length := by have : ((n : Nat) : Int) = (a.1.length : Int) := by simpa using hn
                                   omega
    have hd : a.1.drop n = [] := List.drop_eq_nil_of_le (by omega)
    rw [hd] at hK
    simp only [gW] at hK
    have hze : eachB a.1 (z.take n) = true := by
      have := h3.2.2
      rwa [hn, List.take_length, ← hn] at this
    refine fork_iff.2 ⟨fun hl => ?_, fun hl => ?_⟩
    · have hl : left > 0 := of_decide_eq_true hl
      rw [if_pos hl] at hK
      exact req_iff.2 ⟨Nat.ble_eq_true_of_le hz, hK z b mo al rfl hz rfl⟩
    · have hl : ¬ left > 0 := of_decide_eq_false hl
      rw [if_neg hl] at hK
      rw [seg_take]
      refine req_iff.2 ⟨decide_eq_true (by omega), ⟨h1, h2, hze, rfl⟩, fun p q hp hq => ?_⟩
      subst hp hq
      refine fork_iff.2 ⟨fun hc => ?_, fun hc => ?_⟩
      · have hc : prodM a.1 sa (z.take n) > mo := of_decide_eq_true hc
        refine req_iff.2 ⟨decide_eq_true (by omega), by rw [List.length_take]; omega, fun r hr => req_iff.2 ⟨Nat.ble_eq_true_of_le hz, req_iff.2 ⟨by simp, ?_⟩⟩⟩
        rw [seg_self]
        refine hK z r _ _ rfl hz ?_
        show _ = updW a.1 sa (b, mo, al) (z.take n)
        unfold updW
        rw [if_pos hc, hr]
      · have hc : ¬ prodM a.1 sa (z.take n) > mo := of_decide_eq_false hc
        refine req_iff.2 ⟨Nat.ble_eq_true_of_le hz, hK z b mo al rfl hz ?_⟩
        show _ = updW a.1 sa (b, mo, al) (z.take n)
        unfold updW
        rw [if_neg hc]
  · have hne : n ≠ a.1.length := fun e => by rw [e] at hn; simp at hn
    have hlt : n < a.1.length := by have := h3.2.1; omega
    have hnv := h1.2 _ (getD_mem hlt 0)
    have hd : a.1.drop n = a.1.getD n 0 :: a.1.drop (n + 1) := by
      rw [List.drop_eq_getElem_cons hlt, List.getD_eq_getElem?_getD, List.getElem?_eq_getElem hlt]; rfl
    rw [hd, gW_gWs] at hK
    have hmin : (if left < a.1.getD n 0 then left else a.1.getD n 0) + 1 = min (a.1.getD n 0) left + 1 := by split <;> omega
    refine req_iff.2 ⟨decide_eq_true ⟨by omega, by omega⟩, fork_iff.2 ⟨fun _ => ?_, fun hs => absurd h7 (of_decide_eq_false hs)⟩⟩
    rw [hmin]
    refine req_iff.2 ⟨inR_i64.2 (by omega), req_iff.2 ⟨Nat.ble_eq_true_of_le hz, ⟨h1, rfl, rfl, rfl, h2, h3, hlt, by omega, h6, h7, rfl, Int.le_refl 0, show (0 : Int) ≤ min (a.1.getD n 0) left + 1 by omega⟩, fun z' b1 m1 a1 e1 e2 e3 => req_iff.2 ⟨Nat.ble_eq_true_of_le e2, hK z' b1 m1 a1 e1 e2 e3⟩⟩⟩
theorem ok94 : ∀ c, F2Ok Try.prog 94 (fc94 c)
  | 0 => fun x K hx => by
    obtain ⟨⟨_, _, _, _, _, _, h, _⟩, _⟩ := hx
    exact absurd h (Nat.not_lt_zero _)
  | c + 1 => fn2_of (n := 5) ((((good2_nilI _).addL2 (ok94L c (ok94 c))).addF2 ok58).addF ok65) fun ((z, n), left, (a, tri), ((s, sa, b, mo, al, ()), rg), sum, ((), (), (), (), (), ()), ()) K hx => by
    obtain ⟨⟨h1, ht, hs, hr, h2, h3, h5, h6, h7⟩, hK⟩ := hx
    have ht : tri = triC := ht
    subst ht
    have hs : s = (a, triC) := hs
    have hr : rg = rngOf Try.prog 67 0 := hr
    subst hs hr
    exact h94F c z n left a sa b mo al sum K h1 h2 h3 h5 h6 h7 hK
theorem ok67 : FnOk Try.prog 67 fc67 := fn1_of (n := 5) ((good2_nilI _).addF2 (ok94 10)) fun ((a, tri), sa, ()) K hx => by
  obtain ⟨⟨h1, ht, h2, h3⟩, hK⟩ := hx
  have ht : tri = triC := ht
  subst ht
  have hK : ∀ b mo al, (b, mo, al) = worstF a sa → K (b, mo, al, ()) := hK
  have h3 : 0 ≤ a.2.2.1 ∧ a.2.2.1 ≤ 1000 := h3
  have h1 : okSt a.1 := h1
  have hst := h1.1
  rw [v67F]
  refine ⟨⟨h1, rfl, rfl, rfl, h2, ⟨Nat.le_refl 0, Nat.zero_le _, rfl⟩, by omega, h3, h3.1⟩, fun z' b1 m1 a1 e1 e2 e3 => ⟨rfl, rfl, rfl, hK b1 m1 a1 e3⟩⟩
end Go.P10
