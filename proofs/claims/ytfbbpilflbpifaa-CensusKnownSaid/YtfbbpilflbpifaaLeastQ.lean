/- The cheapest sample: all samples are gone through. No conditions. -/
import Derived.Test.YtfbbpilflbpifaaLeastP
set_option linter.constructorNameAsVariable false
set_option linter.unusedVariables false
set_option linter.unusedSimpArgs false
set_option maxRecDepth 100000
set_option maxHeartbeats 4000000
namespace Go.P10
open Go.Lom Go.Proofs Go
theorem runL_app {a : Au} {x : L2} {l m : List (List Int)} : runL a x (l ++ m) = runL a (runL a x l) m := List.foldl_append ..
theorem gAs_step {n : Int} {st l : List Int} {i : Int} (h0 : 0 ≤ i) (h1 : i < n + 1) : gAs n st l i = gA st (l ++ [i]) ++ gAs n st l (i + 1) := by
  unfold gAs
  rw [show n.toNat + 1 - i.toNat = (n.toNat + 1 - (i + 1).toNat) + 1 by omega, List.range'_succ, List.flatMap_cons, show i.toNat + 1 = (i + 1).toNat by omega, show ((i.toNat : Nat) : Int) = i by omega]
theorem gAs_end {n : Int} {st l : List Int} {i : Int} (h0 : 0 ≤ i) (hm : 0 ≤ n) (h1 : ¬ i < n + 1) : gAs n st l i = [] := by
  unfold gAs
  rw [show n.toNat + 1 - i.toNat = 0 by omega]; rfl
theorem gA_gAs {n : Int} {st l : List Int} : gA (n :: st) l = gAs n st l 0 := by
  unfold gAs
  rw [gA, List.range_eq_range']; rfl
theorem h94bL (c : Nat) (z : List Int) (n : Nat) (left : Int) (a : Au) (b : List Int) (co i : Int) (Q : LQ) (h1 : okA a) (h3 : okP a.1 z n) (h4 : n < a.1.length) (h5 : a.1.length - n ≤ c) (h6 : -1 - 8 * (n : Int) ≤ left ∧ left < 0) (h8 : 0 ≤ i) (h9 : i ≤ a.1.getD n 0 + 1)
    (hQ : ∀ (z' b1 : List Int) (c1 : Int), z'.take n = z.take n → n ≤ z'.length → (b1, c1) = runL a (b, co) (gAs (a.1.getD n 0) (a.1.drop (n + 1)) (z.take n) i) → Q (.exit 0) (stS 10 sh94be ((z', n), (a, triC), ((a, b1, c1, (a, triC), ()), (rngOf Try.prog 16 0)), -1, ((), (), (), (), (), ()), ()))) :
    xloop2 Try.prog { nm := true, ip := true, f2 := [(94, fc94b c)] } 5 94 0 (lc94b c) (fun _ => some (sh94be, 10)) (fun (_, _, _, _, _, _, m, i, _) => (m - i).toNat) ((z, n), left, (a, triC), ((a, b, co, (a, triC), ()), (rngOf Try.prog 16 0)), -1, ((), (), (), (), (), ()), a.1.getD n 0 + 1, i, ()) Q := by
  rw [v94bL]
  have hst := h1.1.1
  have hnv := h1.1.2 _ (getD_mem h4 0)
  have hz := h3.1
  generalize hN : a.1.getD n 0 = N at *
  refine fork_iff.2 ⟨fun hi => ?_, fun hi => ?_⟩
  · have hi : i < N + 1 := of_decide_eq_true hi
    rw [gAs_step h8 hi] at hQ
    have road : ∀ (ys z0 : List Int), ys.take (n + 1) = z.take n ++ [i] → (∀ z' : List Int, z'.take (n + 1) = ys.take (n + 1) → n + 1 ≤ z'.length → True) →
        req (Nat.ble (n + 1) ys.length) ((okA a ∧ triC = triC ∧ a = a ∧ (a, triC) = (a, triC) ∧ rngOf Try.prog 16 0 = rngOf Try.prog 16 0 ∧ okP a.1 ys (n + 1) ∧ a.1.length - (n + 1) < c ∧ ((-1 : Int) - 8 * ((n + 1 : Nat) : Int) ≤ left - i ∧ left - i < 0) ∧ (-1 : Int) = -1) ∧
          ∀ (z' b1 : List Int) (c1 : Int), z'.take (n + 1) = ys.take (n + 1) → n + 1 ≤ z'.length → (b1, c1) = runL a (b, co) (gA (a.1.drop (n + 1)) (ys.take (n + 1))) →
            inR .i64 (i + 1) = true ∧ ((N + 1) - (i + 1)).toNat < ((N + 1) - i).toNat ∧ (Nat.ble n z'.length = true ∧ LC2.spec (lc94b c) ((z', n), left, (a, triC), ((a, b1, c1, (a, triC), ()), (rngOf Try.prog 16 0)), -1, ((), (), (), (), (), ()), N + 1, i + 1, ()) Q) ∧
              (LC2.spec (lc94b c) ((z, n), left, (a, triC), ((a, b1, c1, (a, triC), ()), (rngOf Try.prog 16 0)), -1, ((), (), (), (), (), ()), N + 1, i + 1, ()) Q)) := by
      intro ys z0 hys _
      have hp := okP_snoc h3 h4 h8 (show i ≤ a.1.getD n 0 by rw [hN]; omega) hys
      refine req_iff.2 ⟨Nat.ble_eq_true_of_le hp.1, ⟨h1, rfl, rfl, rfl, rfl, hp, by omega, ⟨by omega, by omega⟩, rfl⟩, fun z' b1 c1 e1 e2 e3 => ?_⟩
      rw [hys] at e3
      have ez := take_take_of e1 hys hz
      have fin : ∀ z2 : List Int, z2.take n = z.take n → n ≤ z2.length → LC2.spec (lc94b c) ((z2, n), left, (a, triC), ((a, b1, c1, (a, triC), ()), (rngOf Try.prog 16 0)), -1, ((), (), (), (), (), ()), N + 1, i + 1, ()) Q := fun z2 g1 g2 =>
        ⟨⟨h1, rfl, rfl, rfl, rfl, ⟨g2, Nat.le_of_lt h4, show eachB (a.1.take n) (z2.take n) = true by rw [g1]; exact h3.2.2⟩, h4, h5, h6, rfl, show N + 1 = a.1.getD n 0 + 1 by rw [hN], ⟨show (0 : Int) ≤ i + 1 by omega, show i + 1 ≤ N + 1 by omega⟩⟩, fun z' b2 c2 k1 k2 k3 => hQ z' b2 c2 (by rw [← g1]; exact k1) k2 (by
          have k3 : (b2, c2) = runL a (b1, c1) (gAs (a.1.getD n 0) (a.1.drop (n + 1)) (z2.take n) (i + 1)) := k3
          rw [runL_app, ← e3, k3, g1, hN])⟩
      exact ⟨inR_i64.2 (by omega), by omega, ⟨Nat.ble_eq_true_of_le (by omega), fin z' ez (by omega)⟩, fin z rfl hz⟩
    refine req_iff.2 ⟨inR_i64.2 (by omega), rfl, req_iff.2 ⟨decide_eq_true (by omega), req_iff.2 ⟨fitsM (by omega), fun ys hys => ⟨rfl, ?_⟩, fun ys hys => ⟨rfl, ?_⟩⟩⟩⟩
    · rw [Nat.zero_add] at hys
      have ht : ys.take (n + 1) = z.take n ++ [i] := by
        rw [hys, List.append_assoc, ← List.append_assoc, List.take_append_of_le_length (by simp; omega), List.take_of_length_le (by simp; omega)]
      obtain ⟨r1, r2, r3⟩ := req_iff.1 (road ys ys ht fun _ _ _ => trivial)
      refine req_iff.2 ⟨r1, r2, fun z' b1 c1 e1 e2 e3 => ?_⟩
      obtain ⟨k1, k2, k3, _⟩ := r3 z' b1 c1 e1 e2 e3
      exact req_iff.2 ⟨k1, req_iff.2 ⟨k3.1, k2, k3.2⟩⟩
    · rw [seg_take] at hys
      have ht : ys.take (n + 1) = z.take n ++ [i] := by rw [hys, List.take_of_length_le (by simp; omega)]
      obtain ⟨r1, r2, r3⟩ := req_iff.1 (road ys ys ht fun _ _ _ => trivial)
      refine req_iff.2 ⟨r1, r2, fun z' b1 c1 e1 e2 e3 => ?_⟩
      obtain ⟨k1, k2, _, k4⟩ := r3 z' b1 c1 e1 e2 e3
      exact req_iff.2 ⟨k1, req_iff.2 ⟨Nat.ble_eq_true_of_le hz, k2, k4⟩⟩
  · have hi : ¬ i < N + 1 := of_decide_eq_false hi
    refine req_iff.2 ⟨Nat.ble_eq_true_of_le hz, ?_⟩
    exact hQ z b co rfl hz (by rw [gAs_end h8 (by omega) hi]; rfl)
theorem ok94bL (c : Nat) (hc : F2Ok Try.prog 94 (fc94b c)) : Lp2Ok Try.prog 94 0 (lc94b c) := lp2_of (n := 5) (ex := fun _ => some (sh94be, 10)) (m := fun (_, _, _, _, _, _, m, i, _) => (m - i).toNat) ((good2_nilI _).addF2 hc) fun ((z, n), left, (a, tri), ((a2, b, co, s, ()), rg), sum, ((), (), (), (), (), ()), m, i, ()) Q hx => by
  obtain ⟨⟨h1, ht, ha, hs, hr, h3, h4, h5, h6, h7, hm, h8⟩, hQ⟩ := hx
  have ht : tri = triC := ht
  subst ht
  have ha : a2 = a := ha
  subst ha
  have hs : s = (a2, triC) := hs
  have hr : rg = rngOf Try.prog 16 0 := hr
  have h7 : sum = -1 := h7
  have hm : m = a2.1.getD n 0 + 1 := hm
  subst hs hr h7 hm
  exact h94bL c z n left a2 b co i Q h1 h3 h4 h5 h6 h8.1 h8.2 hQ
theorem cost_step : ∀ {z cs : List Int} {k : Nat}, k < z.length → k < cs.length → costF (z.take (k + 1)) cs = costF (z.take k) cs + z.getD k 0 * cs.getD k 0
  | [], cs, k, h, _ => by simp at h
  | x :: z, [], k, _, h => by simp at h
  | x :: z, c :: cs, 0, _, _ => by simp [costF]
  | x :: z, c :: cs, k + 1, h, h2 => by
    simp only [List.take_succ_cons, costF, List.getD_cons_succ]
    rw [cost_step (by simpa using h) (by simpa using h2), Int.add_assoc]
theorem cost_bd {z cs : List Int} : ∀ {n : Nat}, n ≤ z.length → n ≤ cs.length → (∀ k : Nat, k < n → 0 ≤ z.getD k 0 ∧ z.getD k 0 ≤ 8) → (∀ k : Nat, k < n → 0 ≤ cs.getD k 0 ∧ cs.getD k 0 ≤ 1000) → 0 ≤ costF (z.take n) cs ∧ costF (z.take n) cs ≤ 8000 * n
  | 0, _, _, _, _ => by rw [List.take_zero]; cases cs <;> exact ⟨Int.le_refl 0, Int.le_refl 0⟩
  | n + 1, h1, h2, h3, h4 => by
    rw [cost_step (by omega) (by omega)]
    have := cost_bd (n := n) (by omega) (by omega) (fun k hk => h3 k (by omega)) fun k hk => h4 k (by omega)
    have m := mul_bd (h3 n (by omega)).1 (h3 n (by omega)).2 (h4 n (by omega)).1 (h4 n (by omega)).2
    exact ⟨by omega, by omega⟩
theorem stepL {z cs : List Int} {n : Nat} (hz : n ≤ z.length) (hc : cs.length = n) (hn : n ≤ 4) (b1 : ∀ k : Nat, k < n → 0 ≤ z.getD k 0 ∧ z.getD k 0 ≤ 8) (b2 : ∀ k : Nat, k < n → 0 ≤ cs.getD k 0 ∧ cs.getD k 0 ≤ 1000)
    (k : Nat) {kI s : Int} (e : kI = k) (hk : k ≤ n) (hs : s = costF (z.take k) cs) {NEXT TAIL : Prop} (h1 : k < n → s + z.getD k 0 * cs.getD k 0 = costF (z.take (k + 1)) cs → NEXT) (h2 : k = n → TAIL) :
    fork (decide (kI < (n : Int))) (req (decide (0 ≤ kI ∧ kI < (n : Int))) (req (decide (k < z.length)) (req (decide (0 ≤ kI ∧ kI < (cs.length : Int))) (req (inR .i64 (z.getD k 0 * cs.getD k 0)) (req (inR .i64 (s + z.getD k 0 * cs.getD k 0)) NEXT))))) TAIL := by
  subst e
  refine fork_iff.2 ⟨fun h => ?_, fun h => h2 (by have := of_decide_eq_false h; omega)⟩
  have h : (k : Int) < n := of_decide_eq_true h
  have hk2 : k < n := by omega
  have m := mul_bd (b1 k hk2).1 (b1 k hk2).2 (b2 k hk2).1 (b2 k hk2).2
  have cb := cost_bd (z := z) (cs := cs) (n := k) (by omega) (by omega) (fun j hj => b1 j (by omega)) fun j hj => b2 j (by omega)
  rw [← hs] at cb
  exact req_iff.2 ⟨decide_eq_true ⟨by omega, h⟩, req_iff.2 ⟨decide_eq_true (by omega), req_iff.2 ⟨decide_eq_true ⟨by omega, by omega⟩, req_iff.2 ⟨inR_i64.2 (by omega), req_iff.2 ⟨inR_i64.2 (by omega), h1 hk2 (by rw [cost_step (by omega) (by omega), hs])⟩⟩⟩⟩⟩
theorem tailL {a : Au} {z b : List Int} {n : Nat} {co sum s : Int} {K : post94b.den → Prop} (hz : n ≤ z.length) (hok : okA a) (hn : n = a.1.length) (he : eachB a.1 (z.take n) = true) (hs : s = costF (z.take n) a.2.1)
    (hK : ∀ (b1 : List Int) (c1 : Int), (b1, c1) = updL a (b, co) (z.take n) → K ((z, n), (), (a, triC), ((a, b1, c1, (a, triC), ()), (rngOf Try.prog 16 0)), sum, ((), (), (), (), (), ()), true, ())) :
    fork (List.isEmpty b) (req (decide (0 + n ≤ z.length)) ((okA a ∧ triC = triC ∧ eachB a.1 (seg 0 n z) = true) ∧ ∀ r : Bool, r = findsF a (seg 0 n z) → fork r
        (req (decide (0 + n ≤ z.length)) ((seg 0 n z).length ≤ 1000 ∧ ∀ r : List Int, r = seg 0 n z → req (Nat.ble n z.length) (req (decide (0 + r.length ≤ r.length)) (req (decide (0 < (seg 0 r.length r).length)) (K ((z, n), (), (a, triC), ((a, seg 0 r.length r, s, (a, triC), ()), rngOf Try.prog 16 0), sum, ((), (), (), (), (), ()), true, ()))))))
        (req (Nat.ble n z.length) (K ((z, n), (), (a, triC), ((a, b, co, (a, triC), ()), rngOf Try.prog 16 0), sum, ((), (), (), (), (), ()), true, ())))))
      (fork (decide (s < co)) (req (decide (0 + n ≤ z.length)) ((okA a ∧ triC = triC ∧ eachB a.1 (seg 0 n z) = true) ∧ ∀ r : Bool, r = findsF a (seg 0 n z) → fork r
        (req (decide (0 + n ≤ z.length)) ((seg 0 n z).length ≤ 1000 ∧ ∀ r : List Int, r = seg 0 n z → req (Nat.ble n z.length) (req (decide (0 + r.length ≤ r.length)) (req (decide (0 < (seg 0 r.length r).length)) (K ((z, n), (), (a, triC), ((a, seg 0 r.length r, s, (a, triC), ()), rngOf Try.prog 16 0), sum, ((), (), (), (), (), ()), true, ()))))))
        (req (Nat.ble n z.length) (K ((z, n), (), (a, triC), ((a, b, co, (a, triC), ()), rngOf Try.prog 16 0), sum, ((), (), (), (), (), ()), true, ())))))
        (req (Nat.ble n z.length) (K ((z, n), (), (a, triC), ((a, b, co, (a, triC), ()), rngOf Try.prog 16 0), sum, ((), (), (), (), (), ()), true, ())))) := by
  have hst := hok.1.1
  rw [seg_take]
  have hb : Nat.ble n z.length = true := Nat.ble_eq_true_of_le hz
  have keep : ((b.isEmpty || decide (s < co)) && findsF a (z.take n)) = false → K ((z, n), (), (a, triC), ((a, b, co, (a, triC), ()), rngOf Try.prog 16 0), sum, ((), (), (), (), (), ()), true, ()) := fun h => hK b co (by
    unfold updL
    rw [← hs, if_neg (by rw [h]; simp)])
  have half : (b.isEmpty || decide (s < co)) = true → req (decide (0 + n ≤ z.length)) ((okA a ∧ triC = triC ∧ eachB a.1 (z.take n) = true) ∧ ∀ r : Bool, r = findsF a (z.take n) → fork r
        (req (decide (0 + n ≤ z.length)) ((z.take n).length ≤ 1000 ∧ ∀ r : List Int, r = z.take n → req (Nat.ble n z.length) (req (decide (0 + r.length ≤ r.length)) (req (decide (0 < (seg 0 r.length r).length)) (K ((z, n), (), (a, triC), ((a, seg 0 r.length r, s, (a, triC), ()), rngOf Try.prog 16 0), sum, ((), (), (), (), (), ()), true, ()))))))
        (req (Nat.ble n z.length) (K ((z, n), (), (a, triC), ((a, b, co, (a, triC), ()), rngOf Try.prog 16 0), sum, ((), (), (), (), (), ()), true, ())))) := fun h => by
    refine req_iff.2 ⟨decide_eq_true (by omega), ⟨hok, rfl, he⟩, fun r hr => fork_iff.2 ⟨fun hf => ?_, fun hf => ?_⟩⟩
    · refine req_iff.2 ⟨decide_eq_true (by omega), by rw [List.length_take]; omega, fun r2 hr2 => req_iff.2 ⟨hb, req_iff.2 ⟨by simp, ?_⟩⟩⟩
      rw [seg_self]
      refine req_iff.2 ⟨decide_eq_true (by rw [hr2, List.length_take]; omega), hK r2 s ?_⟩
      unfold updL
      rw [← hs, if_pos (by show ((b.isEmpty || decide (s < co)) && _) = true; rw [h, ← hr, hf]; rfl), hr2]
    · exact req_iff.2 ⟨hb, keep (by rw [h, ← hr, hf]; rfl)⟩
  refine fork_iff.2 ⟨fun h => half (by rw [h]; rfl), fun h => fork_iff.2 ⟨fun h2 => half (by rw [h2, Bool.or_true]), fun h2 => req_iff.2 ⟨hb, keep (by rw [h, h2]; rfl)⟩⟩⟩
theorem h94bF (c : Nat) (z : List Int) (n : Nat) (left : Int) (a : Au) (b : List Int) (co : Int) (K : post94b.den → Prop) (h1 : okA a) (h3 : okP a.1 z n) (h5 : a.1.length - n < c + 1) (h6 : -1 - 8 * (n : Int) ≤ left ∧ left < 0)
    (hK : ∀ (z' b1 : List Int) (c1 : Int), z'.take n = z.take n → n ≤ z'.length → (b1, c1) = runL a (b, co) (gA (a.1.drop n) (z.take n)) → K ((z', n), (), (a, triC), ((a, b1, c1, (a, triC), ()), (rngOf Try.prog 16 0)), -1, ((), (), (), (), (), ()), true, ())) :
    xfn2 Try.prog { nm := true, ip := true, un := 5, f := [(57, fc57)], f2 := [(58, fc58)], l2 := [(94, 0, lc94b c)] } 5 94 (fc94b (c + 1)) ((z, n), left, (a, triC), ((a, b, co, (a, triC), ()), (rngOf Try.prog 16 0)), -1, ((), (), (), (), (), ()), ()) K := by
  rw [v94bF]
  have hz := h3.1
  have hst := h1.1.1
  refine fork_iff.2 ⟨fun hn => ?_, fun hn => ?_⟩
  · have hn : n = a.1.length := by have : ((n : Nat) : Int) = (a.1.length : Int) := by simpa using hn
                                   omega
    have hd : a.1.drop n = [] := List.drop_eq_nil_of_le (by omega)
    rw [hd] at hK
    simp only [gA] at hK
    have hze : eachB a.1 (z.take n) = true := by
      have := h3.2.2
      rwa [hn, List.take_length, ← hn] at this
    refine fork_iff.2 ⟨fun hl => absurd (of_decide_eq_true hl) (by omega), fun _ => ?_⟩
    have hcl := h1.2.1
    obtain ⟨_, e2⟩ := each_at hze
    have b1 : ∀ k : Nat, k < n → 0 ≤ z.getD k 0 ∧ z.getD k 0 ≤ 8 := fun k hk => by
      have := e2 k (by omega)
      have g : (z.take n).getD k 0 = z.getD k 0 := by rw [List.getD_eq_getElem?_getD, List.getElem?_take, if_pos hk, ← List.getD_eq_getElem?_getD]
      rw [g] at this
      have := h1.1.2 _ (getD_mem (show k < a.1.length by omega) 0)
      omega
    have b2 : ∀ k : Nat, k < n → 0 ≤ a.2.1.getD k 0 ∧ a.2.1.getD k 0 ≤ 1000 := fun k hk => h1.2.2.1 _ (getD_mem (by omega) 0)
    have K2 : ∀ (b1 : List Int) (c1 : Int), (b1, c1) = updL a (b, co) (z.take n) → K ((z, n), (), (a, triC), ((a, b1, c1, (a, triC), ()), (rngOf Try.prog 16 0)), -1, ((), (), (), (), (), ()), true, ()) := fun b1 c1 h => hK z b1 c1 rfl hz h
    have st := fun k {kI s : Int} e hk hs {N T : Prop} => stepL (kI := kI) (s := s) (NEXT := N) (TAIL := T) hz (show a.2.1.length = n by omega) (by omega) b1 b2 k e hk hs
    have c0 : (0 : Int) = costF (z.take 0) a.2.1 := by rw [List.take_zero]; cases a.2.1 <;> rfl
    have T : ∀ {k : Nat} {s : Int}, k = n → s = costF (z.take k) a.2.1 → s = costF (z.take n) a.2.1 := fun h g => by rw [← h]; exact g
    refine st 0 rfl (by omega) c0 (fun l1 s1 => ?_) fun e => tailL hz h1 hn hze (T e c0) K2
    refine st 1 rfl (by omega) s1 (fun l2 s2 => ?_) fun e => tailL hz h1 hn hze (T e s1) K2
    refine st 2 rfl (by omega) s2 (fun l3 s3 => ?_) fun e => tailL hz h1 hn hze (T e s2) K2
    refine st 3 rfl (by omega) s3 (fun l4 s4 => ?_) fun e => tailL hz h1 hn hze (T e s3) K2
    exact st 4 rfl (by omega) s4 (fun l5 s5 => by omega) fun e => tailL hz h1 hn hze (T e s4) K2
  · have hne : n ≠ a.1.length := fun e => by rw [e] at hn; simp at hn
    have hlt : n < a.1.length := by have := h3.2.1; omega
    have hnv := h1.1.2 _ (getD_mem hlt 0)
    have hd : a.1.drop n = a.1.getD n 0 :: a.1.drop (n + 1) := by
      rw [List.drop_eq_getElem_cons hlt, List.getD_eq_getElem?_getD, List.getElem?_eq_getElem hlt]; rfl
    rw [hd, gA_gAs] at hK
    refine req_iff.2 ⟨decide_eq_true ⟨by omega, by omega⟩, fork_iff.2 ⟨fun hs => absurd (of_decide_eq_true hs) (by decide), fun _ => ?_⟩⟩
    refine req_iff.2 ⟨inR_i64.2 (by omega), req_iff.2 ⟨Nat.ble_eq_true_of_le hz, ⟨h1, rfl, rfl, rfl, rfl, h3, hlt, by omega, h6, rfl, rfl, Int.le_refl 0, show (0 : Int) ≤ a.1.getD n 0 + 1 by omega⟩, fun z' b1 c1 e1 e2 e3 => req_iff.2 ⟨Nat.ble_eq_true_of_le e2, hK z' b1 c1 e1 e2 e3⟩⟩⟩
theorem ok94b : ∀ c, F2Ok Try.prog 94 (fc94b c)
  | 0 => fun x K hx => by
    obtain ⟨⟨_, _, _, _, _, _, h, _⟩, _⟩ := hx
    exact absurd h (Nat.not_lt_zero _)
  | c + 1 => fn2_of (n := 5) ((((good2_nilU _ 5).addL2 (ok94bL c (ok94b c))).addF2 ok58).addF ok57) fun ((z, n), left, (a, tri), ((a2, b, co, s, ()), rg), sum, ((), (), (), (), (), ()), ()) K hx => by
    obtain ⟨⟨h1, ht, ha, hs, hr, h3, h5, h6, h7⟩, hK⟩ := hx
    have ht : tri = triC := ht
    subst ht
    have ha : a2 = a := ha
    subst ha
    have hs : s = (a2, triC) := hs
    have hr : rg = rngOf Try.prog 16 0 := hr
    have h7 : sum = -1 := h7
    subst hs hr h7
    exact h94bF c z n left a2 b co K h1 h3 h5 h6 hK
theorem ok16 : FnOk Try.prog 16 fc16 := fn1_of (n := 5) ((((good2_nilI _).addF2 (ok94b 10)).addF ok55).addF ok28) fun (a, ()) K hx => by
  obtain ⟨⟨h1, h2⟩, hK⟩ := hx
  have hK : ∀ s c e, LeastR a s c e → K (s, c, e, ()) := hK
  rw [v16F]
  refine ⟨⟨h1, h2⟩, fun e e1 e2 => ?_⟩
  by_cases h : okA a
  · have e0 := e1 h
    subst e0
    have hst := h.1.1
    refine fork_iff.2 ⟨fun hc => absurd hc (by decide), fun _ => ⟨rfl, rfl, rfl, ⟨h, rfl, rfl, rfl, rfl, ⟨Nat.le_refl 0, Nat.zero_le _, rfl⟩, by omega, ⟨by decide, by decide⟩, rfl⟩, fun z' b1 c1 g1 g2 g3 => ⟨rfl, hK b1 c1 0 (.inl ⟨h, g3, rfl⟩)⟩⟩⟩
  · have e0 := e2 h
    subst e0
    exact fork_iff.2 ⟨fun _ => hK [] 0 100 (.inr ⟨h, rfl, rfl, rfl⟩), fun hc => absurd hc (by decide)⟩
end Go.P10
