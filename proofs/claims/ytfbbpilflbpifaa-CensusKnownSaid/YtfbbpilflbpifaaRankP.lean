/- Orders: the code keeps its contracts. No conditions. -/
import Derived.Test.YtfbbpilflbpifaaRankS
set_option linter.constructorNameAsVariable false
set_option linter.unusedVariables false
set_option linter.unusedSimpArgs false
set_option maxRecDepth 100000
set_option maxHeartbeats 4000000
namespace Go.P10
open Go.Lom Go.Proofs Go
theorem take_seg_erase {z ys : List Int} {n i : Nat} (hz : n ≤ z.length) (hi : i < n) (hy : ys = z.take i ++ seg (i + 1) (n - (i + 1)) z ++ z.drop (i + (n - (i + 1)))) : ys.take (n - 1) = (z.take n).eraseIdx i := by
  have h1 : (z.take i ++ seg (i + 1) (n - (i + 1)) z).length = n - 1 := by simp [seg]; omega
  rw [hy, List.take_append_of_le_length (by omega), List.take_of_length_le (by omega)]
  rw [List.eraseIdx_eq_take_drop_succ, List.take_take, Nat.min_eq_left (by omega)]
  congr 1
  unfold seg
  rw [List.drop_take]
theorem h98 (z : List Int) (n : Nat) (i : Int) (K : post98.den → Prop) (h1 : n ≤ z.length) (h2 : n ≤ 1000) (h3 : 0 ≤ i) (h4 : i < n) (hK : ∀ z' : List Int, n - 1 ≤ z'.length → z'.take (n - 1) = (z.take n).eraseIdx i.toNat → K ((), (), (), (z', n - 1), ())) :
    xfn2 Try.prog { nm := true, ip := true, cp := true } 5 98 fc98 ((z, n), i, i + 1, ()) K := by
  obtain ⟨i, rfl⟩ : ∃ k : Nat, i = (k : Int) := ⟨i.toNat, by omega⟩
  rw [v98F]
  have hi : i < n := by omega
  have ej : (((i : Nat) : Int) + 1).toNat = i + 1 := by omega
  have hsl : (seg (i + 1) (n - (i + 1)) z).length = n - (i + 1) := by simp [seg]; omega
  intro c hc
  simp only [Option.getD_some, Int.toNat_natCast, ej, hsl] at hK ⊢
  refine req_iff.2 ⟨decide_eq_true ⟨by omega, by omega, by omega, by omega⟩, fork_iff.2 ⟨fun h => absurd (by simpa using h : (i : Int) = i + 1) (by omega), fun _ => ?_⟩⟩
  refine req_iff.2 ⟨decide_eq_true ⟨by omega, by omega, by omega, hc⟩, req_iff.2 ⟨decide_eq_true ⟨by omega, by omega, by omega, hc⟩, req_iff.2 ⟨decide_eq_true (by omega), req_iff.2 ⟨decide_eq_true (by omega), req_iff.2 ⟨decide_eq_true (by omega), fun ys hys => ?_⟩⟩⟩⟩⟩
  rw [Nat.zero_add] at hys
  have hyl : ys.length = z.length := by rw [hys]; simp [hsl]; omega
  have e1 : i + (n - (i + 1)) = n - 1 := by omega
  rw [e1]
  refine req_iff.2 ⟨decide_eq_true ⟨by omega, by omega, by omega⟩, req_iff.2 ⟨decide_eq_true (by omega), req_iff.2 ⟨Nat.ble_eq_true_of_le (by simp; omega), hK _ (by simp; omega) ?_⟩⟩⟩
  rw [List.append_assoc, List.take_append_of_le_length (by simp; omega), List.take_take, Nat.min_self]
  exact take_seg_erase h1 hi hys
theorem ok98 : F2Ok Try.prog 98 fc98 := fn2_of (n := 5) (good2_nilC _) fun ((z, n), i, j, ()) K hx => by
  obtain ⟨⟨h1, h2, h3, hj⟩, hK⟩ := hx
  have hj : j = i + 1 := hj
  subst hj
  exact h98 z n i K h1 h2 h3.1 h3.2 hK
theorem fac_pos : ∀ n, 1 ≤ facI n
  | 0 => by decide
  | n + 1 => by
    have := fac_pos n
    have h2 : (1 : Int) * 1 ≤ (n + 1) * facI n := Int.mul_le_mul (by omega) this (by decide) (by omega)
    rw [facI]; omega
theorem fac8 {n : Nat} (h : n ≤ 8) : facI n ≤ 40320 := by
  have : n = 0 ∨ n = 1 ∨ n = 2 ∨ n = 3 ∨ n = 4 ∨ n = 5 ∨ n = 6 ∨ n = 7 ∨ n = 8 := by omega
  rcases this with h | h | h | h | h | h | h | h | h <;> rw [h] <;> decide
theorem h76L (n o : Int) (Q : LQ) (h1 : n ≤ 8) (h2 : 0 ≤ o) (h3 : o * facI n.toNat ≤ 40320) (hQ : ∀ r : Int, r = o * facI n.toNat → Q (.exit 0) (stS 0 sh76e (r, ()))) :
    xloop2 Try.prog {} 5 76 0 lc76 (fun _ => some (sh76e, 0)) (fun (n, _, _) => n.toNat) (n, o, ()) Q := by
  rw [v76L]
  refine fork_iff.2 ⟨fun h => ?_, fun h => ?_⟩
  · have h : n > 1 := of_decide_eq_true h
    obtain ⟨m, hm⟩ : ∃ m : Nat, n.toNat = m + 1 := ⟨n.toNat - 1, by omega⟩
    have e1 : (n - 1).toNat = m := by omega
    have e2 : facI n.toNat = n * facI m := by rw [hm, facI]; congr 1; omega
    rw [e2] at h3 hQ
    have hf := fac_pos m
    have e3 : o * (n * facI m) = o * n * facI m := by rw [Int.mul_assoc]
    have h5 : 0 ≤ o * n := Int.mul_nonneg h2 (by omega)
    have h6 : o * n * 1 ≤ o * n * facI m := Int.mul_le_mul_of_nonneg_left hf h5
    refine req_iff.2 ⟨inR_i64.2 (by omega), req_iff.2 ⟨inR_i64.2 (by omega), by omega, ⟨show n - 1 ≤ (8 : Int) by omega, h5, ?_⟩, fun r hr => hQ r ?_⟩⟩
    · show o * n * facI (n - 1).toNat ≤ (40320 : Int)
      rw [e1]; omega
    · have hr : r = o * n * facI (n - 1).toNat := hr
      rw [hr, e1, e3]
  · have h : ¬ n > 1 := of_decide_eq_false h
    have : n.toNat = 0 ∨ n.toNat = 1 := by omega
    exact hQ o (by rcases this with e | e <;> rw [e] <;> simp [facI])
theorem ok76L : Lp2Ok Try.prog 76 0 lc76 := lp2_of (n := 5) (ex := fun _ => some (sh76e, 0)) (m := fun (n, _, _) => n.toNat) (good2_nil _) fun (n, o, ()) Q hx => by
  obtain ⟨⟨h1, h2, h3⟩, hQ⟩ := hx
  exact h76L n o Q h1 h2 h3 hQ
theorem h76 (n : Int) (K : dens [I] → Prop) (h1 : n ≤ 8) (hK : ∀ r : Int, r = facI n.toNat → K (r, ())) : xfn1 Try.prog { l2 := [(76, 0, lc76)] } 5 76 fc76 (n, ()) K := by
  rw [v76F]
  have hf := fac8 (show n.toNat ≤ 8 by omega)
  have e : (1 : Int) * facI n.toNat = facI n.toNat := Int.one_mul _
  refine ⟨⟨h1, show (0 : Int) ≤ 1 by decide, show (1 : Int) * facI n.toNat ≤ 40320 by rw [e]; exact hf⟩, fun r hr => hK r ?_⟩
  have hr : r = (1 : Int) * facI n.toNat := hr
  rw [hr, e]
theorem ok76 : FnOk Try.prog 76 fc76 := fn1_of (n := 5) ((good2_nil _).addL2 ok76L) fun (n, ()) K hx => by
  obtain ⟨h1, hK⟩ := hx
  exact h76 n K h1 hK
theorem upTo_len (n : Nat) : (upTo n).length = n := by simp [upTo]
theorem upTo_succ (n : Nat) : upTo (n + 1) = upTo n ++ [(n : Int)] := by simp [upTo, List.range_succ]
theorem h77A (n r : Int) (o l : List Int) (i : Int) (Q : LQ) (h1 : 1 ≤ n) (h2 : n ≤ 8) (h3 : 0 ≤ i) (h4 : i ≤ n) (h5 : l = upTo i.toNat) (hQ : ∀ l' : List Int, l' = upTo n.toNat → Q (.exit 0) (stS 2 sh77ae (n, r, o, l', ()))) :
    xloop2 Try.prog { nm := true } 5 77 0 lc77a (fun _ => some (sh77ae, 2)) (fun (n, _, _, _, _, i, _) => (n - i).toNat) (n, r, o, l, n, i, ()) Q := by
  rw [v77A]
  have hl : l.length = i.toNat := by rw [h5, upTo_len]
  refine fork_iff.2 ⟨fun hi => ?_, fun hi => ?_⟩
  · have hi : i < n := of_decide_eq_true hi
    refine req_iff.2 ⟨decide_eq_true (by omega), req_iff.2 ⟨fitsM (by omega), fun ys hys => ?_⟩⟩
    rw [seg_self] at hys
    subst hys
    refine req_iff.2 ⟨inR_i64.2 (by omega), req_iff.2 ⟨decide_eq_true (by simp), by omega, ?_⟩⟩
    rw [seg_exact (show l.length + 1 = (l ++ [i]).length by simp)]
    refine ⟨⟨h1, h2, rfl, ⟨show (0 : Int) ≤ i + 1 by omega, show i + 1 ≤ n by omega⟩, ?_⟩, hQ⟩
    show l ++ [i] = upTo (i + 1).toNat
    rw [show (i + 1).toNat = i.toNat + 1 by omega, upTo_succ, ← h5, show ((i.toNat : Nat) : Int) = i by omega]
  · have hi : ¬ i < n := of_decide_eq_false hi
    refine req_iff.2 ⟨decide_eq_true (by omega), ?_⟩
    rw [seg_self]
    exact hQ l (by rw [h5]; congr 1; omega)
theorem ok77A : Lp2Ok Try.prog 77 0 lc77a := lp2_of (n := 5) (ex := fun _ => some (sh77ae, 2)) (m := fun (n, _, _, _, _, i, _) => (n - i).toNat) (good2_nilN _) fun (n, r, o, l, m, i, ()) Q hx => by
  obtain ⟨⟨h1, h2, hm, h3, h4⟩, hQ⟩ := hx
  have hm : m = n := hm
  subst hm
  exact h77A m r o l i Q h1 h2 h3.1 h3.2 h4 hQ
theorem takeR_len : ∀ (m : Nat) (l : List Int) (r : Int), (takeR m l r).length = m
  | 0, _, _ => rfl
  | m + 1, l, r => by rw [takeR, List.length_cons, takeR_len]
theorem h77B (n r : Int) (o z : List Int) (k : Nat) (i : Int) (Q : LQ) (h1 : 1 ≤ n) (h2 : n ≤ 8) (h3 : 0 ≤ i) (h4 : i ≤ n) (h5 : k ≤ z.length) (h6 : (k : Int) = n - i) (h7 : o.length = 8) (h8 : 0 ≤ r) (h9 : r < facI (n - i).toNat)
    (hQ : ∀ o' : List Int, o' = o.take i.toNat ++ takeR (n - i).toNat (z.take k) r ++ o.drop n.toNat → Q (.exit 2) (stS 1 sh77be (o', ()))) :
    xloop2 Try.prog { nm := true, f := [(76, fc76)], f2 := [(98, fc98)] } 5 77 1 lc77b (fun _ => some (sh77be, 1)) (fun (n, _, _, _, _, i, _) => (n - i).toNat) (n, r, o, (z, k), n, i, ()) Q := by
  rw [v77B]
  refine fork_iff.2 ⟨fun hi => ?_, fun hi => ?_⟩
  · have hi : i < n := of_decide_eq_true hi
    obtain ⟨m, hm⟩ : ∃ m : Nat, (n - i).toNat = m + 1 := ⟨(n - i).toNat - 1, by omega⟩
    have e1 : (n - 1 - i).toNat = m := by omega
    have e2 : (n - (i + 1)).toNat = m := by omega
    rw [hm] at h9 hQ
    rw [e1]
    have hf := fac_pos m
    have hf8 := fac8 (show m ≤ 8 by omega)
    refine req_iff.2 ⟨inR_i64.2 (by omega), req_iff.2 ⟨inR_i64.2 (by omega), show n - 1 - i ≤ (8 : Int) by omega, fun f hfe => ?_⟩⟩
    rw [← hfe] at hf hf8
    have hq0 : 0 ≤ r / f := Int.ediv_nonneg h8 (by omega)
    have hq1 : r / f < m + 1 := by
      rw [facI, ← hfe] at h9
      exact Int.ediv_lt_of_lt_mul (by omega) h9
    have hqd : Int.tdiv r f = r / f := Int.tdiv_eq_ediv_of_nonneg h8
    have hqm : Int.tmod r f = r % f := Int.tmod_eq_emod_of_nonneg h8
    have hr0 := Int.emod_nonneg r (show f ≠ 0 by omega)
    have hr1 := Int.emod_lt_of_pos r (show 0 < f by omega)
    rw [hqd, hqm]
    simp only [takeR, ← hfe] at hQ
    generalize r / f = q at *
    generalize r % f = t at *
    have hz1 : z.getD q.toNat 0 = (z.take k).getD q.toNat 0 := by
      rw [List.getD_eq_getElem?_getD, List.getD_eq_getElem?_getD, List.getElem?_take, if_pos (by omega)]
    refine req_iff.2 ⟨decide_eq_true (by omega), req_iff.2 ⟨inR_i64.2 (by omega), req_iff.2 ⟨decide_eq_true (by omega), req_iff.2 ⟨decide_eq_true ⟨hq0, by omega⟩, req_iff.2 ⟨decide_eq_true (by omega), req_iff.2 ⟨decide_eq_true ⟨h3, by omega⟩, req_iff.2 ⟨decide_eq_true (by omega), fun ys hys => ?_⟩⟩⟩⟩⟩⟩⟩
    rw [Nat.zero_add, Nat.add_zero, hz1] at hys
    refine req_iff.2 ⟨inR_i64.2 (by omega), req_iff.2 ⟨Nat.ble_eq_true_of_le h5, ⟨h5, by omega, ⟨hq0, by omega⟩, rfl⟩, fun z' g1 g2 => req_iff.2 ⟨inR_i64.2 (by omega), req_iff.2 ⟨Nat.ble_eq_true_of_le g1, by omega, ?_⟩⟩⟩⟩
    have hyl : ys.length = 8 := by rw [hys, List.length_set, h7]
    refine ⟨⟨h1, h2, rfl, ⟨show (0 : Int) ≤ i + 1 by omega, show i + 1 ≤ n by omega⟩, g1, show ((k - 1 : Nat) : Int) = n - (i + 1) by omega, hyl, hr0, ?_⟩, fun o' ho' => hQ o' ?_⟩
    · show t < facI (n - (i + 1)).toNat
      rw [e2, ← hfe]; exact hr1
    · have ho' : o' = ys.take (i + 1).toNat ++ takeR (n - (i + 1)).toNat (z'.take (k - 1)) t ++ ys.drop n.toNat := ho'
      rw [ho', e2, g2, hys]
      have e3 : (o.set i.toNat ((z.take k).getD q.toNat 0)).take (i + 1).toNat = o.take i.toNat ++ [(z.take k).getD q.toNat 0] := by
        rw [show (i + 1).toNat = i.toNat + 1 by omega, List.take_add_one, List.take_set_of_le (Nat.le_refl _), List.getElem?_set_self (by omega)]; rfl
      have e4 : (o.set i.toNat ((z.take k).getD q.toNat 0)).drop n.toNat = o.drop n.toNat := List.drop_set_of_lt (by omega)
      rw [e3, e4]
      simp only [List.append_assoc, List.cons_append, List.nil_append, List.singleton_append]
  · have hi : ¬ i < n := of_decide_eq_false hi
    have e : (n - i).toNat = 0 := by omega
    rw [e] at hQ
    refine hQ o ?_
    rw [takeR, List.append_nil, show i.toNat = n.toNat by omega, List.take_append_drop]
theorem ok77B : Lp2Ok Try.prog 77 1 lc77b := lp2_of (n := 5) (ex := fun _ => some (sh77be, 1)) (m := fun (n, _, _, _, _, i, _) => (n - i).toNat) (((good2_nilN _).addF2 ok98).addF ok76) fun (n, r, o, (z, k), m, i, ()) Q hx => by
  obtain ⟨⟨h1, h2, hm, h3, h5, h6, h7, h8⟩, hQ⟩ := hx
  have hm : m = n := hm
  subst hm
  exact h77B m r o z k i Q h1 h2 h3.1 h3.2 h5 h6 h7 h8.1 h8.2 hQ
theorem h77F (n r : Int) (K : dens [.ar 8 I] → Prop) (h1 : 1 ≤ n) (h2 : n ≤ 8) (h3 : 0 ≤ r) (h4 : r < facI n.toNat) (hK : ∀ o : List Int, o = pad8 (ordF n r) → K (o, ())) : xfn1 Try.prog { nm := true, l2 := [(77, 0, lc77a), (77, 1, lc77b)] } 5 77 fc77 (n, r, ()) K := by
  rw [v77F]
  refine ⟨⟨h1, h2, rfl, ⟨Int.le_refl 0, show (0 : Int) ≤ n by omega⟩, rfl⟩, fun l' hl' => ?_⟩
  have hl : l'.length = n.toNat := by rw [hl', upTo_len]
  rw [Int.sub_zero]
  refine req_iff.2 ⟨Nat.ble_eq_true_of_le (Nat.le_refl _), ⟨h1, h2, rfl, ⟨Int.le_refl 0, show (0 : Int) ≤ n by omega⟩, Nat.le_refl _, show ((l'.length : Nat) : Int) = n by omega, rfl, h3, h4⟩, fun o' ho' => ?_⟩
  rw [List.take_zero, List.nil_append, List.take_length] at ho'
  have hd : [(0 : Int), 0, 0, 0, 0, 0, 0, 0].drop n.toNat = List.replicate (8 - n.toNat) 0 := by
    rw [show [(0 : Int), 0, 0, 0, 0, 0, 0, 0] = List.replicate 8 0 from rfl, List.drop_replicate]
  rw [hd, hl'] at ho'
  have e : o' = pad8 (ordF n r) := by
    rw [ho']; unfold pad8 ordF; rw [takeR_len]
  have ho : o'.length = 8 := by rw [ho']; simp [takeR_len]; omega
  exact req_iff.2 ⟨decide_eq_true ho, req_iff.2 ⟨decide_eq_true ho, req_iff.2 ⟨by simp, fun ys hys => req_iff.2 ⟨decide_eq_true (by rw [hys]; exact ho), req_iff.2 ⟨decide_eq_true (by rw [hys]; exact ho), hK ys (hys.trans e)⟩⟩⟩⟩⟩
theorem ok77 : FnOk Try.prog 77 fc77 := fn1_of (n := 5) (((good2_nilN _).addL2 ok77B).addL2 ok77A) fun (n, r, ()) K hx => by
  obtain ⟨⟨h1, h2, h3, h4⟩, hK⟩ := hx
  exact h77F n r K h1 h2 h3 h4 hK
theorem ordF_len (n r : Int) : (ordF n r).length = n.toNat := takeR_len ..
theorem pad8_len {l : List Int} (h : l.length ≤ 8) : (pad8 l).length = 8 := by simp [pad8]; omega
theorem pad8_seg {l : List Int} {m : Nat} (h : m ≤ l.length) : seg 0 m (pad8 l) = l.take m := by
  rw [seg_take]; unfold pad8; rw [List.take_append_of_le_length h]
theorem h37 (n r : Int) (K : dens [L, E] → Prop) (hK : ∀ l e, (l, e) = unrankV n r → K (l, e, ())) : xfn1 Try.prog { nm := true, f := [(76, fc76), (77, fc77)], f2 := [(58, fc58)] } 5 37 fc37 (n, r, ()) K := by
  rw [v37F]
  have bad : ¬ (1 ≤ n ∧ n ≤ 8) → K ([], (104 : Int), ()) := fun h => hK _ _ (by rw [unrankV, if_neg h])
  refine fork_iff.2 ⟨fun a => fork_iff.2 ⟨fun b => bad fun h => ?_, fun b => ?_⟩, fun a => bad fun h => (of_decide_eq_false a) h.1⟩
  · simp only [Bool.not_eq_true', decide_eq_false_iff_not] at b; exact b h.2
  · have a : 1 ≤ n := of_decide_eq_true a
    have b : n ≤ 8 := by simpa using b
    have hn : 1 ≤ n ∧ n ≤ 8 := ⟨a, b⟩
    have hf := fac8 (show n.toNat ≤ 8 by omega)
    have hp := fac_pos n.toNat
    refine ⟨b, fun f hfe => ?_⟩
    subst hfe
    have far : ¬ (0 ≤ r ∧ r < facI n.toNat) → K ([], (7 : Int), ()) := fun h => hK _ _ (by rw [unrankV, if_pos hn, if_neg h])
    refine req_iff.2 ⟨inR_i64.2 (by omega), fork_iff.2 ⟨fun c => fork_iff.2 ⟨fun d => far fun h => ?_, fun d => ?_⟩, fun c => far fun h => (of_decide_eq_false c) h.1⟩⟩
    · simp only [Bool.not_eq_true', decide_eq_false_iff_not] at d; omega
    · have c : 0 ≤ r := of_decide_eq_true c
      have d : r ≤ facI n.toNat - 1 := by simpa using d
      have hr : 0 ≤ r ∧ r < facI n.toNat := ⟨c, by omega⟩
      refine ⟨⟨a, b, c, hr.2⟩, fun o ho => ?_⟩
      have hl : o.length = 8 := by rw [ho]; exact pad8_len (by rw [ordF_len]; omega)
      refine req_iff.2 ⟨decide_eq_true hl, req_iff.2 ⟨decide_eq_true hl, fun ys hys => ?_⟩⟩
      subst hys
      refine req_iff.2 ⟨decide_eq_true ⟨by omega, by omega, b⟩, req_iff.2 ⟨decide_eq_true hl, req_iff.2 ⟨decide_eq_true (by omega), ?_⟩⟩⟩
      rw [ho, pad8_seg (by rw [ordF_len]; omega), List.take_of_length_le (by rw [ordF_len]; omega)]
      refine ⟨by rw [ordF_len]; omega, fun r2 hr2 => req_iff.2 ⟨by simp, ?_⟩⟩
      rw [seg_self]
      exact hK _ _ (by rw [unrankV, if_pos hn, if_pos hr, hr2])
theorem ok37 : FnOk Try.prog 37 fc37 := fn1_of (n := 5) ((((good2_nilN _).addF2 ok58).addF ok77).addF ok76) fun (n, r, ()) K hx => h37 n r K hx.2
theorem h39L (n m s : Int) (l : List Int) (i : Int) (Q : LQ) (h1 : 1 ≤ n) (h2 : n ≤ 8) (h3 : l.length ≤ 16) (h4 : 0 ≤ i) (h5 : i ≤ l.length) (h6 : 0 ≤ s) (h7 : s ≤ 40320 * i)
    (q1 : (l.drop i.toNat).all (inF n) = true → ∀ s' : Int, s' = s + (l.drop i.toNat).sum → Q (.exit 0) (stS 0 sh39e (n, m, s', ()))) (q2 : (l.drop i.toNat).all (inF n) = false → Q .ret (stS 0 sh39r ([], 104, ()))) :
    xloop2 Try.prog { nm := true, f := [(76, fc76)] } 5 39 0 lc39 ex39 (fun (_, _, _, l, _, i, _) => mL l i) (n, m, s, l, (l.length : Int), i, ()) Q := by
  rw [v39L]
  have hf := fac8 (show n.toNat ≤ 8 by omega)
  have hp := fac_pos n.toNat
  refine fork_iff.2 ⟨fun hi => ?_, fun hi => ?_⟩
  · have hi : i < l.length := of_decide_eq_true hi
    rw [drop_step 0 h4 hi] at q1 q2
    rw [List.all_cons] at q1 q2
    rw [List.sum_cons] at q1
    refine req_iff.2 ⟨decide_eq_true ⟨h4, hi⟩, h2, fun f hfe => ?_⟩
    subst hfe
    have bad : inF n (l.getD i.toNat 0) = false → Q .ret (stS 0 sh39r ([], 104, ())) := fun h => q2 (by rw [h]; rfl)
    refine req_iff.2 ⟨inR_i64.2 (by omega), fork_iff.2 ⟨fun c => fork_iff.2 ⟨fun d => bad ?_, fun d => ?_⟩, fun c => bad ?_⟩⟩
    · simp only [Bool.not_eq_true', decide_eq_false_iff_not] at d
      exact decide_eq_false fun h => d h.2
    · have c : l.getD i.toNat 0 ≥ 0 := of_decide_eq_true c
      have d : l.getD i.toNat 0 ≤ facI n.toNat - 1 := by simpa using d
      have hin : inF n (l.getD i.toNat 0) = true := decide_eq_true ⟨c, d⟩
      rw [hin, Bool.true_and] at q1 q2
      generalize l.getD i.toNat 0 = x at *
      refine req_iff.2 ⟨inR_i64.2 (by omega), req_iff.2 ⟨inR_i64.2 (by omega), mL_lt hi, ⟨h1, h2, rfl, h3, ⟨show (0 : Int) ≤ i + 1 by omega, show i + 1 ≤ (l.length : Int) by omega⟩, show (0 : Int) ≤ s + x by omega, show s + x ≤ 40320 * (i + 1) by omega⟩, fun hd s' hs' => q1 hd s' ?_, q2⟩⟩
      have hs' : s' = s + x + (l.drop (i + 1).toNat).sum := hs'
      rw [hs', Int.add_assoc]
    · exact decide_eq_false fun h => (of_decide_eq_false c) h.1
  · have hi : ¬ i < l.length := of_decide_eq_false hi
    rw [drop_end hi] at q1
    exact q1 rfl s (by simp)
theorem ok39L : Lp2Ok Try.prog 39 0 lc39 := lp2_of (n := 5) (ex := ex39) (m := fun (_, _, _, l, _, i, _) => mL l i) ((good2_nilN _).addF ok76) fun (n, m, s, l, c, i, ()) Q hx => by
  obtain ⟨⟨h1, h2, hc, h3, h4, h5⟩, q1, q2⟩ := hx
  have hc : c = (l.length : Int) := hc
  subst hc
  exact h39L n m s l i Q h1 h2 h3 h4.1 h4.2 h5.1 h5.2 q1 q2
theorem sum_nonneg {l : List Int} (h : ∀ x ∈ l, 0 ≤ x) : 0 ≤ l.sum := by
  induction l with
  | nil => exact Int.le_refl 0
  | cons x l ih => have := ih fun y hy => h y (List.mem_cons_of_mem _ hy); have := h x List.mem_cons_self; rw [List.sum_cons]; omega
theorem h39 (n m : Int) (l : List Int) (K : dens [L, E] → Prop) (hK : ∀ r e, (r, e) = drawV n m l → K (r, e, ())) : xfn1 Try.prog { nm := true, f := [(76, fc76), (77, fc77)], f2 := [(58, fc58)], l2 := [(39, 0, lc39)] } 5 39 fc39 (n, m, l, ()) K := by
  rw [v39F]
  have bad : ¬ ((1 ≤ n ∧ n ≤ 8) ∧ (1 ≤ l.length ∧ l.length ≤ 16) ∧ l.all (inF n) = true) → K ([], (104 : Int), ()) := fun h => hK _ _ (by rw [drawV, if_neg h])
  refine fork_iff.2 ⟨fun a => fork_iff.2 ⟨fun b => bad fun h => ?_, fun b => fork_iff.2 ⟨fun a2 => fork_iff.2 ⟨fun b2 => bad fun h => ?_, fun b2 => ?_⟩, fun a2 => bad fun h => (of_decide_eq_false a2) (by have := h.2.1.1; omega)⟩⟩, fun a => bad fun h => (of_decide_eq_false a) h.1.1⟩
  · simp only [Bool.not_eq_true', decide_eq_false_iff_not] at b; exact b h.1.2
  · simp only [Bool.not_eq_true', decide_eq_false_iff_not] at b2; have := h.2.1.2; omega
  · have a : 1 ≤ n := of_decide_eq_true a
    have b : n ≤ 8 := by simpa using b
    have a2 : (l.length : Int) ≥ 1 := of_decide_eq_true a2
    have b2 : (l.length : Int) ≤ 16 := by simpa using b2
    have hf := fac8 (show n.toNat ≤ 8 by omega)
    have hp := fac_pos n.toNat
    refine ⟨⟨a, b, rfl, by omega, ⟨Int.le_refl 0, show (0 : Int) ≤ (l.length : Int) by omega⟩, Int.le_refl 0, Int.le_refl 0⟩, fun hd s' hs' => ?_, fun hd => bad fun h => ?_⟩
    · rw [List.drop_zero] at hd hs'
      have hs' : s' = 0 + l.sum := hs'
      have hsum : s' = l.sum := by rw [hs', Int.zero_add]
      subst hsum
      clear hs'
      have hok : (1 ≤ n ∧ n ≤ 8) ∧ (1 ≤ l.length ∧ l.length ≤ 16) ∧ l.all (inF n) = true := ⟨⟨a, b⟩, ⟨by omega, by omega⟩, hd⟩
      have hs0 : 0 ≤ l.sum := sum_nonneg fun x hx => (of_decide_eq_true (List.all_eq_true.1 hd x hx) : 0 ≤ x ∧ x ≤ _).1
      have far : ¬ (0 ≤ m ∧ m ≤ n) → K ([], (7 : Int), ()) := fun h => hK _ _ (by rw [drawV, if_pos hok, if_neg h])
      refine fork_iff.2 ⟨fun c => fork_iff.2 ⟨fun d => far fun h => ?_, fun d => ?_⟩, fun c => far fun h => (of_decide_eq_false c) h.1⟩
      · simp only [Bool.not_eq_true', decide_eq_false_iff_not] at d; exact d h.2
      · have c : 0 ≤ m := of_decide_eq_true c
        have d : m ≤ n := by simpa using d
        refine ⟨b, fun f hfe => ?_⟩
        subst hfe
        have e1 : Int.tmod l.sum (facI n.toNat) = l.sum % facI n.toNat := Int.tmod_eq_emod_of_nonneg hs0
        have r0 := Int.emod_nonneg l.sum (show facI n.toNat ≠ 0 by omega)
        have r1 := Int.emod_lt_of_pos l.sum (show 0 < facI n.toNat by omega)
        rw [e1]
        refine req_iff.2 ⟨decide_eq_true (by omega), ⟨a, b, r0, r1⟩, fun o ho => ?_⟩
        have hl : o.length = 8 := by rw [ho]; exact pad8_len (by rw [ordF_len]; omega)
        refine req_iff.2 ⟨decide_eq_true hl, req_iff.2 ⟨decide_eq_true hl, fun ys hys => ?_⟩⟩
        subst hys
        refine req_iff.2 ⟨decide_eq_true ⟨by omega, c, by omega⟩, req_iff.2 ⟨decide_eq_true hl, req_iff.2 ⟨decide_eq_true (by omega), ?_⟩⟩⟩
        rw [ho, pad8_seg (by rw [ordF_len]; omega)]
        refine ⟨by rw [List.length_take, ordF_len]; omega, fun r2 hr2 => req_iff.2 ⟨by simp, ?_⟩⟩
        rw [seg_self]
        exact hK _ _ (by rw [drawV, if_pos hok, if_pos ⟨c, d⟩, hr2])
    · rw [List.drop_zero] at hd
      rw [hd] at h; exact absurd h.2.2 (by simp)
theorem ok39 : FnOk Try.prog 39 fc39 := fn1_of (n := 5) (((((good2_nilN _).addL2 ok39L).addF2 ok58).addF ok77).addF ok76) fun (n, m, l, ()) K hx => h39 n m l K hx.2
end Go.P10
