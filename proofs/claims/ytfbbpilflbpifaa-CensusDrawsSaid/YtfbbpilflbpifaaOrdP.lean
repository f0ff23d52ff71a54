/- Orders: the reference keeps the contracts; CensusDraws returns true. No conditions. -/
import Derived.Test.YtfbbpilflbpifaaOrdS
set_option linter.constructorNameAsVariable false
set_option linter.unusedVariables false
set_option linter.unusedSimpArgs false
set_option maxRecDepth 100000
set_option maxHeartbeats 4000000
namespace Go.P10
open Go.Lom Go.Proofs Go

theorem h78L (n i : Int) (Q : LQ) (h1 : n ≤ 8) (h2 : 2 ≤ i) (h3 : i ≤ max n 1 + 1) (hQ : ∀ r : Int, r = facI n.toNat → Q (.exit 0) (stS 0 sh78e (r, ()))) :
    xloop2 Try.prog {} 5 78 0 lc78 (fun _ => some (sh78e, 0)) (fun (n, _, i, _) => (n + 1 - i).toNat) (n, facI (i - 1).toNat, i, ()) Q := by
  rw [v78L]
  have hf := fac8 (show (i - 1).toNat ≤ 8 by omega)
  have hp := fac_pos (i - 1).toNat
  refine fork_iff.2 ⟨fun hi => ?_, fun hi => ?_⟩
  · have hi : i ≤ n := of_decide_eq_true hi
    have e : facI (i - 1).toNat * i = facI (i + 1 - 1).toNat := by
      rw [show (i + 1 - 1).toNat = (i - 1).toNat + 1 by omega, facI, Int.mul_comm]
      congr 1; omega
    have hf2 := fac8 (show (i + 1 - 1).toNat ≤ 8 by omega)
    have hp2 := fac_pos (i + 1 - 1).toNat
    rw [e]
    exact req_iff.2 ⟨inR_i64.2 (by omega), req_iff.2 ⟨inR_i64.2 (by omega), show (n + 1 - (i + 1)).toNat < (n + 1 - i).toNat by omega, ⟨h1, ⟨show 2 ≤ i + 1 by omega, show i + 1 ≤ max n 1 + 1 by omega⟩, rfl⟩, hQ⟩⟩
  · have hi : ¬ i ≤ n := of_decide_eq_false hi
    by_cases hn : 1 ≤ n
    · rw [show (i - 1).toNat = n.toNat by omega]; exact hQ _ rfl
    · rw [show i = 2 by omega]
      refine hQ _ ?_
      rw [show n.toNat = 0 by omega]; rfl
theorem ok78L : Lp2Ok Try.prog 78 0 lc78 := lp2_of (n := 5) (ex := fun _ => some (sh78e, 0)) (m := fun (n, _, i, _) => (n + 1 - i).toNat) (good2_nil _) fun (n, x, i, ()) Q hx => by
  obtain ⟨⟨h1, h2, h3⟩, hQ⟩ := hx
  have h3 : x = facI (i - 1).toNat := h3
  subst h3
  exact h78L n i Q h1 h2.1 h2.2 hQ
theorem h78 (n : Int) (K : dens [I] → Prop) (h1 : n ≤ 8) (hK : ∀ r : Int, r = facI n.toNat → K (r, ())) : xfn1 Try.prog { l2 := [(78, 0, lc78)] } 5 78 fc78 (n, ()) K := by
  rw [v78F]
  exact ⟨⟨h1, ⟨Int.le_refl 2, show (2 : Int) ≤ max n 1 + 1 by omega⟩, rfl⟩, hK⟩
theorem ok78 : FnOk Try.prog 78 fc78 := fn1_of (n := 5) ((good2_nil _).addL2 ok78L) fun (n, ()) K hx => h78 n K hx.1 hx.2
theorem hSmL (l : List Int) (n i : Int) (Q : LQ) (h1 : smallL l) (h2 : 0 ≤ i ∧ i ≤ l.length) (h3 : 0 ≤ n ∧ n ≤ 1000000 * i) (hQ : ∀ r : Int, r = n + (l.drop i.toNat).sum → Q (.exit 0) (stS 0 shSmE (r, ()))) :
    xloop2 Try.prog {} 5 24 0 lcSm (fun _ => some (shSmE, 0)) (fun (l, _, i, _) => mL l i) (l, n, i, ()) Q := by
  rw [vSmL]
  have hl := h1.1
  refine fork_iff.2 ⟨fun hi => ?_, fun hi => ?_⟩
  · have hi : i < l.length := of_decide_eq_true hi
    have hx := h1.2 _ (getD_mem (show i.toNat < l.length by omega) 0)
    rw [drop_step 0 h2.1 hi, List.sum_cons, ← Int.add_assoc] at hQ
    exact req_iff.2 ⟨decide_eq_true ⟨h2.1, hi⟩, req_iff.2 ⟨inR_i64.2 (by omega), req_iff.2 ⟨inR_i64.2 (by omega), mL_lt hi, ⟨h1, ⟨show (0 : Int) ≤ i + 1 by omega, show i + 1 ≤ (l.length : Int) by omega⟩, show 0 ≤ n + l.getD i.toNat 0 by omega, show n + l.getD i.toNat 0 ≤ 1000000 * (i + 1) by omega⟩, hQ⟩⟩⟩
  · have hi : ¬ i < l.length := of_decide_eq_false hi
    rw [drop_end hi] at hQ
    exact hQ n (by simp)
theorem okSmL : Lp2Ok Try.prog 24 0 lcSm := lp2_of (n := 5) (ex := fun _ => some (shSmE, 0)) (m := fun (l, _, i, _) => mL l i) (good2_nil _) fun (l, n, i, ()) Q hx => by
  obtain ⟨⟨h1, h2, h3⟩, hQ⟩ := hx
  exact hSmL l n i Q h1 h2 h3 hQ
theorem okSm : FnOk Try.prog 24 fcSm := fn1_of (n := 5) ((good2_nil _).addL2 okSmL) fun (l, ()) K hx => by
  obtain ⟨h1, hK⟩ := hx
  have hK : ∀ r : Int, r = l.sum → K (r, ()) := hK
  rw [vSmF]
  refine ⟨⟨h1, ⟨Int.le_refl 0, show (0 : Int) ≤ (l.length : Int) by omega⟩, Int.le_refl 0, Int.le_refl 0⟩, fun r hr => hK r ?_⟩
  have hr : r = 0 + (l.drop 0).sum := hr
  rw [hr, List.drop_zero, Int.zero_add]
/-! the order with a rank -/
theorem h26p (z : List Int) (n : Nat) (K : fc26p.post.den → Prop) (h1 : n ≤ z.length) (h2 : z.length ≤ 1000) (hK : ∀ r : List Int, r = z.take n → K ((z, n), r, ())) : xfn2 Try.prog {} 5 26 fc26p ((z, n), ()) K := by
  rw [v26P]
  have hs : seg 0 n z = z.take n := seg_take
  rw [hs]
  have hl : (z.take n).length = n := by rw [List.length_take]; omega
  refine req_iff.2 ⟨decide_eq_true (by omega), req_iff.2 ⟨fitsM (by omega), req_iff.2 ⟨Nat.ble_eq_true_of_le h1, req_iff.2 ⟨decide_eq_true (by simp), hK _ ?_⟩⟩⟩⟩
  rw [Nat.zero_add, List.nil_append, seg_self]
theorem ok26p : F2Ok Try.prog 26 fc26p := fn2_of (n := 5) (good2_nil _) fun ((z, n), ()) K hx => h26p z n K hx.1.1 hx.1.2 hx.2
theorem h79A (n r : Int) (o : List Int) (i : Int) (Q : LQ) (h1 : 1 ≤ n) (h2 : n ≤ 8) (h3 : 0 ≤ i) (h4 : i ≤ n) (hQ : ∀ l' : List Int, l' = upTo n.toNat → Q (.exit 0) (stS 2 sh79ae (n, r, l', o, ()))) :
    xloop2 Try.prog { nm := true } 5 79 0 lc79a (fun _ => some (sh79ae, 2)) (fun (n, _, _, _, i, _) => (n - i).toNat) (n, r, upTo i.toNat, o, i, ()) Q := by
  rw [v79A]
  have hl := upTo_len i.toNat
  have hs := upTo_succ i.toNat
  rw [show ((i.toNat : Nat) : Int) = i by omega, show i.toNat + 1 = (i + 1).toNat by omega] at hs
  have t0 : decide (0 + o.length ≤ o.length) = true := decide_eq_true (by omega)
  generalize hU : upTo i.toNat = l at *
  rw [seg_self, seg_self]
  refine fork_iff.2 ⟨fun hi => ?_, fun hi => ?_⟩
  · have hi : i < n := of_decide_eq_true hi
    refine req_iff.2 ⟨decide_eq_true (by omega), req_iff.2 ⟨fitsM (by omega), fun ys hys => req_iff.2 ⟨inR_i64.2 (by omega), ?_⟩⟩⟩
    have hyl : ys.length = l.length + 1 := by rw [hys]; simp
    have hsg : seg 0 (l.length + 1) ys = ys := by rw [← hyl]; exact seg_self ys
    rw [hsg]
    exact req_iff.2 ⟨decide_eq_true (by omega), req_iff.2 ⟨t0, show (n - (i + 1)).toNat < (n - i).toNat by omega, ⟨h1, h2, ⟨show 0 ≤ i + 1 by omega, show i + 1 ≤ n by omega⟩, by rw [hs]; exact hys⟩, hQ⟩⟩
  · have hi : ¬ i < n := of_decide_eq_false hi
    exact req_iff.2 ⟨decide_eq_true (by omega), req_iff.2 ⟨t0, hQ l (by rw [← hU, show i.toNat = n.toNat by omega])⟩⟩
theorem ok79A : Lp2Ok Try.prog 79 0 lc79a := lp2_of (n := 5) (ex := fun _ => some (sh79ae, 2)) (m := fun (n, _, _, _, i, _) => (n - i).toNat) (good2_nilN _) fun (n, r, l, o, i, ()) Q hx => by
  obtain ⟨⟨h1, h2, h3, hl⟩, hQ⟩ := hx
  have hl : l = upTo i.toNat := hl
  subst hl
  exact h79A n r o i Q h1 h2 h3.1 h3.2 hQ
theorem h79B (n r : Int) (l o : List Int) (i : Int) (Q : LQ) (h1 : 1 ≤ n) (h2 : n ≤ 8) (h3 : 0 ≤ i ∧ i ≤ n) (h4 : (l.length : Int) = n - i) (h5 : (o.length : Int) = i) (h6 : 0 ≤ r ∧ r < facI (n - i).toNat) (hQ : ∀ o' : List Int, o' = o ++ takeR (n - i).toNat l r → Q (.exit 2) (stS 2 (S [(6, .own 1 I)]) (o', ()))) :
    xloop2 Try.prog { nm := true, f := [(78, fc78)], f2 := [(26, fc26p)] } 5 79 1 lc79b (fun _ => some (S [(6, .own 1 I)], 2)) (fun (n, _, _, _, i, _) => (n - i).toNat) (n, r, l, o, i, ()) Q := by
  rw [v79B]
  have t0 : decide (0 + o.length ≤ o.length) = true := decide_eq_true (by omega)
  refine fork_iff.2 ⟨fun hi => ?_, fun hi => ?_⟩
  · have hi : i < n := of_decide_eq_true hi
    obtain ⟨m, hm⟩ : ∃ m : Nat, (n - i).toNat = m + 1 := ⟨(n - i).toNat - 1, by omega⟩
    have em : (n - 1 - i).toNat = m := by omega
    rw [em]
    rw [hm] at h6 hQ
    rw [takeR] at hQ
    have hf := fac_pos m
    have hf8 := fac8 (show m ≤ 8 by omega)
    have h6b := h6.2
    rw [facI] at h6b
    have hq0 : 0 ≤ r / facI m := Int.ediv_nonneg h6.1 (by omega)
    have hq1 : r / facI m < m + 1 := Int.ediv_lt_of_lt_mul (by omega) h6b
    have r0 := Int.emod_nonneg r (show facI m ≠ 0 by omega)
    have r1 := Int.emod_lt_of_pos r (show 0 < facI m by omega)
    have in1 : inR .i64 (n - 1) = true := inR_i64.2 (by omega)
    have in2 : inR .i64 (n - 1 - i) = true := inR_i64.2 (by omega)
    refine req_iff.2 ⟨in1, req_iff.2 ⟨in2, show n - 1 - i ≤ 8 by omega, fun f hfe => ?_⟩⟩
    have e1 : Int.tdiv r f = r / f := Int.tdiv_eq_ediv_of_nonneg h6.1
    rw [e1, hfe]
    generalize hk : r / facI m = k at *
    simp only [Nat.add_zero]
    refine req_iff.2 ⟨decide_eq_true (by omega), req_iff.2 ⟨inR_i64.2 (by omega), req_iff.2 ⟨in1, req_iff.2 ⟨in2, show n - 1 - i ≤ 8 by omega, fun f2 hfe2 => ?_⟩⟩⟩⟩
    have e2 : Int.tmod r f2 = r % f2 := Int.tmod_eq_emod_of_nonneg h6.1
    rw [e2, hfe2]
    have hkl : k.toNat < l.length := by omega
    refine req_iff.2 ⟨decide_eq_true (by omega), req_iff.2 ⟨decide_eq_true ⟨hq0, by omega⟩, req_iff.2 ⟨decide_eq_true hkl, req_iff.2 ⟨t0, req_iff.2 ⟨fitsM (by omega), fun ys hys => ?_⟩⟩⟩⟩⟩
    rw [seg_self] at hys
    have hyl : ys.length = o.length + 1 := by rw [hys]; simp
    have hsg : seg 0 (o.length + 1) ys = ys := by rw [← hyl]; exact seg_self ys
    refine req_iff.2 ⟨decide_eq_true ⟨Int.le_refl 0, hq0, by omega, Nat.le_refl _⟩, req_iff.2 ⟨inR_i64.2 (by omega), req_iff.2 ⟨decide_eq_true ⟨by omega, by omega, Int.le_refl _, Nat.le_refl _⟩, req_iff.2 ⟨Nat.ble_eq_true_of_le (by omega), ⟨by omega, by omega⟩, fun t ht => ?_⟩⟩⟩⟩
    have htl : t.length = k.toNat := by rw [ht, List.length_take]; omega
    have ek : (k + 1).toNat = k.toNat + 1 := by omega
    rw [ek]
    have hsl : seg (k.toNat + 1) (l.length - (k.toNat + 1)) l = l.drop (k.toNat + 1) := by
      unfold seg
      rw [List.take_of_length_le (by rw [List.length_drop]; omega)]
    rw [hsl]
    have hdl : (l.drop (k.toNat + 1)).length = l.length - (k.toNat + 1) := List.length_drop
    refine req_iff.2 ⟨decide_eq_true (by omega), req_iff.2 ⟨decide_eq_true (by omega), req_iff.2 ⟨fitsM (by omega), fun zs hzs => req_iff.2 ⟨inR_i64.2 (by omega), ?_⟩⟩⟩⟩
    rw [seg_self] at hzs
    have hzl : zs.length = t.length + (l.drop (k.toNat + 1)).length := by rw [hzs, List.length_append]
    have hsz : seg 0 (t.length + (l.drop (k.toNat + 1)).length) zs = zs := by rw [← hzl]; exact seg_self zs
    rw [hsz, hsg]
    refine req_iff.2 ⟨decide_eq_true (by omega), req_iff.2 ⟨decide_eq_true (by omega), show (n - (i + 1)).toNat < (n - i).toNat by omega, ⟨h1, h2, ⟨show 0 ≤ i + 1 by omega, show i + 1 ≤ n by omega⟩, show (zs.length : Int) = n - (i + 1) by omega, show (ys.length : Int) = i + 1 by omega, r0, ?_⟩, fun o' ho' => hQ o' ?_⟩⟩
    · show r % facI m < facI (n - (i + 1)).toNat
      rw [show (n - (i + 1)).toNat = m by omega]; exact r1
    · have ho' : o' = ys ++ takeR (n - (i + 1)).toNat zs (r % facI m) := ho'
      rw [ho', show (n - (i + 1)).toNat = m by omega, hys, hzs, ht, List.append_assoc, List.eraseIdx_eq_take_drop_succ]
      rfl
  · have hi : ¬ i < n := of_decide_eq_false hi
    rw [show (n - i).toNat = 0 by omega, takeR, List.append_nil] at hQ
    rw [seg_self]
    exact req_iff.2 ⟨t0, hQ o rfl⟩
theorem ok79B : Lp2Ok Try.prog 79 1 lc79b := lp2_of (n := 5) (ex := fun _ => some (S [(6, .own 1 I)], 2)) (m := fun (n, _, _, _, i, _) => (n - i).toNat) (((good2_nilN _).addF2 ok26p).addF ok78) fun (n, r, l, o, i, ()) Q hx => by
  obtain ⟨⟨h1, h2, h3, h4, h5, h6⟩, hQ⟩ := hx
  exact h79B n r l o i Q h1 h2 h3 h4 h5 h6 hQ
theorem h79 (n r : Int) (K : dens [L] → Prop) (h1 : 1 ≤ n) (h2 : n ≤ 8) (h3 : 0 ≤ r) (h4 : r < facI n.toNat) (hK : ∀ o : List Int, o = ordF n r → K (o, ())) : xfn1 Try.prog { nm := true, l2 := [(79, 0, lc79a), (79, 1, lc79b)] } 5 79 fc79 (n, r, ()) K := by
  rw [v79F]
  have h0 : (0 : Int) ≤ n := by omega
  refine ⟨⟨h1, h2, ⟨Int.le_refl 0, h0⟩, rfl⟩, fun l hl => req_iff.2 ⟨decide_eq_true (by omega), ?_⟩⟩
  rw [seg_self, Int.sub_zero]
  have hll := upTo_len n.toNat
  rw [← hl] at hll
  refine ⟨⟨h1, h2, ⟨Int.le_refl 0, h0⟩, show (l.length : Int) = n by omega, rfl, h3, h4⟩, fun o ho => req_iff.2 ⟨decide_eq_true (by omega), ?_⟩⟩
  rw [seg_self]
  exact hK o (by rw [ho, hl]; rfl)
theorem ok79 : FnOk Try.prog 79 fc79 := fn1_of (n := 5) (((good2_nilN _).addL2 ok79B).addL2 ok79A) fun (n, r, ()) K hx => h79 n r K hx.1.1 hx.1.2.1 hx.1.2.2.1 hx.1.2.2.2 hx.2
theorem h38 (n r : Int) (K : dens [L, E] → Prop) (hK : ∀ l e, (l, e) = unrankV n r → K (l, e, ())) : xfn1 Try.prog { nm := true, f := [(78, fc78), (79, fc79)] } 5 38 fc37 (n, r, ()) K := by
  rw [v38F]
  have bad : ¬ (1 ≤ n ∧ n ≤ 8) → K ([], (104 : Int), ()) := fun h => hK _ _ (by rw [unrankV, if_neg h])
  refine fork_iff.2 ⟨fun a => fork_iff.2 ⟨fun b => bad fun h => ?_, fun b => ?_⟩, fun a => bad fun h => (of_decide_eq_false a) h.1⟩
  · simp only [Bool.not_eq_true', decide_eq_false_iff_not] at b; exact b h.2
  · have a : 1 ≤ n := of_decide_eq_true a
    have b : n ≤ 8 := by simpa using b
    have far : ¬ (0 ≤ r ∧ r < facI n.toNat) → K ([], (7 : Int), ()) := fun h => hK _ _ (by rw [unrankV, if_pos ⟨a, b⟩, if_neg h])
    have hf := fac8 (show n.toNat ≤ 8 by omega)
    have hp := fac_pos n.toNat
    refine ⟨b, fun f hfe => ?_⟩
    subst hfe
    refine req_iff.2 ⟨inR_i64.2 (by omega), fork_iff.2 ⟨fun c => fork_iff.2 ⟨fun d => far fun h => ?_, fun d => ?_⟩, fun c => far fun h => (of_decide_eq_false c) h.1⟩⟩
    · simp only [Bool.not_eq_true', decide_eq_false_iff_not] at d; omega
    · have c : 0 ≤ r := of_decide_eq_true c
      have d : r ≤ facI n.toNat - 1 := by simpa using d
      exact ⟨⟨a, b, c, by omega⟩, fun o ho => hK _ _ (by rw [unrankV, if_pos ⟨a, b⟩, if_pos ⟨c, by omega⟩, ho])⟩
theorem ok38 : FnOk Try.prog 38 fc37 := fn1_of (n := 5) (((good2_nilN _).addF ok79).addF ok78) fun (n, r, ()) K hx => h38 n r K hx.2
/-! Draw -/
theorem h40L (n m : Int) (l : List Int) (ok : Bool) (i : Int) (Q : LQ) (h0 : 0 ≤ i) (h1 : ok = true → (1 ≤ n ∧ n ≤ 8) ∧ l.length ≤ 16 ∧ i ≤ l.length) (hQ : ∀ b : Bool, b = (ok && (l.drop i.toNat).all (inF n)) → Q (.exit 0) (stS 0 sh40e (n, m, l, b, ()))) :
    xloop2 Try.prog { nm := true, f := [(78, fc78)] } 5 40 0 lc40 (fun _ => some (sh40e, 0)) (fun (_, _, l, _, i, _) => (l.length + 1 - i).toNat) (n, m, l, ok, i, ()) Q := by
  rw [v40L]
  refine fork_iff.2 ⟨fun ho => ?_, fun ho => hQ ok (by rw [ho]; rfl)⟩
  obtain ⟨o1, o2, o3⟩ := h1 ho
  refine fork_iff.2 ⟨fun hi => ?_, fun hi => ?_⟩
  · have hi : i < l.length := of_decide_eq_true hi
    rw [drop_step 0 h0 hi, ho, Bool.true_and, List.all_cons] at hQ
    have hf := fac8 (show n.toNat ≤ 8 by omega)
    have hp := fac_pos n.toNat
    have nx : ∀ b : Bool, b = inF n (l.getD i.toNat 0) → req (inR .i64 (i + 1)) (((l.length : Int) + 1 - (i + 1)).toNat < ((l.length : Int) + 1 - i).toNat ∧ lc40.spec (n, m, l, b, i + 1, ()) Q) := fun b hb =>
      req_iff.2 ⟨inR_i64.2 (by omega), by omega, ⟨show (0 : Int) ≤ i + 1 by omega, fun _ => ⟨o1, o2, show i + 1 ≤ (l.length : Int) by omega⟩⟩, fun r hr => hQ r (by rw [hr, hb])⟩
    refine req_iff.2 ⟨decide_eq_true ⟨h0, hi⟩, o1.2, fun f hfe => ⟨rfl, ?_⟩⟩
    subst hfe
    refine req_iff.2 ⟨inR_i64.2 (by omega), fork_iff.2 ⟨fun c => nx _ ?_, fun c => nx _ ?_⟩⟩
    · have c := of_decide_eq_true c
      unfold inF
      by_cases d : l.getD i.toNat 0 ≤ facI n.toNat - 1
      · rw [decide_eq_true d, decide_eq_true ⟨c, d⟩]
      · rw [decide_eq_false d, decide_eq_false fun q => d q.2]
    · have c := of_decide_eq_false c
      unfold inF
      rw [decide_eq_false fun q => c q.1]
  · have hi : ¬ i < l.length := of_decide_eq_false hi
    rw [drop_end hi] at hQ
    exact hQ ok (by simp)
theorem ok40L : Lp2Ok Try.prog 40 0 lc40 := lp2_of (n := 5) (ex := fun _ => some (sh40e, 0)) (m := fun (_, _, l, _, i, _) => (l.length + 1 - i).toNat) ((good2_nilN _).addF ok78) fun (n, m, l, ok, i, ()) Q hx => by
  obtain ⟨⟨h0, h1⟩, hQ⟩ := hx
  exact h40L n m l ok i Q h0 h1 hQ
theorem h40 (n m : Int) (l : List Int) (K : dens [L, E] → Prop) (hK : ∀ r e, (r, e) = drawV n m l → K (r, e, ())) : xfn1 Try.prog { nm := true, f := [(24, fcSm), (25, fc25), (78, fc78), (79, fc79)], l2 := [(40, 0, lc40)] } 5 40 fc39 (n, m, l, ()) K := by
  rw [v40F]
  have bad0 : ¬ ((1 ≤ n ∧ n ≤ 8) ∧ (1 ≤ l.length ∧ l.length ≤ 16) ∧ l.all (inF n) = true) → K ([], (104 : Int), ()) := fun h => hK _ _ (by rw [drawV, if_neg h])
  have bad : ∀ {P : Prop}, ¬ ((1 ≤ n ∧ n ≤ 8) ∧ (1 ≤ l.length ∧ l.length ≤ 16) ∧ l.all (inF n) = true) → ∀ b : Bool, b = (false && (l.drop 0).all (inF n)) → fork (!b) (K ([], (104 : Int), ())) P := fun {P} h b hb => by
    rw [Bool.false_and] at hb
    subst hb
    exact fork_iff.2 ⟨fun _ => bad0 h, fun c => absurd c (by decide)⟩
  have z : (0 : Int) ≤ 0 := Int.le_refl 0
  have no : ∀ {P : Prop}, false = true → P := fun h => by cases h
  refine fork_iff.2 ⟨fun a1 => fork_iff.2 ⟨fun a2 => fork_iff.2 ⟨fun a3 => ?_, fun a3 => ⟨⟨z, no⟩, bad fun h => (of_decide_eq_false a3) (by have := h.2.1.1; omega)⟩⟩, fun a2 => ⟨⟨z, no⟩, bad fun h => (of_decide_eq_false a2) h.1.2⟩⟩, fun a1 => ⟨⟨z, no⟩, bad fun h => (of_decide_eq_false a1) h.1.1⟩⟩
  have a1 : 1 ≤ n := of_decide_eq_true a1
  have a2 : n ≤ 8 := of_decide_eq_true a2
  have a3 : (1 : Int) ≤ (l.length : Int) := of_decide_eq_true a3
  refine ⟨⟨z, fun a4 => ⟨⟨a1, a2⟩, by have := of_decide_eq_true a4; omega, show (0 : Int) ≤ (l.length : Int) by omega⟩⟩, fun b hb => fork_not (fun c => bad0 fun h => ?_) fun c => ?_⟩
  · rw [List.drop_zero, h.2.2, Bool.and_true, decide_eq_true (by have := h.2.1.2; omega)] at hb
    rw [hb] at c; cases c
  · rw [c] at hb
    have hb := hb.symm
    rw [List.drop_zero, Bool.and_eq_true] at hb
    obtain ⟨b1, b2⟩ := hb
    have b1 := of_decide_eq_true b1
    have hok : (1 ≤ n ∧ n ≤ 8) ∧ (1 ≤ l.length ∧ l.length ≤ 16) ∧ l.all (inF n) = true := ⟨⟨a1, a2⟩, ⟨by omega, by omega⟩, b2⟩
    have far : ¬ (0 ≤ m ∧ m ≤ n) → K ([], (7 : Int), ()) := fun h => hK _ _ (by rw [drawV, if_pos hok, if_neg h])
    refine fork_iff.2 ⟨fun c => fork_iff.2 ⟨fun d => far fun h => ?_, fun d => ?_⟩, fun c => far fun h => (of_decide_eq_false c) h.1⟩
    · simp only [Bool.not_eq_true', decide_eq_false_iff_not] at d; exact d h.2
    have c : 0 ≤ m := of_decide_eq_true c
    have d : m ≤ n := by simpa using d
    have hf := fac8 (show n.toNat ≤ 8 by omega)
    have hp := fac_pos n.toNat
    have hin : ∀ x ∈ l, 0 ≤ x ∧ x ≤ facI n.toNat - 1 := fun x hx => of_decide_eq_true (List.all_eq_true.1 b2 x hx)
    have hsum : ∀ l' : List Int, (∀ x ∈ l', 0 ≤ x ∧ x ≤ facI n.toNat - 1) → 0 ≤ l'.sum ∧ l'.sum ≤ 40320 * l'.length := fun l' => by
      induction l' with
      | nil => intro _; simp
      | cons x l' ih =>
        intro h
        have h1 := h x List.mem_cons_self
        have h2 := ih fun y hy => h y (List.mem_cons_of_mem _ hy)
        rw [List.sum_cons, List.length_cons]; omega
    have hs := hsum l hin
    refine ⟨⟨by omega, fun x hx => by have := hin x hx; omega⟩, fun (s : Int) hse => ⟨a2, fun f hfe => ?_⟩⟩
    have hse : s = l.sum := hse
    subst hse hfe
    have r0 := Int.emod_nonneg l.sum (show facI n.toNat ≠ 0 by omega)
    have r1 := Int.emod_lt_of_pos l.sum (show 0 < facI n.toNat by omega)
    refine ⟨⟨inR_i64.2 (by omega), hp, show facI n.toNat ≤ 1000000 by omega⟩, fun (q : Int) hq => ?_⟩
    have hq : q = l.sum % facI n.toNat := hq
    subst hq
    refine ⟨⟨a1, a2, r0, r1⟩, fun o ho => ?_⟩
    have hol : o.length = n.toNat := by rw [ho]; exact ordF_len ..
    refine req_iff.2 ⟨decide_eq_true ⟨z, c, by omega⟩, hK _ _ ?_⟩
    rw [drawV, if_pos hok, if_pos ⟨c, d⟩, List.drop_zero, ho]
theorem ok40 : FnOk Try.prog 40 fc39 := fn1_of (n := 5) ((((((good2_nilN _).addL2 ok40L).addF ok79).addF ok78).addF ok25).addF okSm) fun (n, m, l, ()) K hx => h40 n m l K hx.2
/-! Rank -/
theorem idx_first {p : Int → Bool} : ∀ {l : List Int} {i : Nat} {s : Int}, i < l.length → p (l.getD i 0) = true → (idxF p l s == s + i) = !(l.take i).any p
  | [], i, s, h, _ => by simp at h
  | x :: l, 0, s, _, h => by
    have h : p x = true := h
    rw [idxF, if_pos h]; simp
  | x :: l, i + 1, s, hi, h => by
    rw [List.getD_cons_succ] at h
    rw [idxF, List.take_succ_cons, List.any_cons]
    by_cases hx : p x = true
    · rw [if_pos hx, hx, Bool.true_or]
      have : (s == s + ((i + 1 : Nat) : Int)) = false := by rw [beq_eq_false_iff_ne]; omega
      rw [this]; rfl
    · have hx : p x = false := by simpa using hx
      rw [if_neg (by rw [hx]; decide), hx, Bool.false_or, ← idx_first (s := s + 1) (by simpa using hi) h]
      congr 1; omega
theorem h36A (l : List Int) (ok : Bool) (i : Int) (Q : LQ) (h0 : 0 ≤ i) (h1 : ok = true → (1 ≤ l.length ∧ l.length ≤ 8) ∧ i ≤ l.length) (hQ : ∀ b : Bool, b = (ok && goR l.length (l.take i.toNat) (l.drop i.toNat)) → Q (.exit 0) (stS 0 sh36ae (l, l.length, b, ()))) :
    xloop2 Try.prog { nm := true, f := [(41, fc41)] } 5 36 0 lc36a (fun _ => some (sh36ae, 0)) (fun (l, _, _, i, _) => (l.length + 1 - i).toNat) (l, (l.length : Int), ok, i, ()) Q := by
  rw [v36A]
  refine fork_iff.2 ⟨fun ho => ?_, fun ho => hQ ok (by rw [ho]; rfl)⟩
  obtain ⟨o1, o3⟩ := h1 ho
  refine fork_iff.2 ⟨fun hi => ?_, fun hi => ?_⟩
  · have hi : i < l.length := of_decide_eq_true hi
    rw [drop_step 0 h0 hi, ho, Bool.true_and, goR] at hQ
    have htk : l.take i.toNat ++ [l.getD i.toNat 0] = l.take (i + 1).toNat := by
      rw [show (i + 1).toNat = i.toNat + 1 by omega, List.take_add_one, List.getD_eq_getElem?_getD, List.getElem?_eq_getElem (by omega)]; rfl
    rw [htk] at hQ
    have nx : ∀ b : Bool, b = (decide (0 ≤ l.getD i.toNat 0 ∧ l.getD i.toNat 0 ≤ (l.length : Int) - 1) && !(l.take i.toNat).any (· == l.getD i.toNat 0)) → req (inR .i64 (i + 1)) (((l.length : Int) + 1 - (i + 1)).toNat < ((l.length : Int) + 1 - i).toNat ∧ lc36a.spec (l, (l.length : Int), b, i + 1, ()) Q) := fun b hb =>
      req_iff.2 ⟨inR_i64.2 (by omega), by omega, ⟨rfl, show (0 : Int) ≤ i + 1 by omega, fun _ => ⟨o1, show i + 1 ≤ (l.length : Int) by omega⟩⟩, fun r hr => hQ r (by rw [hr, hb])⟩
    refine req_iff.2 ⟨decide_eq_true ⟨h0, hi⟩, req_iff.2 ⟨inR_i64.2 (by omega), fork_iff.2 ⟨fun c => fork_iff.2 ⟨fun d => ?_, fun d => nx _ ?_⟩, fun c => nx _ ?_⟩⟩⟩
    · have c := of_decide_eq_true c
      have d : l.getD i.toNat 0 ≤ (l.length : Int) - 1 := of_decide_eq_true d
      refine req_iff.2 ⟨decide_eq_true ⟨h0, hi⟩, by omega, nx _ ?_⟩
      rw [decide_eq_true ⟨c, d⟩, Bool.true_and]
      have := idx_first (p := fun x => x == l.getD i.toNat 0) (l := l) (i := i.toNat) (s := 0) (by omega) (by simp)
      rw [← this]
      congr 1; omega
    · have d : ¬ l.getD i.toNat 0 ≤ (l.length : Int) - 1 := of_decide_eq_false d
      rw [decide_eq_false fun q => d q.2]; rfl
    · have c := of_decide_eq_false c
      rw [decide_eq_false fun q => c q.1]; rfl
  · have hi : ¬ i < l.length := of_decide_eq_false hi
    rw [drop_end hi] at hQ
    exact hQ ok (by simp [goR])
theorem ok36A : Lp2Ok Try.prog 36 0 lc36a := lp2_of (n := 5) (ex := fun _ => some (sh36ae, 0)) (m := fun (l, _, _, i, _) => (l.length + 1 - i).toNat) ((good2_nilN _).addF ok41) fun (l, n, ok, i, ()) Q hx => by
  obtain ⟨⟨hn, h0, h1⟩, hQ⟩ := hx
  have hn : n = (l.length : Int) := hn
  subst hn
  exact h36A l ok i Q h0 h1 hQ
theorem h36C (l : List Int) (r i s k : Int) (Q : LQ) (h1 : l.length ≤ 8) (h2 : 0 ≤ i ∧ i < l.length) (h3 : 0 ≤ k ∧ k ≤ l.length) (h4 : 0 ≤ s ∧ s ≤ k) (hQ : ∀ s' : Int, s' = s + lessN (l.getD i.toNat 0) (l.drop k.toNat) → Q (.exit 4) (stS 0 sh36ce (l, l.length, r, i, s', ()))) :
    xloop2 Try.prog { nm := true } 5 36 2 lc36c (fun _ => some (sh36ce, 0)) (fun (l, _, _, _, _, k, _) => mL l k) (l, (l.length : Int), r, i, s, k, ()) Q := by
  rw [v36C]
  refine fork_iff.2 ⟨fun hk => ?_, fun hk => ?_⟩
  · have hk : k < l.length := of_decide_eq_true hk
    rw [drop_step 0 h3.1 hk, lessN_cons] at hQ
    refine req_iff.2 ⟨decide_eq_true ⟨h3.1, hk⟩, req_iff.2 ⟨decide_eq_true h2, fork_iff.2 ⟨fun c => ?_, fun c => ?_⟩⟩⟩
    · rw [if_pos (of_decide_eq_true c), ← Int.add_assoc] at hQ
      exact req_iff.2 ⟨inR_i64.2 (by omega), req_iff.2 ⟨inR_i64.2 (by omega), mL_lt hk, ⟨rfl, h1, h2, ⟨show (0 : Int) ≤ k + 1 by omega, show k + 1 ≤ (l.length : Int) by omega⟩, show (0 : Int) ≤ s + 1 by omega, show s + 1 ≤ k + 1 by omega⟩, hQ⟩⟩
    · rw [if_neg (of_decide_eq_false c), Int.zero_add] at hQ
      exact req_iff.2 ⟨inR_i64.2 (by omega), mL_lt hk, ⟨rfl, h1, h2, ⟨show (0 : Int) ≤ k + 1 by omega, show k + 1 ≤ (l.length : Int) by omega⟩, h4.1, show s ≤ k + 1 by omega⟩, hQ⟩
  · have hk : ¬ k < l.length := of_decide_eq_false hk
    rw [drop_end hk] at hQ
    exact hQ s (by simp [lessN])
theorem ok36C : Lp2Ok Try.prog 36 2 lc36c := lp2_of (n := 5) (ex := fun _ => some (sh36ce, 0)) (m := fun (l, _, _, _, _, k, _) => mL l k) (good2_nilN _) fun (l, n, r, i, s, k, ()) Q hx => by
  obtain ⟨⟨hn, h1, h2, h3, h4⟩, hQ⟩ := hx
  have hn : n = (l.length : Int) := hn
  subst hn
  exact h36C l r i s k Q h1 h2 h3 h4 hQ
theorem h36B (l : List Int) (r i : Int) (Q : LQ) (h1 : l.length ≤ 8) (h2 : 0 ≤ i ∧ i ≤ l.length) (h3 : 0 ≤ r ∧ r ≤ 40320 * (8 * i)) (hQ : ∀ r' : Int, r' = r + rankL (l.drop i.toNat) → Q (.exit 2) (stS 0 (S [(7, .v I)]) (r', ()))) :
    xloop2 Try.prog { nm := true, f := [(78, fc78)], l2 := [(36, 2, lc36c)] } 5 36 1 lc36b (fun _ => some (S [(7, .v I)], 0)) (fun (l, _, _, i, _) => mL l i) (l, (l.length : Int), r, i, ()) Q := by
  rw [v36B]
  refine fork_iff.2 ⟨fun hi => ?_, fun hi => ?_⟩
  · have hi : i < l.length := of_decide_eq_true hi
    rw [drop_step 0 h2.1 hi, rankL] at hQ
    refine req_iff.2 ⟨inR_i64.2 (by omega), ⟨rfl, h1, ⟨h2.1, hi⟩, ⟨show (0 : Int) ≤ i + 1 by omega, show i + 1 ≤ (l.length : Int) by omega⟩, Int.le_refl 0, show (0 : Int) ≤ i + 1 by omega⟩, fun (s : Int) hs => ?_⟩
    have hs : s = 0 + (lessN (l.getD i.toNat 0) (l.drop (i + 1).toNat) : Int) := hs
    rw [Int.zero_add] at hs
    have hle := lessN_le (l.getD i.toNat 0) (l.drop (i + 1).toNat)
    have hdl : (l.drop (i + 1).toNat).length = l.length - (i + 1).toNat := List.length_drop
    have e : ((l.length : Int) - 1 - i).toNat = (l.drop (i + 1).toNat).length := by omega
    have hfp := fac_pos (l.drop (i + 1).toNat).length
    have hf8 := fac8 (show (l.drop (i + 1).toNat).length ≤ 8 by omega)
    refine req_iff.2 ⟨inR_i64.2 (by omega), req_iff.2 ⟨inR_i64.2 (by omega), show (l.length : Int) - 1 - i ≤ 8 by omega, fun f hfe => ?_⟩⟩
    rw [e] at hfe
    rw [← hfe, ← hs] at hQ
    rw [← hfe] at hfp hf8
    have hm := mul_bd (show (0 : Int) ≤ s by omega) (show s ≤ 8 by omega) (show 0 ≤ f by omega) hf8
    refine req_iff.2 ⟨inR_i64.2 (by omega), req_iff.2 ⟨inR_i64.2 (by omega), req_iff.2 ⟨inR_i64.2 (by omega), mL_lt hi, ⟨rfl, h1, ⟨show (0 : Int) ≤ i + 1 by omega, show i + 1 ≤ (l.length : Int) by omega⟩, show (0 : Int) ≤ r + s * f by omega, show r + s * f ≤ 40320 * (8 * (i + 1)) by omega⟩, fun r' hr' => hQ r' ?_⟩⟩⟩
    have hr' : r' = r + s * f + rankL (l.drop (i + 1).toNat) := hr'
    rw [hr', Int.add_assoc]
  · have hi : ¬ i < l.length := of_decide_eq_false hi
    rw [drop_end hi] at hQ
    exact hQ r (by simp [rankL])
theorem ok36B : Lp2Ok Try.prog 36 1 lc36b := lp2_of (n := 5) (ex := fun _ => some (S [(7, .v I)], 0)) (m := fun (l, _, _, i, _) => mL l i) (((good2_nilN _).addL2 ok36C).addF ok78) fun (l, n, r, i, ()) Q hx => by
  obtain ⟨⟨hn, h1, h2, h3⟩, hQ⟩ := hx
  have hn : n = (l.length : Int) := hn
  subst hn
  exact h36B l r i Q h1 h2 h3 hQ
theorem h36 (l : List Int) (K : dens [I, E] → Prop) (hK : ∀ r e, (r, e) = rankV l → K (r, e, ())) : xfn1 Try.prog { nm := true, l2 := [(36, 0, lc36a), (36, 1, lc36b)] } 5 36 fc35 (l, ()) K := by
  rw [v36F]
  have bad : ¬ ((1 ≤ l.length ∧ l.length ≤ 8) ∧ goR l.length [] l = true) → K ((0 : Int), (104 : Int), ()) := fun h => hK _ _ (by rw [rankV, if_neg h])
  have z : (0 : Int) ≤ 0 := Int.le_refl 0
  have no : ∀ {P : Prop}, false = true → P := fun h => by cases h
  have zl : (0 : Int) ≤ (l.length : Int) := by omega
  refine fork_iff.2 ⟨fun a1 => ?_, fun a1 => ⟨⟨rfl, z, no⟩, fun b hb => fork_not (fun c => bad fun h => (of_decide_eq_false a1) (by have := h.1.1; omega)) fun c => ?_⟩⟩
  · have a1 : (1 : Int) ≤ (l.length : Int) := of_decide_eq_true a1
    refine ⟨⟨rfl, z, fun a2 => ⟨⟨by omega, by have := of_decide_eq_true a2; omega⟩, zl⟩⟩, fun b hb => fork_not (fun c => bad fun h => ?_) fun c => ?_⟩
    · rw [List.take_zero, List.drop_zero, h.2, Bool.and_true, decide_eq_true (by have := h.1.2; omega)] at hb
      rw [hb] at c; cases c
    · rw [c] at hb
      have hb := hb.symm
      rw [List.take_zero, List.drop_zero, Bool.and_eq_true] at hb
      obtain ⟨b1, b2⟩ := hb
      have b1 := of_decide_eq_true b1
      refine ⟨⟨rfl, by omega, ⟨z, zl⟩, z, z⟩, fun (r : Int) hr => hK _ _ ?_⟩
      have hr : r = 0 + rankL (l.drop 0) := hr
      rw [List.drop_zero, Int.zero_add] at hr
      rw [rankV, if_pos ⟨⟨by omega, by omega⟩, b2⟩, hr]
  · rw [Bool.false_and] at hb
    rw [hb] at c; cases c
theorem ok36 : FnOk Try.prog 36 fc35 := fn1_of (n := 5) (((good2_nilN _).addL2 ok36B).addL2 ok36A) fun (l, ()) K hx => h36 l K hx.2
/-! the statement -/
theorem ne_step {α : Type} [BEq α] [LawfulBEq α] {x y : α} {P Q : Prop} (h : x = y) (hQ : Q) : fork (x != y) P Q := fork_iff.2 ⟨fun c => by rw [h] at c; simp at c, fun _ => hQ⟩
theorem unrank_len {n r : Int} {l : List Int} {e : Int} (h : (l, e) = unrankV n r) : l.length ≤ 8 := by
  unfold unrankV at h
  split at h
  · split at h
    · injection h with h _
      rw [h, ordF_len]; omega
    · injection h with h _
      rw [h]; decide
  · injection h with h _
    rw [h]; decide
theorem draw_len {n m : Int} {l o : List Int} {e : Int} (h : (o, e) = drawV n m l) : o.length ≤ 8 := by
  unfold drawV at h
  split at h
  · split at h
    · injection h with h _
      rw [h, List.length_take, ordF_len]; omega
    · injection h with h _
      rw [h]; decide
  · injection h with h _
    rw [h]; decide
theorem h7 (o : List Int) (n : Int × Int × Int) (l : List Int) (K : dens [.b] → Prop) (h1 : o.length ≤ big) (h2 : inR .i64 n.1 = true) (h3 : l.length ≤ big) (hK : K (true, ())) : xfn1 Try.prog { nm := true, f := [(35, fc35), (36, fc35), (37, fc37), (38, fc37), (39, fc39), (40, fc39), (18, fcSame), (19, fcWorks)] } 5 7 fc7 (o, n, l, ()) K := by
  rw [v7F]
  refine ⟨h1, fun r e hr => ⟨h1, fun r1 e1 hr1 => ?_⟩⟩
  rw [← hr] at hr1
  injection hr1 with g1 g2
  refine ne_step g1.symm (ne_step g2.symm ⟨h2, fun x e hx => ⟨h2, fun y e1 hy => ?_⟩⟩)
  rw [← hx] at hy
  injection hy with g1 g2
  have hl := unrank_len hx
  refine ⟨by omega, fun b hb => fork_not (fun c => ?_) fun _ => ne_step g2.symm ⟨h3, fun x e hx => ⟨h3, fun y e1 hy => ?_⟩⟩⟩
  · rw [c, g1] at hb; simp at hb
  · rw [← hx] at hy
    injection hy with g1 g2
    have hl := draw_len hx
    refine ⟨by omega, fun b hb => fork_iff.2 ⟨fun _ => fork_iff.2 ⟨fun _ => hK, fun c => ?_⟩, fun c => ?_⟩⟩
    · rw [g2] at c; simp at c
    · rw [c, g1] at hb; simp at hb
theorem ok7 : FnOk Try.prog 7 fc7 := fn1_of (n := 5) (((((((((good2_nilN _).addF okWorks).addF ok18).addF ok40).addF ok39).addF ok38).addF ok37).addF ok36).addF ok35) fun (o, n, l, ()) K hx => h7 o n l K hx.1.1 hx.1.2.1 hx.1.2.2 hx.2
end Go.P10
