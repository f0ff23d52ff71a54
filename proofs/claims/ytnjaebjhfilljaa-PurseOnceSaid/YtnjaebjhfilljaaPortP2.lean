/- Lots: the code of both sides keeps the contract, and the laws' code answers true. No conditions. -/
import Derived.Test.YtnjaebjhfilljaaPortP
set_option linter.constructorNameAsVariable false
set_option linter.unusedVariables false
set_option linter.unusedSimpArgs false
set_option maxRecDepth 100000
namespace Go.P7
open Go.Lom Go.Proofs Go

theorem pa_mem {l : List Pa} {i : Int} (h0 : 0 ≤ i) (h1 : i < l.length) : l.getD i.toNat (([], 0, []) : Pa) ∈ l := by
  rw [List.getD_eq_getElem?_getD, List.getElem?_eq_getElem (by omega : i.toNat < l.length)]
  exact List.getElem_mem _
theorem take_step {α : Type} (d : α) {l : List α} {i : Int} (h0 : 0 ≤ i) (h1 : i < l.length) : l.take (i + 1).toNat = l.take i.toNat ++ [l.getD i.toNat d] := by
  rw [show (i + 1).toNat = i.toNat + 1 from by omega, List.take_add_one, List.getD_eq_getElem?_getD, List.getElem?_eq_getElem (by omega : i.toNat < l.length)]; rfl
theorem portion_eq {p : Pa} {n : Int} {o : List Int} {s : Int} (h : spreadN p.2.2 10 0 (p.2.2.map fun _ => 0) n = (o, s)) : portion p n = (n, o, s) := by
  unfold portion spreadL; rw [h]

theorem h20a (price : Int) (l : List Pa) (own : List Int) (l2 : List Pa) (m i : Int) (Q : LQ) : s20a price l own l2 m i Q → xloop Try.prog [(56, fcWord), (87, fc87a)] [] 5 20 0 lc20a ex20a (fun x => mL x.2.1 x.2.2.2.2.2.1) (price, l, own, l2, m, i, ()) Q := by
  intro ⟨⟨h1, he, hm, h2, h3, h4, h5⟩, hQ1, hQ2⟩
  rw [v20a]
  subst he hm
  simp only [fork_iff, req_iff, decide_eq_true_eq, decide_eq_false_iff_not, Bool.not_eq_true', Bool.not_eq_false', seg_all, seg_one, Nat.zero_add, List.length_singleton, List.drop_zero]
  refine ⟨fun hi => ?_, fun hi => ?_⟩
  · have hc := h5 _ (pa_mem h2 hi)
    rw [drop_step (([], 0, []) : Pa) h2 hi] at hQ1 hQ2
    have htk := take_step (([], 0, []) : Pa) h2 hi
    simp only [scanOk, vals7, List.map_cons] at hQ1 hQ2
    generalize l2.getD i.toNat (([], 0, []) : Pa) = c at *
    obtain ⟨g1, g2⟩ := firstIx_ge (sameN c) (l2.take i.toNat) 0 (by omega)
    refine ⟨⟨h2, hi⟩, Nat.le_refl _, fits8 (by omega), hc, fun hw => ?_, fun hw => ⟨by omega, by rw [List.length_take]; omega, fun hs => ?_, fun hs => ?_⟩⟩
    · rw [hw] at hQ2; exact hQ2 rfl
    · cases ha : (l2.take i.toNat).any (sameN c) with
      | true => rw [hw, ha] at hQ2; exact hQ2 rfl
      | false => have := g1 ha; exact absurd (this ▸ hs) (by omega)
    · cases ha : (l2.take i.toNat).any (sameN c) with
      | true => exact absurd (g2 ha) hs
      | false =>
        rw [hw, ha] at hQ1 hQ2
        simp only [Bool.not_false, Bool.and_self, Bool.true_and] at hQ1 hQ2
        rw [← htk] at hQ1 hQ2
        refine ⟨inR_i64.2 (by omega), by simp, mL_lt hi, ?_⟩
        rw [seg_len _ _ (by simp)]
        exact show s20a price l2 (own ++ [c.2.1]) l2 l2.length (i + 1) Q from ⟨⟨h1, rfl, rfl, by omega, by omega, by simp; omega, h5⟩, fun h o ho => hQ1 h o (by rw [ho]; simp [vals7]), hQ2⟩
  · rw [drop_end hi] at hQ1
    exact ⟨Nat.le_refl _, hQ1 rfl own (by simp [vals7])⟩
theorem ok20a : LpOk Try.prog 20 0 lc20a := lp_of (n := 5) (ex := ex20a) (m := fun x => mL x.2.1 x.2.2.2.2.2.1) (((good_nil _).addF ok87a).addF ok56) fun (price, l, own, l2, m, i, ()) Q hx => h20a price l own l2 m i Q hx

theorem fits40 {n : Nat} (h : n ≤ 1000000) : fitsN n 40 = true := by
  simp only [fitsN, Bool.and_eq_true, Nat.ble_eq, maxLen]; omega
theorem h20b (l : List Pa) (out : List Po) (n : List Int) (m i : Int) (Q : LQ) : s20b l out n m i Q → xloop Try.prog [(53, fcSpread)] [] 5 20 1 lc20b (one sh20bE) (fun x => mL x.1 x.2.2.2.2.1) (l, out, n, m, i, ()) Q := by
  intro ⟨⟨h1, h2, hm, h3, h4, h5, h6, h7⟩, hQ⟩
  rw [v20b]
  subst hm
  simp only [fork_iff, req_iff, decide_eq_true_eq, decide_eq_false_iff_not, seg_all, seg_one, Nat.zero_add, List.length_singleton]
  refine ⟨fun hi => ?_, fun hi => ?_⟩
  · have hin : i < n.length := by omega
    have hv := h6 _ (pa_mem h3 hi)
    have hn := h7 _ (getD_mem h3 hin)
    rw [drop_step (([], 0, []) : Pa) h3 hi, drop_step (0 : Int) h3 hin] at hQ
    simp only [List.zipWith_cons_cons] at hQ
    generalize l.getD i.toNat (([], 0, []) : Pa) = c at *
    generalize n.getD i.toNat 0 = x at *
    refine ⟨⟨h3, hin⟩, ⟨h3, hi⟩, ⟨hv, hn⟩, fun o s' hs => ⟨Nat.le_refl _, fits40 (by omega), inR_i64.2 (by omega), by simp, mL_lt hi, ?_⟩⟩
    rw [seg_len _ _ (by simp)]
    rw [portion_eq hs] at hQ
    exact show s20b l (out ++ [(x, o, s')]) n l.length (i + 1) Q from ⟨⟨h1, h2, rfl, by omega, by omega, by simp; omega, h6, h7⟩, fun o ho => hQ o (by rw [ho]; simp)⟩
  · rw [drop_end hi] at hQ
    exact ⟨Nat.le_refl _, hQ out (by simp)⟩
theorem ok20b : LpOk Try.prog 20 1 lc20b := lp_of (n := 5) (ex := one sh20bE) (m := fun x => mL x.1 x.2.2.2.2.1) ((good_nil _).addF ok53) fun (l, out, n, m, i, ()) Q hx => h20b l out n m i Q hx

theorem any_bad {l : List Pa} : l.any badDues = !l.all (fun p => validD p.2.2) := by
  induction l with
  | nil => rfl
  | cons a l ih => rw [List.any_cons, List.all_cons, ih, Bool.not_and]; rfl
/-- The prices of a lot. -/
theorem prices_ok {l : List Pa} {price : Int} (hv : validW (vals7 l) = true) (h0 : 0 ≤ price) (h1 : price ≤ 67108864) : (shareL (vals7 l) price).length = l.length ∧ (∀ x ∈ shareL (vals7 l) price, 0 ≤ x ∧ x ≤ 67108864) ∧ (shareL (vals7 l) price).sum = price := by
  obtain ⟨a1, a2, a3⟩ := share_law hv h0
  have hn : ∀ x ∈ shareL (vals7 l) price, 0 ≤ x := fun x hx => by
    obtain ⟨i, hi, hxi⟩ := List.mem_iff_getElem.1 hx
    have := a1.2.1 i
    rw [List.getD_eq_getElem?_getD, List.getElem?_eq_getElem hi, hxi] at this
    exact this
  refine ⟨by rw [a1.1]; simp [vals7], fun x hx => ⟨hn x hx, ?_⟩, a3⟩
  have := elem_le_sum hn x hx
  omega
theorem portR_price {price : Int} {l : List Pa} (h : ¬ (0 ≤ price ∧ price ≤ 67108864)) : portR price l = ([], 7) := by unfold portR; rw [if_neg h]
theorem portR_parts {price : Int} {l : List Pa} (h : 0 ≤ price ∧ price ≤ 67108864) (h2 : ¬ (1 ≤ l.length ∧ l.length ≤ 8 ∧ scanOk [] l = true ∧ validW (vals7 l) = true)) : portR price l = ([], 72) := by unfold portR; rw [if_pos h, if_neg h2]
theorem portR_dues {price : Int} {l : List Pa} (h : 0 ≤ price ∧ price ≤ 67108864) (h2 : 1 ≤ l.length ∧ l.length ≤ 8 ∧ scanOk [] l = true ∧ validW (vals7 l) = true) (h3 : l.all (fun p => validD p.2.2) = false) : portR price l = ([], 71) := by unfold portR; rw [if_pos h, if_pos h2, if_neg (by rw [h3]; simp)]
theorem portR_ok {price : Int} {l : List Pa} (h : 0 ≤ price ∧ price ≤ 67108864) (h2 : 1 ≤ l.length ∧ l.length ≤ 8 ∧ scanOk [] l = true ∧ validW (vals7 l) = true) (h3 : l.all (fun p => validD p.2.2) = true) : portR price l = (List.zipWith portion l (shareL (vals7 l) price), 0) := by unfold portR; rw [if_pos h, if_pos h2, if_pos h3]
theorem portR_cases {price : Int} {l : List Pa} {r : List Po} {e : Int} (h : portR price l = (r, e)) : (e = 0 ∧ (0 ≤ price ∧ price ≤ 67108864) ∧ (1 ≤ l.length ∧ l.length ≤ 8 ∧ scanOk [] l = true ∧ validW (vals7 l) = true) ∧ l.all (fun p => validD p.2.2) = true ∧ r = List.zipWith portion l (shareL (vals7 l) price)) ∨ (e ≠ 0 ∧ r = []) := by
  unfold portR at h
  split at h
  · split at h
    · split at h
      · simp only [Prod.mk.injEq] at h; exact .inl ⟨h.2.symm, by assumption, by assumption, by assumption, h.1.symm⟩
      · simp only [Prod.mk.injEq] at h; exact .inr ⟨by omega, h.1.symm⟩
    · simp only [Prod.mk.injEq] at h; exact .inr ⟨by omega, h.1.symm⟩
  · simp only [Prod.mk.injEq] at h; exact .inr ⟨by omega, h.1.symm⟩

theorem h20F (price : Int) (l : List Pa) (K : dens [LPo, E] → Prop) : sPort price l (fun r e => K (r, e, ())) → xfn Try.prog [(47, fc47), (87, fc87b), (49, fcShare)] [(20, 0, lc20a), (20, 1, lc20b)] 5 20 fcPort (price, l, ()) K := by
  intro ⟨⟨h1, h2⟩, hK⟩
  rw [v20F]
  have hbig : (big : Int) = 9223372036854775807 := rfl
  simp only [fork_iff, req_iff, decide_eq_true_eq, decide_eq_false_iff_not, Bool.not_eq_true', Bool.not_eq_false', seg_all, Nat.zero_add, List.drop_zero, List.take_zero, List.nil_append]
  refine ⟨fun a1 => ⟨fun a2 => hK _ _ (portR_price (by omega)), fun a2 => ⟨fun a3 => ⟨fun a4 => hK _ _ (portR_parts ⟨a1, a2⟩ (by omega)), fun a4 => ⟨⟨by omega, by trivial, by trivial, by omega, by omega, by omega, fun p hp => (h2 p hp).1⟩, fun hsc o ho => ?_, fun hsc => hK _ _ (portR_parts ⟨a1, a2⟩ (by rw [hsc]; simp))⟩⟩, fun a3 => hK _ _ (portR_parts ⟨a1, a2⟩ (by omega))⟩⟩, fun a1 => hK _ _ (portR_price (by omega))⟩
  subst ho
  refine ⟨Nat.le_refl _, by simp [vals7]; omega, fun hw => hK _ _ (portR_parts ⟨a1, a2⟩ (by rw [hw]; simp)), fun hw => ⟨fun p hp => (h2 p hp).2, by omega, fun hb => ?_, fun hb => ⟨Nat.le_refl _, ⟨hw, a1, by omega⟩, fun r hr => ?_⟩⟩⟩
  · have g := (firstIx_ge badDues l 0 (by omega)).1
    rw [any_bad] at g
    cases hd : l.all (fun p => validD p.2.2) with
    | true => rw [g (by rw [hd]; rfl)] at hb; exact absurd hb (by omega)
    | false => exact hK _ _ (portR_dues ⟨a1, a2⟩ ⟨by omega, by omega, hsc, hw⟩ hd)
  · have g := (firstIx_ge badDues l 0 (by omega)).2
    rw [any_bad] at g
    cases hd : l.all (fun p => validD p.2.2) with
    | false => exact absurd (g (by rw [hd]; rfl)) hb
    | true =>
      subst hr
      obtain ⟨p1, p2, p3⟩ := prices_ok hw a1 a2
      refine ⟨⟨by omega, p1, by omega, by omega, by omega, by omega, fun p hp => List.all_eq_true.1 hd p hp, fun x hx => by have := p2 x hx; omega⟩, fun o ho => ⟨Nat.le_refl _, ?_⟩⟩
      subst ho
      exact hK _ _ (portR_ok ⟨a1, a2⟩ ⟨by omega, by omega, hsc, hw⟩ hd)
theorem ok20 : FnOk Try.prog 20 fcPort := fn_of (n := 5) ((((((good_nil _).addL ok20b).addL ok20a).addF ok49).addF ok87b).addF ok47) fun (price, l, ()) K hx => h20F price l K hx

theorem eqT_names {c : Pa} {l : List Pa} : (l.map (·.1)).any (eqT c.1) = l.any (sameN c) := by
  induction l with
  | nil => rfl
  | cons a l ih => rw [List.map_cons, List.any_cons, List.any_cons, ih]; rfl
theorem fits16 {n : Nat} (h : n ≤ 1000000) : fitsN n 16 = true := by
  simp only [fitsN, Bool.and_eq_true, Nat.ble_eq, maxLen]; omega
theorem h21a (price : Int) (l : List Pa) (names : List Tx) (own : List Int) (ok : Bool) (i : Int) (Q : LQ) : s21a price l names own ok i Q → xloop Try.prog [(60, fcWord), (61, fcSeekT)] [] 5 21 0 lc21a (one sh21aE) (fun x => (x.2.1.length + 1 - x.2.2.2.2.2.1).toNat) (price, l, names, own, ok, i, ()) Q := by
  intro ⟨⟨h1, h2, h3, h4, h5, h6⟩, hQ⟩
  rw [v21a]
  have hbig : (big : Int) = 9223372036854775807 := rfl
  simp only [fork_iff, req_iff, decide_eq_true_eq, decide_eq_false_iff_not, Bool.not_eq_true', Bool.not_eq_false', seg_all, seg_one, Nat.zero_add, List.length_singleton, List.drop_zero, true_and]
  refine ⟨fun hok => ⟨fun hi => ?_, fun hi => ?_⟩, fun hok => ?_⟩
  · obtain ⟨n1, n2, n3⟩ := h3 hok
    have hc := h6 _ (pa_mem h2 hi)
    rw [drop_step (([], 0, []) : Pa) h2 hi] at hQ
    have htk := take_step (([], 0, []) : Pa) h2 hi
    simp only [scanOk, vals7, List.map_cons, hok, Bool.true_and] at hQ
    generalize l.getD i.toNat (([], 0, []) : Pa) = c at *
    have nl : names.length ≤ 8 := by rw [n3]; simp; omega
    have nn : (i + 1).toNat = i.toNat + 1 := by omega
    have next : ∀ ok', (ok' = (wordB c.1 && !(l.take i.toNat).any (sameN c))) → s21a price l (names ++ [c.1]) (own ++ [c.2.1]) ok' (i + 1) Q := fun ok' hk => by
      subst hk
      refine ⟨⟨h1, by omega, fun _ => ⟨n1, by omega, by rw [htk, n3]; simp⟩, by simp; omega, by simp; omega, h6⟩, fun o r hr ho hv => hQ o r ?_ ho fun h => by rw [hv h]; simp [vals7]⟩
      rw [hr, htk]
    have lt : ((l.length : Int) + 1 - (i + 1)).toNat < ((l.length : Int) + 1 - i).toNat := by omega
    refine ⟨⟨h2, hi⟩, hc, fun hw => ⟨⟨h2, hi⟩, Nat.le_refl _, by omega, ⟨h2, hi⟩, ⟨h2, hi⟩, Nat.le_refl _, fits16 (by omega), Nat.le_refl _, fits8 (by omega), inR_i64.2 (by omega), by simp, by simp, lt, ?_⟩, fun hw => ⟨⟨h2, hi⟩, ⟨h2, hi⟩, Nat.le_refl _, fits16 (by omega), Nat.le_refl _, fits8 (by omega), inR_i64.2 (by omega), by simp, by simp, lt, ?_⟩⟩
    · rw [seg_len _ _ (by simp), seg_len _ _ (by simp)]
      refine next _ ?_
      obtain ⟨g1, g2⟩ := firstIx_ge (eqT c.1) names 0 (by omega)
      rw [n3, eqT_names] at g1 g2
      rw [hw, Bool.true_and]
      cases ha : (l.take i.toNat).any (sameN c) with
      | true => rw [n3]; exact decide_eq_false (by have := g2 ha; omega)
      | false => rw [n3]; exact decide_eq_true (by rw [g1 ha]; omega)
    · rw [seg_len _ _ (by simp), seg_len _ _ (by simp)]
      exact next _ (by rw [hw]; rfl)
  · obtain ⟨n1, n2, n3⟩ := h3 hok
    rw [drop_end hi] at hQ
    exact ⟨Nat.le_refl _, hQ own ok (by rw [hok]; rfl) h4 fun _ => by simp [vals7]⟩
  · exact ⟨Nat.le_refl _, hQ own ok (by rw [hok]; rfl) h4 fun h => by rw [hok] at h; cases h⟩
theorem ok21a : LpOk Try.prog 21 0 lc21a := lp_of (n := 5) (ex := one sh21aE) (m := fun x => (x.2.1.length + 1 - x.2.2.2.2.2.1).toNat) (((good_nil _).addF ok61).addF ok60) fun (price, l, names, own, ok, i, ()) Q hx => h21a price l names own ok i Q hx

theorem h21b (price : Int) (l : List Pa) (w : List Int) (i : Int) (Q : LQ) : s21b price l w i Q → xloop Try.prog [(54, fcDues)] [] 5 21 1 lc21b ex21b (fun x => mL x.2.1 x.2.2.2.1) (price, l, w, i, ()) Q := by
  intro ⟨⟨h1, h2, h3, h4⟩, hQ1, hQ2⟩
  rw [v21b]
  simp only [fork_iff, req_iff, decide_eq_true_eq, decide_eq_false_iff_not, Bool.not_eq_true', Bool.not_eq_false']
  refine ⟨fun hi => ?_, fun hi => ?_⟩
  · have hc := h4 _ (pa_mem h2 hi)
    rw [drop_step (([], 0, []) : Pa) h2 hi] at hQ1 hQ2
    simp only [List.all_cons] at hQ1 hQ2
    generalize l.getD i.toNat (([], 0, []) : Pa) = c at *
    refine ⟨⟨h2, hi⟩, hc, fun h => ?_, fun h => ?_⟩
    · rw [h] at hQ2; exact hQ2 rfl
    · rw [h] at hQ1 hQ2
      exact ⟨inR_i64.2 (by omega), mL_lt hi, show s21b price l w (i + 1) Q from ⟨⟨h1, by omega, by omega, h4⟩, hQ1, hQ2⟩⟩
  · rw [drop_end hi] at hQ1
    exact hQ1 rfl
theorem ok21b : LpOk Try.prog 21 1 lc21b := lp_of (n := 5) (ex := ex21b) (m := fun x => mL x.2.1 x.2.2.2.1) ((good_nil _).addF ok54) fun (price, l, w, i, ()) Q hx => h21b price l w i Q hx
theorem h21c (l : List Pa) (n : List Int) (out : List Po) (i : Int) (Q : LQ) : s21c l n out i Q → xloop Try.prog [(55, fcSpread)] [] 5 21 2 lc21c (one sh21cE) (fun x => mL x.1 x.2.2.2.1) (l, n, out, i, ()) Q := by
  intro ⟨⟨h1, h2, h3, h4, h5, h6, h7⟩, hQ⟩
  rw [v21c]
  simp only [fork_iff, req_iff, decide_eq_true_eq, decide_eq_false_iff_not, seg_all, seg_one, Nat.zero_add, List.length_singleton]
  refine ⟨fun hi => ?_, fun hi => ?_⟩
  · have hin : i < n.length := by omega
    have hv := h6 _ (pa_mem h3 hi)
    have hn := h7 _ (getD_mem h3 hin)
    rw [drop_step (([], 0, []) : Pa) h3 hi, drop_step (0 : Int) h3 hin] at hQ
    simp only [List.zipWith_cons_cons] at hQ
    generalize l.getD i.toNat (([], 0, []) : Pa) = c at *
    generalize n.getD i.toNat 0 = x at *
    refine ⟨⟨h3, hi⟩, ⟨h3, hin⟩, ⟨hv, hn⟩, fun o s' hs => ⟨⟨h3, hin⟩, Nat.le_refl _, fits40 (by omega), inR_i64.2 (by omega), by simp, mL_lt hi, ?_⟩⟩
    rw [seg_len _ _ (by simp)]
    rw [portion_eq hs] at hQ
    exact show s21c l n (out ++ [(x, o, s')]) (i + 1) Q from ⟨⟨h1, h2, by omega, by omega, by simp; omega, h6, h7⟩, fun o ho => hQ o (by rw [ho]; simp)⟩
  · rw [drop_end hi] at hQ
    exact ⟨Nat.le_refl _, hQ out (by simp)⟩
theorem ok21c : LpOk Try.prog 21 2 lc21c := lp_of (n := 5) (ex := one sh21cE) (m := fun x => mL x.1 x.2.2.2.1) ((good_nil _).addF ok55) fun (l, n, out, i, ()) Q hx => h21c l n out i Q hx
theorem h21F (price : Int) (l : List Pa) (K : dens [LPo, E] → Prop) : sPort price l (fun r e => K (r, e, ())) → xfn Try.prog [(24, fcFrom), (50, fc47), (51, fcShare)] [(21, 0, lc21a), (21, 1, lc21b), (21, 2, lc21c)] 5 21 fcPort (price, l, ()) K := by
  intro ⟨⟨h1, h2⟩, hK⟩
  rw [v21F]
  have hbig : (big : Int) = 9223372036854775807 := rfl
  simp only [fork_iff, req_iff, decide_eq_true_eq, decide_eq_false_iff_not, Bool.not_eq_true', Bool.not_eq_false', seg_all, Nat.zero_add, List.drop_zero, List.take_zero, List.nil_append]
  refine ⟨fun a1 => hK _ _ (portR_price a1), fun a1 => ⟨⟨h1, by omega, fun h => ⟨by omega, by omega, rfl⟩, by omega, by omega, fun p hp => (h2 p hp).1⟩, fun o r hr ho hv => ⟨fun hrf => ?_, fun hrt => ?_⟩⟩⟩
  · refine hK _ _ (portR_parts a1 fun ⟨b1, b2, b3, b4⟩ => ?_)
    rw [hrf, b3, decide_eq_true (by omega)] at hr
    cases hr
  · subst hrt
    have hr := hr.symm
    rw [Bool.and_eq_true, decide_eq_true_eq] at hr
    obtain ⟨hr, hsc⟩ := hr
    have hv := hv rfl
    subst hv
    refine ⟨Nat.le_refl _, by omega, fun hw => hK _ _ (portR_parts a1 (by rw [hw]; simp)), fun hw => ⟨Nat.le_refl _, ⟨by omega, by omega, by omega, fun p hp => (h2 p hp).2⟩, fun hd => ⟨⟨hw, a1.1, by omega⟩, fun r hr2 => ?_⟩, fun hd => hK _ _ (portR_dues a1 ⟨by omega, by omega, hsc, hw⟩ hd)⟩⟩
    subst hr2
    obtain ⟨p1, p2, p3⟩ := prices_ok hw a1.1 a1.2
    refine ⟨⟨by omega, p1, by omega, by omega, by omega, fun p hp => List.all_eq_true.1 hd p hp, fun x hx => by have := p2 x hx; omega⟩, fun o ho => ⟨Nat.le_refl _, ?_⟩⟩
    subst ho
    exact hK _ _ (portR_ok a1 ⟨by omega, by omega, hsc, hw⟩ hd)
theorem ok21 : FnOk Try.prog 21 fcPort := fn_of (n := 5) (((((((good_nil _).addL ok21c).addL ok21b).addL ok21a).addF ok51).addF ok50).addF ok24) fun (price, l, ()) K hx => h21F price l K hx

theorem h22L (a b : List Po) (i : Int) (Q : LQ) : s22L a b i Q → xloop Try.prog [(16, fcSame)] [] 5 22 0 lc22 ex22 (fun x => mL x.1 x.2.2.1) (a, b, i, ()) Q := by
  intro ⟨⟨h1, h2, h3, h4, h5⟩, hQ1, hQ2⟩
  rw [v22L]
  have hbig : (big : Int) = 9223372036854775807 := rfl
  simp only [fork_iff, req_iff, decide_eq_true_eq, decide_eq_false_iff_not, Bool.not_eq_true', Bool.not_eq_false', bne_iff_ne, ne_eq, bne_eq_false_iff_eq]
  refine ⟨fun hi => ?_, fun hi => ?_⟩
  · have hib : i < b.length := by omega
    have hl : (a.getD i.toNat ((0, [], 0) : Po)).2.1.length ≤ big := by
      rw [List.getD_eq_getElem?_getD, List.getElem?_eq_getElem (by omega : i.toNat < a.length)]
      exact h5 _ (List.getElem_mem _)
    rw [drop_step ((0, [], 0) : Po) h3 hi, drop_step ((0, [], 0) : Po) h3 hib] at hQ1 hQ2
    generalize a.getD i.toNat ((0, [], 0) : Po) = x at *
    generalize b.getD i.toNat ((0, [], 0) : Po) = y at *
    have bad : x ≠ y → Q .ret (shSt ex22.shR4b (false, ())) := fun h => hQ2 fun e => h (by injection e)
    refine ⟨⟨h3, hi⟩, ⟨h3, hib⟩, fun h => bad fun e => h (by rw [e]), fun e1 => ⟨⟨h3, hi⟩, ⟨h3, hib⟩, fun h => bad fun e => h (by rw [e]), fun e2 => ⟨⟨h3, hi⟩, ⟨h3, hib⟩, hl, fun h => bad fun e => h (by rw [e]), fun e3 => ?_⟩⟩⟩
    have e : x = y := Prod.ext e1 (Prod.ext e3 e2)
    subst e
    exact ⟨inR_i64.2 (by omega), mL_lt hi, show s22L a b (i + 1) Q from ⟨⟨h1, h2, by omega, by omega, h5⟩, fun h => hQ1 (by rw [h]), fun h => hQ2 fun e => h (by injection e)⟩⟩
  · rw [drop_end hi, drop_end (by omega : ¬ i < b.length)] at hQ1
    exact hQ1 rfl
theorem ok22L : LpOk Try.prog 22 0 lc22 := lp_of (n := 5) (ex := ex22) (m := fun x => mL x.1 x.2.2.1) ((good_nil _).addF okSame) fun (a, b, i, ()) Q hx => h22L a b i Q hx
theorem h22F (a b : List Po) (K : dens [.b] → Prop) : sSameP a b (fun r => K (r, ())) → xfn Try.prog [] [(22, 0, lc22)] 5 22 fcSameP (a, b, ()) K := by
  intro ⟨⟨h1, h2⟩, hK⟩
  rw [v22F]
  simp only [fork_iff, bne_iff_ne, ne_eq, bne_eq_false_iff_eq, List.drop_zero]
  refine ⟨fun h => ?_, fun h => ⟨⟨h1, by omega, by omega, by omega, h2⟩, fun e => ?_, fun e => ?_⟩⟩
  · rw [decide_eq_false (fun e => h (by rw [e]))] at hK; exact hK
  · rw [decide_eq_true e] at hK; exact hK
  · rw [decide_eq_false e] at hK; exact hK
theorem ok22 : FnOk Try.prog 22 fcSameP := fn_of (n := 5) ((good_nil _).addL ok22L) fun (a, b, ()) K hx => h22F a b K hx


end Go.P7
