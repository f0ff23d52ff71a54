/- Spreading, the program's side: the outer loop and the function. No conditions. -/
import Derived.Test.YtnjaebjhfilljaaSpreadL
set_option linter.unusedSimpArgs false
set_option linter.unusedVariables false
set_option linter.constructorNameAsVariable false
set_option maxRecDepth 100000
namespace Go.P7
open Go.Lom Go.Proofs Go

theorem idxR_mem (r : Int) : ∀ (l : List (Int × Int)) (i k : Int), k ∈ idxR r l i → i ≤ k ∧ k < i + l.length
  | [], i, k, h => by simp [idxR] at h
  | d :: l, i, k, h => by
    simp only [idxR] at h
    rw [List.length_cons, Int.natCast_add, Int.natCast_one]
    split at h
    · rcases List.mem_cons.1 h with rfl | h
      · omega
      · have := idxR_mem r l (i + 1) k h; omega
    · have := idxR_mem r l (i + 1) k h; omega
theorem ownR_getD (l : List (Int × Int)) (r : Int) (k : Nat) (h : k < l.length) : (ownR l r).getD k 0 = amt r (l.getD k ((0 : Int), (0 : Int))) := by
  simp [ownR, List.getD_eq_getElem?_getD, h]
theorem ownR_other {l : List (Int × Int)} {r : Int} {k : Nat} (h : k < l.length) (hr : (l.getD k ((0 : Int), (0 : Int))).1 ≠ r) : (ownR l r).getD k 0 = 0 := by
  rw [ownR_getD l r k h]; unfold amt; rw [if_neg hr]
theorem zeros_of_sum : ∀ {l : List Int}, (∀ x ∈ l, 0 ≤ x) → l.sum = 0 → ∀ x ∈ l, x = 0
  | [], _, _, x, h => by simp at h
  | y :: l, h, hs, x, hx => by
    have h1 := h y (by simp)
    have h2 := sum_bound' (fun x hx => h x (List.mem_cons_of_mem _ hx))
    rw [List.sum_cons] at hs
    rcases List.mem_cons.1 hx with rfl | hx
    · omega
    · exact zeros_of_sum (fun x hx => h x (List.mem_cons_of_mem _ hx)) (by omega) x hx
where
  sum_bound' : ∀ {l : List Int}, (∀ x ∈ l, 0 ≤ x) → 0 ≤ l.sum
    | [], _ => by simp
    | y :: l, h => by rw [List.sum_cons]; have := h y (by simp); have := sum_bound' (fun x hx => h x (List.mem_cons_of_mem _ hx)); omega
theorem addL_zero : ∀ {a b : List Int}, b.length = a.length → (∀ x ∈ b, x = 0) → addL a b = a
  | [], [], _, _ => rfl
  | [], _ :: _, h, _ => by simp at h
  | _ :: _, [], h, _ => by simp at h
  | x :: a, y :: b, h, hz => by
    have h1 := hz y (by simp)
    have := addL_zero (a := a) (b := b) (by simpa using h) fun x hx => hz x (List.mem_cons_of_mem _ hx)
    unfold addL at this ⊢
    rw [List.zipWith_cons_cons, this, h1, Int.add_zero]
theorem addL_getD {a b : List Int} (h : b.length = a.length) (k : Nat) : (addL a b).getD k 0 = a.getD k 0 + b.getD k 0 := by
  unfold addL
  simp only [List.getD_eq_getElem?_getD, List.getElem?_zipWith]
  by_cases hk : k < a.length
  · rw [List.getElem?_eq_getElem hk, List.getElem?_eq_getElem (by omega : k < b.length)]; rfl
  · rw [List.getElem?_eq_none (by omega), List.getElem?_eq_none (by omega)]; rfl

theorem pick_le (r : Int) : ∀ (l : List (Int × Int)) (w : List Int), (pickR r l w).length ≤ l.length
  | [], w => by cases w <;> simp [pickR]
  | _ :: _, [] => by simp [pickR]
  | d :: l, x :: w => by
    have := pick_le r l w
    simp only [pickR]
    split <;> simp <;> omega
/-- A rank's part, told by the rank's own dues alone. -/
theorem part_pick {l : List (Int × Int)} (h : validD l = true) {r s : Int} (h0 : 0 ≤ s) (h1 : s ≤ 34359738368) :
    (pickR r l (ownR l r)).sum = (ownR l r).sum ∧ ((ownR l r).sum > s → validW (pickR r l (ownR l r)) = true ∧ shareL (pickR r l (ownR l r)) s = pickR r l (partR l r s)) ∧
    (∀ k : Nat, k < l.length → (l.getD k ((0 : Int), (0 : Int))).1 ≠ r → (partR l r s).getD k 0 = 0) := by
  obtain ⟨g1, g2, g3⟩ := ownR_range h r
  have hsum := pickR_sum r l (ownR l r) g1 fun k hk hne => ownR_other hk hne
  have hz : ∀ k : Nat, k < l.length → (l.getD k ((0 : Int), (0 : Int))).1 ≠ r → (partR l r s).getD k 0 = 0 := fun k hk hne => by
    unfold partR
    split
    · rename_i hgt
      have hv := (partR_range h r h0 h1).2.2.2.2 hgt
      exact (share_law hv h0).1.2.2.1 k (by omega) (ownR_other hk hne)
    · exact ownR_other hk hne
  refine ⟨hsum, fun hgt => ?_, hz⟩
  have hp : partR l r s = shareL (ownR l r) s := by unfold partR; rw [if_pos hgt]
  have hv := (partR_range h r h0 h1).2.2.2.2 hgt
  obtain ⟨φ, q1, q2⟩ := pickR_map r l (ownR l r) (ownR l r) g1 g1
  have hlen : (pickR r l (ownR l r)).length ≤ l.length := pick_le r l (ownR l r)
  have mem : ∀ x ∈ pickR r l (ownR l r), 0 ≤ x ∧ x ≤ 67108864 := fun x hx => by
    obtain ⟨i, hi, hxi⟩ := List.mem_iff_getElem.1 hx
    have := (q1 i hi).2.1
    rw [List.getD_eq_getElem?_getD, List.getElem?_eq_getElem hi, hxi] at this
    simp only [Option.getD_some] at this
    rw [this]
    exact getD_all (p := fun x => 0 ≤ x ∧ x ≤ 67108864) g3 (by omega) _
  have hv2 : validW (pickR r l (ownR l r)) = true := validW_iff.2 ⟨⟨by
    by_cases he : pickR r l (ownR l r) = []
    · rw [he] at hsum; simp at hsum; omega
    · have := List.length_pos_iff.2 he; omega, by omega⟩, mem, by omega⟩
  refine ⟨hv2, ?_⟩
  obtain ⟨a1, a2, a3⟩ := share_law hv h0
  obtain ⟨b1, b2, b3⟩ := share_law hv2 h0
  rw [hp] at hz ⊢
  refine uniq b1 (fairs_pick r g1 a1) (fun k => getD_all (p := fun x => 0 ≤ x) (fun x hx => (mem x hx).1) (Int.le_refl _) k) ?_
  rw [b3, pickR_sum r l _ (by rw [a1.1, g1]) hz, a3]

theorem h53a (l : List (Int × Int)) (s : Int) (out : List Int) (r : Int) (Q : LQ) : s53a l s out r Q → xloop Try.prog [(85, fc85), (80, fcSum), (49, fcShare)] [(53, 1, lc53b), (53, 2, lc53c)] 5 53 0 lc53a (one sh53aE) (fun x => (10 - x.2.2.2.1).toNat) (l, s, out, r, ()) Q := by
  intro ⟨⟨hv, h0, h1, h2, h3, h4, h5⟩, hQ⟩
  rw [v53a]
  obtain ⟨g1, g2, g3⟩ := ownR_range hv r
  obtain ⟨p1, p2, p3, p4, p5⟩ := partR_range hv r h0 h1
  obtain ⟨c1, c2, c3⟩ := part_pick hv (r := r) h0 h1
  have am := idxR_amts r [] l
  simp only [List.length_nil, List.nil_append, Int.natCast_zero] at am
  have sc := fun o ho h => scat_app r [] l out o h4 ho (fun k hk he => h5 k hk (by omega)) h
  simp only [List.length_nil, List.nil_append, Int.natCast_zero] at sc
  have hil : (idxR r l 0).length = (pickR r l (ownR l r)).length := by rw [← am, List.length_map]
  have hil2 : (pickR r l (ownR l r)).length ≤ l.length := pick_le r l _
  have him := fun k hk => idxR_mem r l 0 k hk
  simp only [fork_iff, req_iff, decide_eq_true_eq, decide_eq_false_iff_not, seg_all, Nat.zero_add, List.take_zero, List.drop_zero, List.nil_append, beq_iff_eq, beq_eq_false_iff_ne]
  refine ⟨fun hr => ⟨g2, fun o ho => ?_⟩, fun hr => ?_⟩
  · subst ho
    rw [am]
    have e : (10 - r).toNat = (10 - (r + 1)).toNat + 1 := by omega
    rw [e] at hQ
    simp only [spreadN] at hQ
    have fo : fitS 0 (pickR r l (ownR l r)) := by
      have := pickR_map r l (ownR l r) (ownR l r) g1 g1
      refine fitS_of (B := 67108864) (fun x hx => ?_) (by omega) (by omega) (by omega)
      obtain ⟨φ, q1, q2⟩ := this
      obtain ⟨i, hi, hxi⟩ := List.mem_iff_getElem.1 hx
      have := (q1 i hi).2.1
      rw [List.getD_eq_getElem?_getD, List.getElem?_eq_getElem hi, hxi] at this
      simp only [Option.getD_some] at this
      rw [this]
      exact getD_all (p := fun x => 0 ≤ x ∧ x ≤ 67108864) g3 (by omega) _
    have next : ∀ s' o, s' = s - (partR l r s).sum → o = addL out (partR l r s) → s53a l s' o (r + 1) Q := by
      intro s' o hs ho
      subst hs ho
      refine ⟨⟨hv, by omega, by omega, by omega, by omega, by simp [addL, h4, p1], fun k hk hrk => ?_⟩, hQ⟩
      rw [addL_getD (by omega), h5 k hk (by omega), c3 k hk (by omega)]; rfl
    have hlt : (10 - (r + 1) : Int).toNat < (10 - r : Int).toNat := by omega
    refine ⟨Nat.le_refl _, ⟨by omega, by omega, trivial, by omega, by omega, fun k hk => by have := him k hk; omega⟩, fun o1 ho1 => ?_⟩
    subst ho1
    refine ⟨Nat.le_refl _, ⟨by omega, fo⟩, fun hz => ?_, fun hnz => ⟨fun hgt => ?_, fun hle => ?_⟩⟩
    · have hp : partR l r s = ownR l r := by unfold partR; rw [if_neg (by omega)]
      have hzz : ∀ x ∈ ownR l r, x = 0 := zeros_of_sum (fun x hx => (g3 x hx).1) (by omega)
      exact ⟨inR_i64.2 (by omega), Nat.le_refl _, hlt, next _ _ (by rw [hp]; omega) (by rw [hp, addL_zero (by omega) hzz])⟩
    · obtain ⟨d1, d2⟩ := c2 (by omega)
      have hp : partR l r s = shareL (ownR l r) s := by unfold partR; rw [if_pos (by omega)]
      have hps : (partR l r s).sum = s := by rw [hp]; exact (share_law (p5 (by omega)) h0).2.2
      refine ⟨Nat.le_refl _, ⟨d1, h0, h1⟩, fun r1 hr1 => ?_⟩
      rw [d2] at hr1
      subst hr1
      have hlen : (pickR r l (partR l r s)).length = (idxR r l 0).length := by rw [hil]; exact pickR_len r l _ _ p1 g1
      refine ⟨Nat.le_refl _, ⟨by omega, by omega, trivial, by omega, hlen, fun k hk => by have := him k hk; omega⟩, fun o2 ho2 => ?_⟩
      rw [sc _ p1 c3] at ho2
      rw [if_neg (by omega)]
      exact ⟨inR_i64.2 (by omega), inR_i64.2 (by omega), Nat.le_refl _, hlt, next _ _ (by omega) ho2⟩
    · have hp : partR l r s = ownR l r := by unfold partR; rw [if_neg (by omega)]
      have sc2 := sc (ownR l r) g1 (by rw [hp] at c3; exact c3)
      rw [hp] at p3 p4
      refine ⟨Nat.le_refl _, Nat.le_refl _, ⟨by omega, by omega, trivial, by omega, hil.symm, fun k hk => by have := him k hk; omega⟩, fun o2 ho2 => ?_⟩
      rw [sc2] at ho2
      have hmin : (if (pickR r l (ownR l r)).sum < s then (pickR r l (ownR l r)).sum else s) = (ownR l r).sum := by
        split <;> omega
      rw [hmin]
      exact ⟨inR_i64.2 (by omega), inR_i64.2 (by omega), Nat.le_refl _, hlt, next _ _ (by rw [hp]) (by rw [hp]; exact ho2)⟩
  · have e : (10 - r).toNat = 0 := by omega
    rw [e] at hQ
    exact ⟨Nat.le_refl _, hQ _ _ rfl⟩
theorem ok53a : LpOk Try.prog 53 0 lc53a := lp_of (n := 5) (ex := one sh53aE) (m := fun x => (10 - x.2.2.2.1).toNat) ((((((good_nil _).addL ok53c).addL ok53b).addF ok49).addF okSum2).addF ok85) fun (l, s, out, r, ()) Q hx => h53a l s out r Q hx
theorem h53F (l : List (Int × Int)) (s : Int) (K : dens [L, I] → Prop) : sSpread l s (fun o s => K (o, s, ())) → xfn Try.prog [] [(53, 0, lc53a)] 5 53 fcSpread (l, s, ()) K := by
  intro ⟨⟨hv, h0, h1⟩, hK⟩
  rw [v53F]
  obtain ⟨g1, g2, g3⟩ := ownR_range hv 0
  have hseg : seg 0 (Int.toNat (l.length : Int)) (List.replicate (Int.toNat (l.length : Int)) (0 : Int)) = List.replicate l.length 0 := by rw [Int.toNat_natCast]; exact seg_len _ _ (by simp)
  rw [hseg]
  rw [map_zero] at hK
  simp only [req_iff, decide_eq_true_eq, seg_all, Nat.zero_add]
  refine ⟨by omega, by simp, ⟨hv, h0, h1, by omega, by omega, by simp, fun k hk _ => by simp [List.getD_eq_getElem?_getD, List.getElem?_replicate]; split <;> rfl⟩, fun o s' ho => ⟨Nat.le_refl _, hK o s' ho⟩⟩
theorem ok53 : FnOk Try.prog 53 fcSpread := fn_of (n := 5) ((good_nil _).addL ok53a) fun (l, s, ()) K hx => h53F l s K hx
end Go.P7
