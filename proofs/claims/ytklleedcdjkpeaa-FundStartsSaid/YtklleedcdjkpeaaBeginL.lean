/- Funds: the plain law of starts. No conditions. -/
import Derived.Test.YtklleedcdjkpeaaBeginS
import Derived.Test.YtklleedcdjkpeaaRunP
import Derived.Test.YtklleedcdjkpeaaStartsP
set_option linter.constructorNameAsVariable false
set_option linter.unusedVariables false
set_option linter.unusedSimpArgs false
set_option maxRecDepth 100000
namespace Go.P9
open Go.Lom Go.Proofs Go

/-- Passes come to an end. -/
theorem passN_end (ws : List Way) : ∀ (m : Nat) (d : List Int), muD d ≤ m → InvD d → wsOk d.length ws → ∃ k, passD ws (passN ws k d) = passN ws k d
  | m, d, hm, hi, hw => by
    rcases passD_mu ws hi hw with h | h
    · exact ⟨0, h⟩
    · cases m with
      | zero => omega
      | succ m =>
        obtain ⟨k, hk⟩ := passN_end ws m (passD ws d) (by omega) (passD_inv ws hi hw) (by rw [passD_len]; exact hw)
        exact ⟨k + 1, hk⟩
theorem startsL_fix {f : Fd} (h : okF f = true) (l : List Int) : mpass (fWays f) (KD (startsL f l)) = KD (startsL f l) := by
  have hn := okF_n h
  have hw := okF_ws h
  have hi := initD_inv (n := (fGroups f).length) l hn
  have hw' : wsOk (initD (fGroups f).length l).length (fWays f) := by rw [initD_len]; exact hw
  obtain ⟨k, hk⟩ := passN_end (fWays f) _ _ (Nat.le_refl _) hi hw'
  have hv : ∀ w ∈ fWays f, w.2.1.toNat < (fGroups f).length := fun w hm => by have := (hw w hm).2.2.1; have := (hw w hm).2.2.2.1; omega
  have ir := passN_inv (fWays f) k hi hw'
  have kr : KD (passN (fWays f) k (initD (fGroups f).length l)) = mpassN (fWays f) k (KD (initD (fGroups f).length l)) := KD_passN _ k hi hw'
  have fx : mpass (fWays f) (KD (passN (fWays f) k (initD (fGroups f).length l))) = KD (passN (fWays f) k (initD (fGroups f).length l)) := by
    rw [← KD_pass _ ir (by rw [passN_len]; exact hw'), hk]
  have e : KD (startsL f l) = KD (passN (fWays f) k (initD (fGroups f).length l)) := by
    unfold startsL
    rw [KD_passN _ _ hi hw']
    exact bf fx hv _ _ (fun x => by rw [kr]; exact mpassN_le _ k _ x) ⟨k, kr.symm⟩ (fun x hx => by rw [kr]; exact (mpassN_out hv k _ x hx).symm) (by omega)
  rw [e, fx]
theorem KD_at {f : Fd} (h : okF f = true) (l : List Int) {i : Nat} (hi : i < (fGroups f).length) : (0 ≤ (startsL f l).getD i 0 → KD (startsL f l) i = (startsL f l).getD i 0 ∧ (startsL f l).getD i 0 ≤ 96) ∧ ((startsL f l).getD i 0 < 0 → KD (startsL f l) i = 1000) := by
  have hl : i < (startsL f l).length := by rw [startsL_len]; exact hi
  have := (startsL_inv h l).at hl 0
  unfold KD keyD
  rw [getD_any hl (-1) 0]
  constructor
  · intro g; exact ⟨if_neg (by omega), this.2⟩
  · intro g; exact if_pos g
theorem startsL_way {f : Fd} (h : okF f = true) (l : List Int) {w : Way} (hw : w ∈ fWays f) (hu : 0 ≤ (startsL f l).getD w.1.toNat 0) : 0 ≤ (startsL f l).getD w.2.1.toNat 0 ∧ (startsL f l).getD w.2.1.toNat 0 ≤ (startsL f l).getD w.1.toNat 0 + w.2.2 := by
  obtain ⟨w1, w2, w3, w4, _, w5, w6⟩ := okF_ws h w hw
  have h1 := mpass_fix _ _ (startsL_fix h l) w hw
  obtain ⟨a1, _⟩ := KD_at h l (i := w.1.toNat) (by omega)
  obtain ⟨b1, b2⟩ := KD_at h l (i := w.2.1.toNat) (by omega)
  have a1 := a1 hu
  by_cases g : 0 ≤ (startsL f l).getD w.2.1.toNat 0
  · have b1 := b1 g; omega
  · have b2 := b2 (by omega); omega
theorem mrel_why {d0 d : Nat → Int} {ws : List Way} {a : Way} (ha : a ∈ ws) (h : ∀ x, d x = d0 x ∨ ∃ w ∈ ws, w.2.1.toNat = x ∧ d w.1.toNat + w.2.2 ≤ d x) : ∀ x, mrel d a x = d0 x ∨ ∃ w ∈ ws, w.2.1.toNat = x ∧ mrel d a w.1.toNat + w.2.2 ≤ mrel d a x := fun x => by
  by_cases e : mrel d a x = d x
  · rcases h x with h | ⟨w, h1, h2, h3⟩
    · exact .inl (e.trans h)
    · have := mrel_le d a w.1.toNat
      exact .inr ⟨w, h1, h2, by omega⟩
  · right
    unfold mrel at e
    split at e
    · rename_i hx
      subst hx
      refine ⟨a, ha, rfl, ?_⟩
      have h1 := mrel_le d a a.1.toNat
      have h2 : mrel d a a.2.1.toNat = min (d a.2.1.toNat) (d a.1.toNat + a.2.2) := if_pos rfl
      omega
    · exact absurd rfl e
theorem mpass_why {d0 : Nat → Int} {ws : List Way} : ∀ (us : List Way) (d : Nat → Int), (∀ w ∈ us, w ∈ ws) → (∀ x, d x = d0 x ∨ ∃ w ∈ ws, w.2.1.toNat = x ∧ d w.1.toNat + w.2.2 ≤ d x) → ∀ x, mpass us d x = d0 x ∨ ∃ w ∈ ws, w.2.1.toNat = x ∧ mpass us d w.1.toNat + w.2.2 ≤ mpass us d x
  | [], d, _, h => h
  | a :: us, d, hm, h => mpass_why us (mrel d a) (fun w hw => hm w (List.mem_cons_of_mem _ hw)) (mrel_why (hm a (List.mem_cons_self ..)) h)
theorem mpassN_why {d0 : Nat → Int} {ws : List Way} : ∀ (k : Nat) (d : Nat → Int), (∀ x, d x = d0 x ∨ ∃ w ∈ ws, w.2.1.toNat = x ∧ d w.1.toNat + w.2.2 ≤ d x) → ∀ x, mpassN ws k d x = d0 x ∨ ∃ w ∈ ws, w.2.1.toNat = x ∧ mpassN ws k d w.1.toNat + w.2.2 ≤ mpassN ws k d x
  | 0, d, h => h
  | k + 1, d, h => mpassN_why k (mpass ws d) (mpass_why ws d (fun _ h => h) h)
theorem KD_starts {f : Fd} (h : okF f = true) (l : List Int) : KD (startsL f l) = mpassN (fWays f) (fGroups f).length (KD (initD (fGroups f).length l)) :=
  KD_passN _ _ (initD_inv l (okF_n h)) (by rw [initD_len]; exact okF_ws h)
theorem KD_initD {n i : Nat} {l : List Int} (hi : i < n) : KD (initD n l) i = if (i : Int) ∈ l then 0 else 1000 := by
  unfold KD
  rw [initD_get l hi]
  split <;> rfl
theorem startsL_in {f : Fd} (h : okF f = true) {l : List Int} {i : Nat} (hi : i < (fGroups f).length) (hm : (i : Int) ∈ l) : (startsL f l).getD i 0 = 0 := by
  have h1 := mpassN_le (fWays f) (fGroups f).length (KD (initD (fGroups f).length l)) i
  rw [← KD_starts h l, KD_initD hi, if_pos hm] at h1
  obtain ⟨a1, a2⟩ := KD_at h l hi
  by_cases g : 0 ≤ (startsL f l).getD i 0
  · have a1 := a1 g; omega
  · have a2 := a2 (by omega); omega
theorem startsL_why {f : Fd} (h : okF f = true) {l : List Int} {i : Nat} (hi : i < (fGroups f).length) (hs : 0 ≤ (startsL f l).getD i 0) : (i : Int) ∈ l ∨ (fWays f).any (tightB (startsL f l) i) = true := by
  obtain ⟨a1, _⟩ := KD_at h l hi
  have a1 := a1 hs
  have hy := mpassN_why (ws := fWays f) (d0 := KD (initD (fGroups f).length l)) (fGroups f).length _ (fun x => .inl rfl) i
  rw [← KD_starts h l] at hy
  rcases hy with hy | ⟨w, hw, hx, hy⟩
  · left
    rw [KD_initD hi] at hy
    by_cases g : (i : Int) ∈ l
    · exact g
    · rw [if_neg g] at hy; omega
  · right
    obtain ⟨w1, w2, w3, w4, _, w5, w6⟩ := okF_ws h w hw
    obtain ⟨b1, b2⟩ := KD_at h l (i := w.1.toNat) (by omega)
    have hu : 0 ≤ (startsL f l).getD w.1.toNat 0 := by
      by_cases g : 0 ≤ (startsL f l).getD w.1.toNat 0
      · exact g
      · have b2 := b2 (by omega); omega
    have b1 := b1 hu
    have hle := startsL_way h l hw hu
    rw [hx] at hle
    refine List.any_eq_true.2 ⟨w, hw, ?_⟩
    unfold tightB
    simp only [Bool.and_eq_true, decide_eq_true_eq, Int.toNat_natCast]
    exact ⟨by omega, hu, by omega⟩
theorem startsL_mono {f : Fd} (h : okF f = true) {l m : List Int} (hlm : ∀ x ∈ l, x ∈ m) {i : Nat} (hi : i < (fGroups f).length) (hs : 0 ≤ (startsL f l).getD i 0) : 0 ≤ (startsL f m).getD i 0 ∧ (startsL f m).getD i 0 ≤ (startsL f l).getD i 0 := by
  have h1 : ∀ x, KD (initD (fGroups f).length m) x ≤ KD (initD (fGroups f).length l) x := fun x => by
    by_cases hx : x < (fGroups f).length
    · rw [KD_initD hx, KD_initD hx]
      by_cases g : (x : Int) ∈ l
      · rw [if_pos g, if_pos (hlm _ g)]; exact Int.le_refl _
      · rw [if_neg g]; split <;> omega
    · unfold KD
      rw [List.getD_eq_getElem?_getD, List.getD_eq_getElem?_getD, List.getElem?_eq_none (by rw [initD_len]; omega), List.getElem?_eq_none (by rw [initD_len]; omega)]
      exact Int.le_refl _
  have h2 := mpassN_mono (fWays f) (fGroups f).length h1 i
  rw [← KD_starts h, ← KD_starts h] at h2
  obtain ⟨a1, _⟩ := KD_at h l hi
  obtain ⟨b1, b2⟩ := KD_at h m hi
  have a1 := a1 hs
  by_cases g : 0 ≤ (startsL f m).getD i 0
  · have b1 := b1 g; omega
  · have b2 := b2 (by omega); omega

/-! one more -/
theorem bothD_step {n : Nat} {l : List Int} {one i : Int} (h0 : 0 ≤ i) (h : i < n) : bothD n l one i = (if i = one ∨ i ∈ l then [i] else []) ++ bothD n l one (i + 1) := by
  unfold bothD
  rw [drop_step 0 h0 (by simpa using h)]
  have e : (List.range n).getD i.toNat 0 = i.toNat := by
    rw [List.getD_eq_getElem?_getD, List.getElem?_range (by omega)]; rfl
  have e2 : isB l one i.toNat = true ↔ (i = one ∨ i ∈ l) := by
    unfold isB
    rw [Bool.or_eq_true, decide_eq_true_eq, decide_eq_true_eq, show ((i.toNat : Nat) : Int) = i by omega]
  rw [e, List.filter_cons]
  by_cases g : i = one ∨ i ∈ l
  · rw [if_pos (e2.2 g), if_pos g, List.map_cons, show ((i.toNat : Nat) : Int) = i by omega]; rfl
  · rw [if_neg (fun k => g (e2.1 k)), if_neg g]; rfl
theorem bothD_end {n : Nat} {l : List Int} {one i : Int} (h : ¬ i < n) : bothD n l one i = [] := by
  unfold bothD; rw [drop_end (by simpa using h)]; rfl
theorem bothD_len (n : Nat) (l : List Int) (one : Int) : (bothD n l one 0).length ≤ n := by
  unfold bothD
  rw [List.length_map]
  exact Nat.le_trans (List.length_filter_le _ _) (by simp)
theorem bothD_mem {n : Nat} {l : List Int} {one x : Int} : x ∈ bothD n l one 0 ↔ 0 ≤ x ∧ x < n ∧ (x = one ∨ x ∈ l) := by
  unfold bothD isB
  simp only [Int.toNat_zero, List.drop_zero, List.mem_map, List.mem_filter, List.mem_range, Bool.or_eq_true, decide_eq_true_eq]
  constructor
  · rintro ⟨k, ⟨h1, h2⟩, rfl⟩; exact ⟨by omega, by omega, h2⟩
  · rintro ⟨h1, h2, h3⟩
    exact ⟨x.toNat, ⟨by omega, by rw [show ((x.toNat : Nat) : Int) = x by omega]; exact h3⟩, by omega⟩
theorem bothD_lists {n : Nat} {l : List Int} {one : Int} : listsB n (bothD n l one 0) 0 = true := by
  have hp : (bothD n l one 0).Pairwise (· < ·) := by
    unfold bothD
    rw [List.pairwise_map]
    refine List.Pairwise.imp (fun h => by omega) (List.Pairwise.filter _ (List.Pairwise.sublist (List.drop_sublist _ _) (List.pairwise_lt_range (n := n))))
  unfold listsB
  simp only [Int.toNat_zero, List.drop_zero]
  refine List.all_eq_true.2 fun k hk => ?_
  have hk : k < (bothD n l one 0).length := by simpa using hk
  have h1 := bothD_mem.1 (getD_mem (d := bothD n l one 0) hk 0)
  have := (ltB_iff (n := n) (l := bothD n l one 0) (i := (k : Int)) (by omega)).2
  rw [Int.toNat_natCast] at this
  refine this ⟨⟨h1.1, by omega⟩, fun hg => ?_⟩
  have h2 := List.pairwise_iff_getElem.1 hp (k - 1) k (by omega) hk (by omega)
  rw [show ((k : Int) - 1).toNat = k - 1 by omega, List.getD_eq_getElem?_getD, List.getD_eq_getElem?_getD, List.getElem?_eq_getElem (show k - 1 < (bothD n l one 0).length by omega), List.getElem?_eq_getElem hk]
  simp only [Option.getD_some]
  omega
end Go.P9
