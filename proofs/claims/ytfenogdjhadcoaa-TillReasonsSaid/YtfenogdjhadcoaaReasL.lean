/- Reasons: some dealings of the window, as few as reach the sum, the first ones; the alarm is not later. No conditions. -/
import Derived.Test.YtfenogdjhadcoaaReasS
import Derived.Test.YtfenogdjhadcoaaAlarmP
set_option linter.constructorNameAsVariable false
set_option linter.unusedVariables false
set_option linter.unusedSimpArgs false
namespace Go.P8

section
variable {w : Wt} {l : List Dl} {h : List Int} {k : Int}
theorem ins_sub : ∀ (n : Nat) (i prev s : Int) (xs : List Int), 0 ≤ i → prev < i → i + n = k + 1 → xs.Sublist (winF w l h k n i) → insF w l h k xs prev s = (s + sumOf l xs, true)
  | 0, i, prev, s, xs, _, _, _, hs => by
    have : xs = [] := List.sublist_nil.1 hs
    subst this; simp [insF, sumOf]
  | n + 1, i, prev, s, xs, h0, hp, hk, hs => by
    simp only [winF] at hs
    by_cases hb : winB w l h k i = true
    · rw [if_pos hb] at hs
      rcases List.sublist_cons_iff.1 hs with hs2 | ⟨ys, rfl, hs2⟩
      · exact ins_sub n (i + 1) prev s xs (by omega) (by omega) (by omega) hs2
      · simp only [insF]
        rw [if_pos ⟨⟨h0, by omega, hp⟩, hb⟩, ins_sub n (i + 1) i (s + amt l i) ys (by omega) (by omega) (by omega) hs2]
        simp only [sumOf, List.map_cons, List.sum_cons, Prod.mk.injEq, and_true]; omega
    · rw [if_neg hb] at hs
      exact ins_sub n (i + 1) prev s xs (by omega) (by omega) (by omega) hs
theorem win_from : ∀ (c : Nat) (i x : Int), i + c = x → x ≤ k → winB w l h k x = true → (x :: winF w l h k (k - x).toNat (x + 1)).Sublist (winF w l h k (k + 1 - i).toNat i)
  | 0, i, x, e, hx, hb => by
    have : i = x := by omega
    subst this
    rw [show (k + 1 - i).toNat = (k - i).toNat + 1 by omega]
    simp only [winF]
    rw [if_pos hb]; exact List.Sublist.refl _
  | c + 1, i, x, e, hx, hb => by
    rw [show (k + 1 - i).toNat = (k + 1 - (i + 1)).toNat + 1 by omega]
    simp only [winF]
    have ih := win_from c (i + 1) x (by omega) hx hb
    split
    · exact ih.cons i
    · exact ih
theorem ins_true : ∀ (xs : List Int) (prev s m : Int), -1 ≤ prev → insF w l h k xs prev s = (m, true) → xs.Sublist (winF w l h k (k - prev).toNat (prev + 1)) ∧ m = s + sumOf l xs
  | [], prev, s, m, _, e => by
    simp only [insF, Prod.mk.injEq, and_true] at e
    exact ⟨List.nil_sublist _, by simp [sumOf]; omega⟩
  | x :: xs, prev, s, m, hp, e => by
    simp only [insF] at e
    split at e
    · rename_i hc
      obtain ⟨⟨c1, c2, c3⟩, c4⟩ := hc
      obtain ⟨i1, i2⟩ := ins_true xs x (s + amt l x) m (by omega) e
      refine ⟨(i1.cons_cons x).trans ?_, ?_⟩
      · have := win_from (w := w) (l := l) (h := h) (k := k) (x - (prev + 1)).toNat (prev + 1) x (by omega) c2 c4
        rw [show (k + 1 - (prev + 1)).toNat = (k - prev).toNat by omega] at this
        exact this
      · rw [i2]; simp only [sumOf, List.map_cons, List.sum_cons]; omega
    · simp at e
theorem win_asc : ∀ (n : Nat) (i : Int), (winF w l h k n i).Pairwise (· < ·)
  | 0, i => .nil
  | n + 1, i => by
    simp only [winF]
    split
    · refine List.pairwise_cons.2 ⟨fun x hx => ?_, win_asc n (i + 1)⟩
      have := (winF_mem n (i + 1) x).1 hx
      omega
    · exact win_asc n (i + 1)
end

theorem sub_grt {l : List Dl} : ∀ {os is : List Int}, os.Sublist is → sumOf l os ≤ grt l is os.length
  | _, _, .slnil => by simp [sumOf, grt_zero]
  | os, a :: is, .cons _ hs => by
    have ih := sub_grt (l := l) hs
    cases hl : os.length with
    | zero =>
      have : os = [] := List.length_eq_zero_iff.1 hl
      subst this; simp [sumOf, grt_zero]
    | succ r =>
      rw [hl] at ih
      have := hs.length_le
      rw [grt_cons l a is (by omega)]; omega
  | a :: os, _ :: is, .cons_cons _ hs => by
    have ih := sub_grt (l := l) hs
    have hle := hs.length_le
    simp only [sumOf, List.map_cons, List.sum_cons, List.length_cons] at *
    by_cases hr : os.length < is.length
    · rw [grt_cons l a is hr]; omega
    · have e : os.length = is.length := by omega
      rw [e] at ih ⊢
      have := grt_all l (a :: is)
      simp only [List.length_cons, sumOf, List.map_cons, List.sum_cons] at this
      rw [this]
      have h2 := grt_all l is
      simp only [sumOf] at h2
      rw [h2] at ih; omega
theorem many_min {l : List Dl} {is : List Int} {s : Int} : ∀ (n m m' : Nat), m ≤ m' → m' < manyF l is s n m → grt l is m' < s
  | 0, m, m', h1, h2 => by simp [manyF] at h2; omega
  | n + 1, m, m', h1, h2 => by
    simp only [manyF] at h2
    split at h2
    · rename_i hc
      by_cases e : m' = m
      · subst e; exact hc
      · exact many_min n (m + 1) m' (by omega) h2
    · omega
theorem many_ok {l : List Dl} {is : List Int} {s : Int} : ∀ (n m : Nat), s ≤ grt l is (m + n) → m ≤ manyF l is s n m ∧ manyF l is s n m ≤ m + n ∧ s ≤ grt l is (manyF l is s n m)
  | 0, m, h => ⟨Nat.le_refl _, Nat.le_refl _, h⟩
  | n + 1, m, h => by
    simp only [manyF]
    split
    · have := many_ok (l := l) (is := is) (s := s) n (m + 1) (by rw [show m + 1 + n = m + (n + 1) by omega]; exact h)
      omega
    · rename_i hc; omega
theorem pick_ok {l : List Dl} {s : Int} : ∀ (is : List Int) (r : Nat) (n : Int), r ≤ is.length → s ≤ n + grt l is r → (pickF l s is r n).length = r ∧ (pickF l s is r n).Sublist is ∧ s ≤ n + sumOf l (pickF l s is r n)
  | [], r, n, h1, h2 => by
    have : r = 0 := by simpa using h1
    subst this
    rw [grt_zero] at h2
    exact ⟨rfl, List.Sublist.refl _, by simpa [pickF, sumOf] using h2⟩
  | a :: is, 0, n, h1, h2 => by
    rw [grt_zero] at h2
    exact ⟨by simp [pickF], by simp [pickF], by simpa [pickF, sumOf] using h2⟩
  | a :: is, r + 1, n, h1, h2 => by
    have h1 : r + 1 ≤ is.length + 1 := h1
    simp only [pickF, Nat.add_one_ne_zero, if_false, Nat.add_sub_cancel]
    split
    · rename_i hc
      obtain ⟨a1, a2, a3⟩ := pick_ok is r (n + amt l a) hc.1 hc.2
      refine ⟨by simp [a1], a2.cons_cons a, ?_⟩
      simp only [sumOf, List.map_cons, List.sum_cons] at a3 ⊢; omega
    · rename_i hc
      obtain ⟨b1, b2⟩ := pick_next h1 h2 fun z => hc ⟨by omega, z⟩
      obtain ⟨a1, a2, a3⟩ := pick_ok is (r + 1) n b1 b2
      exact ⟨a1, a2.cons a, a3⟩
theorem pick_lex {l : List Dl} {s : Int} : ∀ (is : List Int) (r : Nat) (n : Int) (os : List Int), is.Pairwise (· < ·) → os.Sublist is → os.length = r → s ≤ n + sumOf l os → aheadB os (pickF l s is r n) = false
  | [], r, n, os, _, hs, hl, _ => by
    have : os = [] := List.sublist_nil.1 hs
    subst this; subst hl; simp [pickF, aheadB]
  | a :: is, 0, n, os, _, hs, hl, _ => by
    have : os = [] := List.length_eq_zero_iff.1 hl
    subst this; simp [pickF, aheadB]
  | a :: is, r + 1, n, os, hp, hs, hl, hsum => by
    have hp2 := List.pairwise_cons.1 hp
    simp only [pickF, Nat.add_one_ne_zero, if_false, Nat.add_sub_cancel]
    rcases List.sublist_cons_iff.1 hs with hs2 | ⟨ys, rfl, hs2⟩
    · split
      · cases os with
        | nil => simp at hl
        | cons o os =>
          have ho : a < o := hp2.1 o (hs2.subset (by simp))
          unfold aheadB
          rw [if_neg (by omega), decide_eq_false (by omega)]
      · exact pick_lex is (r + 1) n os hp2.2 hs2 hl hsum
    · have hl : ys.length = r := by simpa using hl
      have hg := sub_grt (l := l) hs2
      rw [hl] at hg
      have hle := hs2.length_le
      simp only [sumOf, List.map_cons, List.sum_cons] at hsum hg
      rw [if_pos ⟨by omega, by omega⟩]
      unfold aheadB
      rw [if_pos rfl]
      exact pick_lex is r (n + amt l a) ys hp2.2 hs2 hl (by simp only [sumOf]; omega)
theorem firstRep_le {w : Wt} {l : List Dl} {h : List Int} {p k : Int} (hr : repAt w l h p k = true) : ∀ (n : Nat) (i : Int), i ≤ k → k < i + n → firstRep w l h p n i ≤ k
  | 0, i, h1, h2 => by omega
  | n + 1, i, h1, h2 => by
    simp only [firstRep]
    split
    · exact h1
    · rename_i hc
      have : i ≠ k := fun e => by subst e; exact hc hr
      exact firstRep_le hr n (i + 1) (by omega) (by omega)
theorem alarms_first {w : Wt} {l : List Dl} {h : List Int} {P k : Int} (hk : alarmK w l h P ≤ k) (hl : k < l.length) : ∀ (n : Nat) (p : Int), p ≤ P → P < p + n → firstOk P k (alarmsF w l h n p) = true
  | 0, p, h1, h2 => by omega
  | n + 1, p, h1, h2 => by
    simp only [alarmsF]
    by_cases e : p = P
    · subst e
      rw [if_pos (by omega)]
      unfold firstOk
      rw [if_pos rfl, decide_eq_true hk]
    · have ih := alarms_first hk hl n (p + 1) (by omega) (by omega)
      split
      · unfold firstOk
        rw [if_neg e]; exact ih
      · exact ih
theorem alarms_len {w : Wt} {l : List Dl} {h : List Int} : ∀ (n : Nat) (p : Int), (alarmsF w l h n p).length ≤ n
  | 0, _ => Nat.le_refl _
  | n + 1, p => by
    simp only [alarmsF]
    have := alarms_len (w := w) (l := l) (h := h) n (p + 1)
    split <;> simp <;> omega
end Go.P8
