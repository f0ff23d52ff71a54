/- The plain law of shares: their sum, and that no cent is better elsewhere. No conditions. -/
import Derived.Test.YtfbpaonmegmcgaaGreatTbShareP2
set_option linter.all false
namespace Go.P7
open Go.Lom Go.Proofs Go
theorem sum_set : ∀ (l : List Int) (n : Nat), n < l.length -> (l.set n (l.getD n 0 + 1)).sum = l.sum + 1
 | [], n, h => by simp at h
 | x :: l, 0, h => by simp [List.sum_cons]; omega
 | x :: l, n + 1, h => by
  have := sum_set l n (by simpa using h)
  simp only [List.set_cons_succ, List.getD_cons_succ, List.sum_cons, this]; omega
theorem getD_set (l : List Int) (n k : Nat) (v : Int) (h : n < l.length) : (l.set n v).getD k 0 = if n = k then v else l.getD k 0 := by
 simp only [List.getD_eq_getElem?_getD, List.getElem?_set]
 by_cases e : n = k
 ·subst e; simp [h]
 ·simp [e]
def ahead (w out : List Int) (b k : Nat) : Prop := w.getD b 0 * (out.getD k 0 + 1) > w.getD k 0 * (out.getD b 0 + 1) \/ (w.getD b 0 * (out.getD k 0 + 1) = w.getD k 0 * (out.getD b 0 + 1) /\ b < k)
theorem frac {a b c p q r : Int} (hq : 0 < q) (hr : 0 < r) (hp : 0 < p) (h1 : a * q > b * p) (h2 : b * r >= c * q) : a * r > c * p := by
 have e1 : (b * p) * r < (a * q) * r := Int.mul_lt_mul_of_pos_right h1 hr
 have e2 : (c * q) * p <= (b * r) * p := Int.mul_le_mul_of_nonneg_right h2 (by omega)
 have e3 : q * (c * p) < q * (a * r) := by
  have f1 : (c * q) * p = q * (c * p) := by rw [Int.mul_comm c q, Int.mul_assoc]
  have f2 : (a * q) * r = q * (a * r) := by rw [Int.mul_comm a q, Int.mul_assoc]
  have f3 : (b * p) * r = (b * r) * p := by rw [Int.mul_assoc, Int.mul_comm p r, <- Int.mul_assoc]
  omega
 exact Int.lt_of_mul_lt_mul_left e3 (by omega)
theorem bestN_ahead {w out : List Int} (h : ∀ k : Nat, 0 < out.getD k 0 + 1) : ∀ (n : Nat) (b i : Int), 0 <= b -> b < i -> (∀ k : Nat, (k : Int) < i -> k ≠ b.toNat -> ahead w out b.toNat k) -> ∀ k : Nat, (k : Int) < i + n -> k ≠ (bestN w out n b i).toNat -> ahead w out (bestN w out n b i).toNat k
 | 0, b, i, h1, h2, h3, k, hk, hne => h3 k (by omega) hne
 | n + 1, b, i, h1, h2, h3, k, hk, hne => by
  simp only [bestN] at hne ⊢
  by_cases hb : better w out b i = true
  ·rw [if_pos hb] at hne ⊢
   have hb := of_decide_eq_true hb
   refine bestN_ahead h n i (i + 1) (by omega) (by omega) (fun j hj hji => ?_) k (by omega) hne
   left
   by_cases hjb : j = b.toNat
   ·subst hjb; exact hb
   ·refine frac (h b.toNat) (h j) (h i.toNat) hb ?_
    rcases h3 j (by omega) hjb with h | h
    ·omega
    ·omega
  ·rw [if_neg hb] at hne ⊢
   have hb : ¬ _ := fun e => hb (decide_eq_true e)
   refine bestN_ahead h n b (i + 1) h1 (by omega) (fun j hj hji => ?_) k (by omega) hne
   by_cases hjb : (j : Int) = i
   ·have : j = i.toNat := by omega
    subst this
    unfold ahead
    by_cases he : w.getD b.toNat 0 * (out.getD i.toNat 0 + 1) = w.getD i.toNat 0 * (out.getD b.toNat 0 + 1)
    ·exact .inr ⟨he, by omega⟩
    ·left; omega
   ·exact h3 j (by omega) hji
theorem best_ahead {w out : List Int} (h : ∀ k : Nat, 0 < out.getD k 0 + 1) (hw : 1 <= w.length) (k : Nat) (hk : k < w.length) (hne : k ≠ (best w out).toNat) : ahead w out (best w out).toNat k :=
 bestN_ahead h _ 0 1 (by omega) (by omega) (fun k hk hne => absurd (by simp; omega : k = Int.toNat 0) hne) k (by omega) hne
def fairs (w out : List Int) : Prop := out.length = w.length /\ (∀ k : Nat, 0 <= out.getD k 0) /\ (∀ k : Nat, k < w.length -> w.getD k 0 = 0 -> out.getD k 0 = 0) /\
 ∀ i k : Nat, i < w.length -> k < w.length -> i ≠ k -> 0 < out.getD i 0 -> w.getD i 0 * (out.getD k 0 + 1) > w.getD k 0 * out.getD i 0 \/ (w.getD i 0 * (out.getD k 0 + 1) = w.getD k 0 * out.getD i 0 /\ i < k)
theorem some_pos : ∀ {w : List Int}, 0 < w.sum -> ∃ k : Nat, k < w.length /\ 0 < w.getD k 0
 | [], h => by simp at h
 | x :: l, h => by
  by_cases hx : 0 < x
  ·exact ⟨0, by simp, by simpa using hx⟩
  ·simp only [List.sum_cons] at h
   obtain ⟨k, h1, h2⟩ := some_pos (w := l) (by omega)
   exact ⟨k + 1, by simpa using h1, by simpa using h2⟩
theorem fairs_bump {w out : List Int} (hw : 1 <= w.length) (h0 : ∀ k : Nat, 0 <= w.getD k 0) (hs : 0 < w.sum) (h : fairs w out) : fairs w (bump out (best w out)) := by
 obtain ⟨h1, h2, h3, h4⟩ := h
 have hr := best_range (w := w) (out := out) hw
 have ha := best_ahead (w := w) (out := out) (fun k => by have := h2 k; omega) hw
 have hn : (best w out).toNat < w.length := by omega
 unfold bump
 generalize (best w out).toNat = c at ha hn ⊢
 have hc : 0 < w.getD c 0 := by
  obtain ⟨k, hk, hp⟩ := some_pos hs
  by_cases e : k = c
  ·rw [<- e]; exact hp
  ·have hw0 := h0 c
   by_cases hz : w.getD c 0 = 0
   ·have := ha k hk e
    unfold ahead at this
    rw [hz] at this
    have : 0 < w.getD k 0 * (out.getD c 0 + 1) := Int.mul_pos hp (by have := h2 c; omega)
    omega
   ·omega
 have hlc : c < out.length := by omega
 refine ⟨by simp [h1], fun k => ?_, fun k hk hz => ?_, fun i k hi hk hne hpos => ?_⟩
 ·rw [getD_set _ _ _ _ hlc]
  split
  ·have := h2 c; omega
  ·exact h2 k
 ·rw [getD_set _ _ _ _ hlc]
  split
  ·rename_i e; subst e; omega
  ·exact h3 k hk hz
 ·rw [getD_set _ _ _ _ hlc] at hpos
  rw [getD_set _ _ _ _ hlc, getD_set _ _ _ _ hlc]
  by_cases hic : c = i
  ·subst hic
   rw [if_neg (by omega), if_pos rfl]
   exact ha k hk (by omega)
  ·rw [if_neg hic] at hpos ⊢
   by_cases hkc : c = k
   ·subst hkc
    rw [if_pos rfl]
    left
    have hwi : 0 < w.getD i 0 := by
     have := h0 i
     by_cases hz : w.getD i 0 = 0
     ·have := h3 i hi hz; omega
     ·omega
    have := h4 i c hi hk hne hpos
    have e : w.getD i 0 * (out.getD c 0 + 1 + 1) = w.getD i 0 * (out.getD c 0 + 1) + w.getD i 0 := by rw [Int.mul_add, Int.mul_one]
    omega
   ·rw [if_neg hkc]
    exact h4 i k hi hk hne hpos
theorem getD_map0 {f : Int -> Int} (h : f 0 = 0) (l : List Int) (k : Nat) : (l.map f).getD k 0 = f (l.getD k 0) := by
 simp only [List.getD_eq_getElem?_getD, List.getElem?_map]
 cases l[k]? <;> simp [h]
theorem getD_all {p : Int -> Prop} {l : List Int} (h : ∀ x ∈ l, p x) (h0 : p 0) (k : Nat) : p (l.getD k 0) := by
 simp only [List.getD_eq_getElem?_getD]
 cases hk : l[k]? with
 | none => exact h0
 | some x => exact h x (List.mem_of_getElem? hk)
theorem fairs_base {w : List Int} {s : Int} (hw : validW w = true) (h0 : 0 <= s) : fairs w (base w s) := by
 obtain ⟨⟨w1, w2⟩, w3, w4⟩ := validW_iff.1 hw
 have hb : ∀ k : Nat, (base w s).getD k 0 = (s * w.getD k 0) / w.sum := fun k => by
  unfold base
  rw [getD_map0 (by simp [share1])]
  unfold share1
  have : 0 <= w.getD k 0 := getD_all (p := fun x => 0 <= x) (fun x hx => (w3 x hx).1) (Int.le_refl _) k
  rw [Int.tdiv_eq_ediv_of_nonneg (Int.mul_nonneg h0 this)]
 have hp : ∀ k : Nat, 0 <= w.getD k 0 := fun k => getD_all (p := fun x => 0 <= x) (fun x hx => (w3 x hx).1) (Int.le_refl _) k
 refine ⟨by simp [base], fun k => ?_, fun k hk hz => ?_, fun i k hi hk hne hpos => ?_⟩
 ·rw [hb]; exact Int.ediv_nonneg (Int.mul_nonneg h0 (hp k)) (by omega)
 ·rw [hb, hz]; simp
 ·left
  rw [hb] at hpos
  rw [hb, hb]
  have hwi : 0 < w.getD i 0 := by
   have := hp i
   by_cases hz : w.getD i 0 = 0
   ·rw [hz] at hpos; simp at hpos
   ·omega
  have e1 : s * w.getD i 0 / w.sum * w.sum <= s * w.getD i 0 := Int.ediv_mul_le _ (by omega)
  have e2 : s * w.getD k 0 < (s * w.getD k 0 / w.sum + 1) * w.sum := Int.lt_ediv_add_one_mul_self _ w4
  generalize s * w.getD i 0 / w.sum = a at *
  generalize s * w.getD k 0 / w.sum = b at *
  have e3 := Int.mul_le_mul_of_nonneg_left e1 (hp k)
  have e4 := Int.mul_lt_mul_of_pos_left e2 hwi
  have f1 : w.getD k 0 * (s * w.getD i 0) = w.getD i 0 * (s * w.getD k 0) := by
   rw [Int.mul_comm (w.getD k 0), Int.mul_assoc, Int.mul_comm (w.getD i 0) (w.getD k 0), <- Int.mul_assoc, Int.mul_comm (s * w.getD k 0)]
  have f2 : w.getD k 0 * (a * w.sum) = w.sum * (w.getD k 0 * a) := by rw [<- Int.mul_assoc, Int.mul_comm]
  have f3 : w.getD i 0 * ((b + 1) * w.sum) = w.sum * (w.getD i 0 * (b + 1)) := by rw [<- Int.mul_assoc, Int.mul_comm]
  have : w.sum * (w.getD k 0 * a) < w.sum * (w.getD i 0 * (b + 1)) := by omega
  exact Int.lt_of_mul_lt_mul_left this (by omega)
theorem giveN_law {w : List Int} {lo : List Int} (hw : 1 <= w.length) (h0 : ∀ k : Nat, 0 <= w.getD k 0) (hs : 0 < w.sum) : ∀ (n : Nat) (out : List Int), fairs w out -> (∀ k : Nat, lo.getD k 0 <= out.getD k 0) ->
  fairs w (giveN w n out) /\ (∀ k : Nat, lo.getD k 0 <= (giveN w n out).getD k 0) /\ (giveN w n out).sum = out.sum + n
 | 0, out, h, hl => ⟨h, hl, by simp [giveN]⟩
 | n + 1, out, h, hl => by
  have hr := best_range (w := w) (out := out) hw
  have hlt : (best w out).toNat < out.length := by have := h.1; omega
  obtain ⟨g1, g2, g3⟩ := giveN_law (lo := lo) hw h0 hs n (bump out (best w out)) (fairs_bump hw h0 hs h) fun k => by
   unfold bump
   rw [getD_set _ _ _ _ hlt]
   have := hl k
   split
   ·rename_i e; subst e; omega
   ·exact this
  refine ⟨g1, g2, ?_⟩
  simp only [giveN]
  rw [g3]
  unfold bump
  rw [sum_set _ _ hlt]; omega
theorem share_law {w : List Int} {s : Int} (hw : validW w = true) (h0 : 0 <= s) : fairs w (shareL w s) /\ (∀ k : Nat, (s * w.getD k 0).tdiv w.sum <= (shareL w s).getD k 0) /\ (shareL w s).sum = s := by
 obtain ⟨⟨w1, w2⟩, w3, w4⟩ := validW_iff.1 hw
 have hp : ∀ k : Nat, 0 <= w.getD k 0 := fun k => getD_all (p := fun x => 0 <= x) (fun x hx => (w3 x hx).1) (Int.le_refl _) k
 obtain ⟨g1, g2, g3⟩ := giveN_law (lo := base w s) w1 hp w4 (s - (base w s).sum).toNat (base w s) (fairs_base hw h0) fun _ => Int.le_refl _
 refine ⟨g1, fun k => ?_, ?_⟩
 ·have := g2 k
  unfold base at this
  rw [getD_map0 (by simp [share1])] at this
  exact this
 ·have := base_le hw h0
  unfold shareL
  rw [g3]; omega
end Go.P7
