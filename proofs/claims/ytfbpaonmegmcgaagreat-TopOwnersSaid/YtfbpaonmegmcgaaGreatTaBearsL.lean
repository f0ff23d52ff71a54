/- Funds: which needs can be met, by how much money, with how many groups at the beginning: plain laws. No conditions. -/
import Derived.Test.YtfbpaonmegmcgaaGreatTaLeast2S
import Derived.Test.YtfbpaonmegmcgaaGreatTaLeastP
set_option linter.all false
set_option maxRecDepth 100000
namespace Go.P9
open Go.Lom Go.Proofs Go
theorem fewI_spec {f : Fd} {ns : List Int} : ∀ (j : Nat) (i : Int), (fewI f ns j i = -1 /\ ∀ b, i <= b -> b < i + j -> ¬ askF f ns b true 0 0 <= 0) \/ (i <= fewI f ns j i /\ fewI f ns j i < i + j /\ askF f ns (fewI f ns j i) true 0 0 <= 0 /\ ∀ b, i <= b -> b < fewI f ns j i -> ¬ askF f ns b true 0 0 <= 0)
 | 0, i => .inl ⟨rfl, fun b h0 h1 => by omega⟩
 | j + 1, i => by
  simp only [fewI]
  by_cases h : askF f ns i true 0 0 <= 0
  ·rw [if_pos h]
   exact .inr ⟨by omega, by omega, h, fun b h0 h1 => by omega⟩
  ·rw [if_neg h]
   rcases fewI_spec j (i + 1) with ⟨h1, h2⟩ | ⟨h1, h2, h3, h4⟩
   ·exact .inl ⟨h1, fun b g0 g1 => by
     by_cases e : b = i
     ·rw [e]; exact h
     ·exact h2 b (by omega) (by omega)⟩
   ·exact .inr ⟨by omega, by omega, h3, fun b g0 g1 => by
     by_cases e : b = i
     ·rw [e]; exact h
     ·exact h4 b (by omega) g1⟩
theorem few_cases {f : Fd} {ns : List Int} : (fewN f ns = -1 /\ ∀ b, 0 <= b -> b <= fBars f -> ¬ askF f ns b true 0 0 <= 0) \/ (0 <= fewN f ns /\ fewN f ns <= fBars f /\ askF f ns (fewN f ns) true 0 0 <= 0 /\ ∀ b, 0 <= b -> b < fewN f ns -> ¬ askF f ns b true 0 0 <= 0) := by
 unfold fewN
 rcases fewI_spec (f := f) (ns := ns) (fBars f + 1).toNat 0 with ⟨h1, h2⟩ | ⟨h1, h2, h3, h4⟩
 ·exact .inl ⟨h1, fun b g0 g1 => h2 b g0 (by omega)⟩
 ·exact .inr ⟨h1, by omega, h3, h4⟩
theorem walk_nonneg {pr sl : Int -> Int} : ∀ {ns : List Int} {t m : Int} {l : List Int}, walkP pr sl ns t m l -> ∀ x ∈ l, 0 <= x
 | [], _, _, [], _, x, hx => by cases hx
 | [], _, _, _ :: _, h, _, _ => h.elim
 | _ :: _, _, _, [], h, _, _ => h.elim
 | n :: ns, t, m, c :: l, h, x, hx => by
  rcases List.mem_cons.1 hx with rfl | hx
  ·exact h.1.1
  ·exact walk_nonneg h.2 x hx
theorem sum_nnA : ∀ {l : List Int}, (∀ x ∈ l, 0 <= x) -> 0 <= l.sum
 | [], _ => by simp
 | x :: l, h => by
  have := h x (List.mem_cons_self ..)
  have := sum_nnA (l := l) fun y hy => h y (List.mem_cons_of_mem _ hy)
  rw [List.sum_cons]; omega
theorem few_iff {f : Fd} {ns : List Int} (hN : needB f ns (fBars f)) : 0 <= fewN f ns ↔ feas (prF f) (slF f) (finB (fBars f) false) ns 0 0 0 := by
 constructor
 ·intro h
  rcases few_cases (f := f) (ns := ns) with h1 | ⟨h1, h2, h3, _⟩
  ·omega
  ·have h4 := (ask0_iff (needB_le hN h1 h2) (ex := true) (by omega) (by omega)).1 h3
   refine feas_fin (fun k hk => ?_) h4
   have hk : k = fewN f ns := hk
   show k <= fBars f
   omega
 ·intro h
  obtain ⟨l, h1, h2⟩ := feas_walk.1 h
  have h0 := sum_nnA (walk_nonneg h1)
  have h2 : 0 + l.sum <= fBars f := h2
  have h3 := (ask0_iff (needB_le hN (i := l.sum) h0 (by omega)) (ex := true) (m := 0) (by omega) (by omega)).2 (feas_walk.2 ⟨l, h1, show 0 + l.sum = l.sum by omega⟩)
  rcases few_cases (f := f) (ns := ns) with h4 | h4
  ·exact absurd h3 (h4.2 l.sum h0 (by omega))
  ·exact h4.1
theorem ask_all_iff {f : Fd} {ns : List Int} (hN : needB f ns (fBars f)) {m : Int} (h0 : 0 <= m) (h1 : m <= 1125899906842624) : askF f ns (fBars f) false 0 0 <= m ↔ feas (prF f) (slF f) (finB (fBars f) false) ns 0 0 m := ask0_iff hN h0 h1
theorem lackF_iff {f : Fd} (hf : okF f = true) : lackF f <= 0 ↔ 0 <= fewN f (needsL f) := by
 have hN := needsL_B hf
 rw [few_iff hN, <- ask_all_iff hN (by omega) (by omega)]
 unfold lackF maxI
 split <;> omega
theorem feas_zero {pr sl : Int -> Int} (hs : ∀ t, 0 <= sl t) {fin : Int -> Prop} {k m : Int} (hk : fin k) : ∀ {ns : List Int} {t : Int}, (∀ x ∈ ns, x <= m) -> feas pr sl fin ns t k m
 | [], _, _ => hk
 | n :: ns, t, h => by
  refine ⟨0, Int.le_refl _, hs t, ?_, ?_⟩
  ·rw [Int.zero_mul, Int.add_zero]; exact h n (List.mem_cons_self ..)
  ·rw [Int.zero_mul, Int.add_zero, Int.add_zero]
   exact feas_zero hs hk fun x hx => h x (List.mem_cons_of_mem _ hx)
theorem needsK_H {f : Fd} (hf : okF f = true) : ∀ (k : Nat) (i due : Int), 0 <= i -> i + k <= (fIn f).length -> -1099511627776 - 1073741824 * i <= due -> due <= 1073741824 * i -> ∀ x ∈ needsK f k i due, -562949953421312 <= x /\ x <= 562949953421312
 | 0, _, _, _, _, _, _, x, hx => by simp [needsK] at hx
 | k + 1, i, due, h0, h1, h2, h3, x, hx => by
  have hA := okA_iff.1 (okF_parts hf).1
  have hd := day_bd hf h0 (by omega)
  have hw := worstW_bd hf i
  have hdue : dueI f i due = due + ((fBonds f).getD i.toNat 0 - ((fIn f).getD i.toNat (0, 0)).1) := rfl
  simp only [needsK, List.mem_cons] at hx
  rcases hx with rfl | hx
  ·omega
  ·exact needsK_H hf k (i + 1) (dueI f i due) (by omega) (by omega) (by omega) (by omega) x hx
theorem needsL_H {f : Fd} (hf : okF f = true) : needH f (needsL f) := by
 have hA := okA_iff.1 (okF_parts hf).1
 have hB := okB_iff.1 (okF_parts hf).2.2.1
 exact ⟨needsL_B hf, needsK_H hf _ 0 _ (by omega) (by omega) (by omega) (by omega)⟩
end Go.P9
