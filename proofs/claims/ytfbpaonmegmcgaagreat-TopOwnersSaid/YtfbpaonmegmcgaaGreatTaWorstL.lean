/- Funds: the worst run: the plain law. No conditions. -/
import Derived.Test.YtfbpaonmegmcgaaGreatTaWorst2P
set_option linter.all false
set_option maxRecDepth 100000
namespace Go.P9
open Go.Lom Go.Proofs Go
theorem ahead_app : ∀ (l a b : List Int), aheadI (l ++ a) (l ++ b) = aheadI a b
 | [], _, _ => rfl
 | x :: l, a, b => by show (if x = x then aheadI (l ++ a) (l ++ b) else _) = _; rw [if_pos rfl]; exact ahead_app l a b
def okL (n : Nat) (l : List Int) : Prop := l.Pairwise (· < ·) /\ ∀ x ∈ l, 0 <= x /\ x < n
theorem getD_eq {l : List Int} {k : Nat} (h : k < l.length) : l.getD k 0 = l[k] := by simp [List.getD_eq_getElem?_getD, h]
theorem lists_iff {n : Nat} {l : List Int} : listsB n l 0 = true ↔ okL n l := by
 constructor
 ·intro h
  refine ⟨List.pairwise_iff_getElem.2 fun i j hi hj hij => ?_, listsB_in h⟩
  have st : ∀ k, k + 1 < l.length -> l.getD k 0 < l.getD (k + 1) 0 := fun k hk => by
   have h2 := List.all_eq_true.1 h (k + 1) (by simpa using hk)
   have h3 := ((ltB_iff (i := ((k + 1 : Nat) : Int)) (by omega)).1 (by rw [Int.toNat_natCast]; exact h2)).2 (by omega)
   rw [show (((k + 1 : Nat) : Int) - 1).toNat = k by omega, Int.toNat_natCast] at h3
   omega
  have : ∀ d, i + d + 1 < l.length -> l.getD i 0 < l.getD (i + d + 1) 0 := by
   intro d
   induction d with
   | zero => intro hd; exact st i hd
   | succ d ih => intro hd; have := ih (by omega); have := st (i + d + 1) hd; rw [show i + (d + 1) + 1 = i + d + 1 + 1 by omega]; omega
  have := this (j - i - 1) (by omega)
  rw [show i + (j - i - 1) + 1 = j by omega, getD_eq hi, getD_eq hj] at this
  exact this
 ·intro ⟨h1, h2⟩
  unfold listsB
  simp only [Int.toNat_zero, List.drop_zero]
  refine List.all_eq_true.2 fun k hk => ?_
  have hk : k < l.length := by simpa using hk
  have := (ltB_iff (n := n) (l := l) (i := (k : Int)) (by omega)).2
  rw [Int.toNat_natCast] at this
  have g := h2 _ (getD_mem hk 0)
  refine this ⟨⟨g.1, by omega⟩, fun hg => ?_⟩
  have h3 := List.pairwise_iff_getElem.1 h1 (k - 1) k (by omega) hk (by omega)
  rw [show ((k : Int) - 1).toNat = k - 1 by omega, getD_eq (show k - 1 < l.length by omega), getD_eq hk]
  omega
theorem rest_form {n b : Nat} : ∀ (k : Nat) (l : List Int), k <= n -> ∀ x ∈ restV n b k l, ∃ j s, x = l ++ (j :: s) /\ (n : Int) - k <= j /\ okL n (j :: s) /\ x.length <= b
 | 0, l, _, x, hx => by simp [restV] at hx
 | k + 1, l, hk, x, hx => by
  simp only [restV] at hx
  split at hx
  ·rename_i hb
   rcases List.mem_cons.1 hx with rfl | hx
   ·exact ⟨(n : Int) - k - 1, [], rfl, by omega, ⟨by simp, fun y hy => by simp at hy; omega⟩, by simp; omega⟩
   ·rcases List.mem_append.1 hx with hx | hx
    ·obtain ⟨j, s, rfl, h1, ⟨h2, h3⟩, h4⟩ := rest_form k _ (by omega) x hx
     refine ⟨(n : Int) - k - 1, j :: s, by simp, by omega, ⟨List.pairwise_cons.2 ⟨fun y hy => ?_, h2⟩, fun y hy => ?_⟩, h4⟩
     ·rcases List.mem_cons.1 hy with rfl | hy
      ·omega
      ·have := (List.pairwise_cons.1 h2).1 y hy; omega
     ·rcases List.mem_cons.1 hy with rfl | hy
      ·omega
      ·exact h3 y hy
    ·obtain ⟨j, s, e, h1, h2, h4⟩ := rest_form k l (by omega) x hx
     exact ⟨j, s, e, by omega, h2, h4⟩
  ·simp at hx
theorem rest_mem {n b : Nat} : ∀ (k : Nat) (l : List Int) (j : Int) (s : List Int), k <= n -> (n : Int) - k <= j -> okL n (j :: s) -> (l ++ (j :: s)).length <= b -> l ++ (j :: s) ∈ restV n b k l
 | 0, l, j, s, _, h1, ⟨_, h3⟩, _ => by have := (h3 j (List.mem_cons_self ..)).2; omega
 | k + 1, l, j, s, hk, h1, ⟨h2, h3⟩, h4 => by
  simp only [List.length_append, List.length_cons] at h4
  simp only [restV]
  rw [if_pos (by omega)]
  by_cases e : j = (n : Int) - k - 1
  ·rw [<- e]
   cases s with
   | nil => exact List.mem_cons_self ..
   | cons y t =>
    refine List.mem_cons_of_mem _ (List.mem_append_left _ ?_)
    have hp := List.pairwise_cons.1 h2
    have := rest_mem (n := n) (b := b) k (l ++ [j]) y t (by omega) (by have := hp.1 y (List.mem_cons_self ..); omega) ⟨hp.2, fun z hz => h3 z (List.mem_cons_of_mem _ hz)⟩ (by simp only [List.length_append, List.length_cons, List.length_nil] at h4 ⊢; omega)
    rw [List.append_assoc] at this; exact this
  ·exact List.mem_cons_of_mem _ (List.mem_append_right _ (rest_mem k l j s (by omega) (by omega) ⟨h2, h3⟩ (by simp only [List.length_append, List.length_cons]; omega)))
theorem rest_sorted {n b : Nat} : ∀ (k : Nat) (l : List Int), k <= n -> (restV n b k l).Pairwise fun x y => aheadI x y = true
 | 0, l, _ => List.Pairwise.nil
 | k + 1, l, hk => by
  simp only [restV]
  split
  ·refine List.pairwise_cons.2 ⟨fun x hx => ?_, List.pairwise_append.2 ⟨rest_sorted k _ (by omega), rest_sorted k l (by omega), fun x hx y hy => ?_⟩⟩
   ·rcases List.mem_append.1 hx with hx | hx
    ·obtain ⟨j, s, rfl, _⟩ := rest_form k _ (by omega) x hx
     have := ahead_app (l ++ [(n : Int) - k - 1]) [] (j :: s)
     rw [List.append_nil] at this
     rw [this]; rfl
    ·obtain ⟨j, s, rfl, h1, _⟩ := rest_form k l (by omega) x hx
     rw [ahead_app]
     simp only [aheadI]
     rw [if_neg (by omega)]; exact decide_eq_true (by omega)
   ·obtain ⟨j, s, rfl, _⟩ := rest_form k _ (by omega) x hx
    obtain ⟨j', s', rfl, h1, _⟩ := rest_form k l (by omega) y hy
    rw [List.append_assoc, ahead_app]
    simp only [List.singleton_append, aheadI]
    rw [if_neg (by omega)]; exact decide_eq_true (by omega)
  ·exact List.Pairwise.nil
def validL (f : Fd) (l : List Int) : Prop := okL (fGroups f).length l /\ (l.length : Int) <= fBegin f
theorem allV_mem {f : Fd} (hb : 0 <= fBegin f) {l : List Int} : l ∈ allV f ↔ validL f l := by
 unfold allV validL
 constructor
 ·intro h
  rcases List.mem_cons.1 h with rfl | h
  ·exact ⟨⟨List.Pairwise.nil, fun x hx => by simp at hx⟩, by simpa using hb⟩
  ·obtain ⟨j, s, rfl, _, h2, h3⟩ := rest_form _ [] (Nat.le_refl _) l h
   exact ⟨h2, by omega⟩
 ·intro ⟨h1, h2⟩
  cases l with
  | nil => exact List.mem_cons_self ..
  | cons j s => exact List.mem_cons_of_mem _ (rest_mem _ [] j s (Nat.le_refl _) (by have := (h1.2 j (List.mem_cons_self ..)).1; omega) h1 (by show (j :: s).length <= _; omega))
theorem allV_sorted (f : Fd) : (allV f).Pairwise fun x y => aheadI x y = true := by
 unfold allV
 refine List.pairwise_cons.2 ⟨fun x hx => ?_, rest_sorted _ _ (Nat.le_refl _)⟩
 obtain ⟨j, s, rfl, _⟩ := rest_form _ [] (Nat.le_refl _) x hx
 rfl
theorem runW_best (f : Fd) (day : Int) : ∀ (L : List (List Int)) (x : List Int × Int), (L.Pairwise fun x y => aheadI x y = true) ->
  (runW f day x L = x /\ ∀ l ∈ L, takenL f l day <= x.2) \/ ((runW f day x L).1 ∈ L /\ (runW f day x L).2 = takenL f (runW f day x L).1 day /\ (runW f day x L).2 > x.2 /\
   ∀ l ∈ L, takenL f l day <= (runW f day x L).2 /\ (takenL f l day = (runW f day x L).2 -> l = (runW f day x L).1 \/ aheadI (runW f day x L).1 l = true))
 | [], x, _ => .inl ⟨rfl, fun l h => by simp at h⟩
 | a :: L, x, hs => by
  rw [List.pairwise_cons] at hs
  rw [runW_cons]
  unfold updW
  by_cases c : takenL f a day > x.2
  ·rw [if_pos c]
   rcases runW_best f day L (a, takenL f a day) hs.2 with ⟨h1, h2⟩ | ⟨h1, h2, h3, h4⟩
   ·right
    rw [h1]
    refine ⟨List.mem_cons_self .., rfl, c, fun l hl => ?_⟩
    rcases List.mem_cons.1 hl with rfl | hl
    ·exact ⟨Int.le_refl _, fun _ => .inl rfl⟩
    ·exact ⟨h2 l hl, fun _ => .inr (hs.1 l hl)⟩
   ·right
    have h3 : _ > takenL f a day := h3
    refine ⟨List.mem_cons_of_mem _ h1, h2, by omega, fun l hl => ?_⟩
    rcases List.mem_cons.1 hl with rfl | hl
    ·exact ⟨by omega, fun e => by omega⟩
    ·exact h4 l hl
  ·rw [if_neg c]
   rcases runW_best f day L x hs.2 with ⟨h1, h2⟩ | ⟨h1, h2, h3, h4⟩
   ·left
    refine ⟨h1, fun l hl => ?_⟩
    rcases List.mem_cons.1 hl with rfl | hl
    ·omega
    ·exact h2 l hl
   ·right
    refine ⟨List.mem_cons_of_mem _ h1, h2, h3, fun l hl => ?_⟩
    rcases List.mem_cons.1 hl with rfl | hl
    ·exact ⟨by omega, fun e => by omega⟩
    ·exact h4 l hl
theorem tkI_nonneg {g : Grp} (hg : grpOk g = true) (st day : Int) : 0 <= tkI g st day := by
 have eg := grpOk_iff.1 hg
 unfold tkI
 split
 ·have hp : 0 <= posI (day - st - g.2.2 + 1) := by unfold posI; split <;> omega
  have := Int.mul_nonneg eg.2.1.1 hp
  unfold minI; split <;> omega
 ·omega
theorem sum_nn : ∀ {l : List Int}, (∀ x ∈ l, 0 <= x) -> 0 <= l.sum
 | [], _ => by simp
 | x :: l, h => by have := h x (List.mem_cons_self ..); have := sum_nn (l := l) fun y hy => h y (List.mem_cons_of_mem _ hy); simp; omega
theorem takenL_nonneg {f : Fd} (hf : okF f = true) (l : List Int) (day : Int) : 0 <= takenL f l day := by
 unfold takenL tkSum
 refine sum_nn fun x hx => ?_
 obtain ⟨k, hk, rfl⟩ := List.mem_map.1 hx
 have hk : k < (fGroups f).length := by simpa using hk
 exact tkI_nonneg (by have := grp_at hf (i := (k : Int)) (by omega) (by omega); rwa [Int.toNat_natCast] at this) _ _
end Go.P9
