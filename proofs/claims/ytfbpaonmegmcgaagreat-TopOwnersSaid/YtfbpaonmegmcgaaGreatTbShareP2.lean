/- Weights and shares: the code keeps its contracts. No conditions. -/
import Derived.Test.YtfbpaonmegmcgaaGreatTbShareS2
import Derived.Test.YtfbpaonmegmcgaaGreatTbShareP
set_option linter.all false
set_option maxRecDepth 100000
namespace Go.P7
open Go.Lom Go.Proofs Go
theorem mLen_lt {l : List Int} {i : Int} (h : i < l.length) : mLen l (i + 1) < mLen l i := by unfold mLen; omega
theorem sum_bound {B : Int} : ∀ {l : List Int}, (∀ x ∈ l, 0 <= x /\ x <= B) -> 0 <= l.sum /\ l.sum <= l.length * B
 | [], _ => by simp
 | x :: l, h => by
  have h1 := sum_bound (l := l) fun y hy => h y (List.mem_cons_of_mem _ hy)
  have h2 := h x (List.mem_cons_self ..)
  simp only [List.sum_cons, List.length_cons]
  push_cast
  rw [Int.add_mul, Int.one_mul]
  omega
theorem fitS_of {B : Int} : ∀ {l : List Int} {n : Int}, (∀ x ∈ l, 0 <= x /\ x <= B) -> 0 <= n -> n + l.length * B <= 4611686018427387904 -> 0 <= B -> fitS n l
 | [], n, _, h0, h1, _ => by simp only [fitS]; exact inR_i64.2 (by simp at h1; omega)
 | x :: l, n, h, h0, h1, hB => by
  have h2 := h x (List.mem_cons_self ..)
  simp only [List.length_cons] at h1
  push_cast at h1
  rw [Int.add_mul, Int.one_mul] at h1
  have h3 : 0 <= (l.length : Int) * B := Int.mul_nonneg (by omega) hB
  simp only [fitS]
  exact ⟨inR_i64.2 (by omega), fitS_of (B := B) (fun y hy => h y (List.mem_cons_of_mem _ hy)) (by omega) (by omega) hB⟩
theorem elem_le_sum : ∀ {l : List Int}, (∀ x ∈ l, 0 <= x) -> ∀ x ∈ l, x <= l.sum
 | [], _, x, hx => by simp at hx
 | y :: l, h, x, hx => by
  have h0 : 0 <= l.sum := by
   have : ∀ (l : List Int), (∀ x ∈ l, 0 <= x) -> 0 <= l.sum := by
    intro l
    induction l with
    | nil => simp
    | cons a l ih => intro h; have := ih fun x hx => h x (List.mem_cons_of_mem _ hx); have := h a (List.mem_cons_self ..); simp only [List.sum_cons]; omega
   exact this l fun x hx => h x (List.mem_cons_of_mem _ hx)
  have h1 := h y (List.mem_cons_self ..)
  simp only [List.sum_cons]
  rcases List.mem_cons.1 hx with rfl | hx
  ·omega
  ·have := elem_le_sum (fun x hx => h x (List.mem_cons_of_mem _ hx)) x hx; omega
theorem validW_iff {l : List Int} : validW l = true ↔ (1 <= l.length /\ l.length <= 24) /\ (∀ x ∈ l, 0 <= x /\ x <= 67108864) /\ 0 < l.sum := by
 simp only [validW, Bool.and_eq_true, decide_eq_true_eq, List.all_eq_true, okW]
 constructor
 ·rintro ⟨⟨h1, h2⟩, h3⟩; exact ⟨h1, h2, h3⟩
 ·rintro ⟨h1, h2, h3⟩; exact ⟨⟨h1, h2⟩, h3⟩
theorem share1_bound {s all x : Int} (h0 : 0 <= s) (h1 : 0 <= x) (h2 : x <= all) (h3 : 0 < all) : 0 <= share1 s all x /\ share1 s all x <= s /\ share1 s all x * all <= s * x := by
 unfold share1
 have h4 : 0 <= s * x := Int.mul_nonneg h0 h1
 rw [Int.tdiv_eq_ediv_of_nonneg h4]
 refine ⟨Int.ediv_nonneg h4 (by omega), ?_, Int.ediv_mul_le _ (by omega)⟩
 have : s * x <= s * all := Int.mul_le_mul_of_nonneg_left h2 h0
 calc s * x / all <= s * all / all := Int.ediv_le_ediv h3 this
  _ = s := Int.mul_ediv_cancel _ (by omega)
theorem shares_le {s all : Int} (h0 : 0 <= s) (h3 : 0 < all) : ∀ {l : List Int}, (∀ x ∈ l, 0 <= x /\ x <= all) -> (l.map (share1 s all)).sum * all <= s * l.sum /\ 0 <= (l.map (share1 s all)).sum
 | [], _ => by simp
 | x :: l, h => by
  have h1 := shares_le h0 h3 (l := l) fun y hy => h y (List.mem_cons_of_mem _ hy)
  have h2 := h x (List.mem_cons_self ..)
  have h4 := share1_bound h0 h2.1 h2.2 h3
  simp only [List.map_cons, List.sum_cons, Int.add_mul, Int.mul_add]
  omega
theorem base_le {w : List Int} {s : Int} (hw : validW w = true) (h0 : 0 <= s) : 0 <= (base w s).sum /\ (base w s).sum <= s := by
 obtain ⟨_, h2, h3⟩ := validW_iff.1 hw
 have hall : ∀ x ∈ w, 0 <= x /\ x <= w.sum := fun x hx => ⟨(h2 x hx).1, elem_le_sum (fun y hy => (h2 y hy).1) x hx⟩
 obtain ⟨g1, g2⟩ := shares_le h0 h3 hall
 exact ⟨g2, Int.le_of_mul_le_mul_right (by exact g1) h3⟩
theorem base_ok {w : List Int} {s : Int} (hw : validW w = true) (h0 : 0 <= s) (h1 : s <= 34359738368) : outOk w (base w s) (s - (base w s).sum) := by
 obtain ⟨_, h2, h3⟩ := validW_iff.1 hw
 have hb := base_le hw h0
 refine ⟨by simp [base], fun x hx => ?_⟩
 obtain ⟨y, hy, rfl⟩ := List.mem_map.1 hx
 have := share1_bound h0 (h2 y hy).1 (elem_le_sum (fun z hz => (h2 z hz).1) y hy) h3
 omega
theorem getD_mem {l : List Int} {i : Int} (h0 : 0 <= i) (h1 : i < l.length) : l.getD i.toNat 0 ∈ l := by
 have h : i.toNat < l.length := by omega
 rw [List.getD_eq_getElem?_getD, List.getElem?_eq_getElem h]
 exact List.getElem_mem h
theorem bestN_range {w out : List Int} : ∀ (n : Nat) (b i : Int), 0 <= b -> b < w.length -> 0 <= i -> i + n <= w.length -> 0 <= bestN w out n b i /\ bestN w out n b i < w.length
 | 0, b, i, h1, h2, _, _ => ⟨h1, h2⟩
 | n + 1, b, i, h1, h2, h3, h4 => by
  simp only [bestN]
  split
  ·exact bestN_range n i (i + 1) h3 (by omega) (by omega) (by omega)
  ·exact bestN_range n b (i + 1) h1 h2 (by omega) (by omega)
theorem best_range {w out : List Int} (h : 1 <= w.length) : 0 <= best w out /\ best w out < w.length := bestN_range _ _ _ (by omega) (by omega) (by omega) (by omega)
theorem mem_set_cases {l : List Int} {n : Nat} {v x : Int} (h : x ∈ l.set n v) : x = v \/ x ∈ l := by
 rcases List.mem_or_eq_of_mem_set h with h | h
 ·exact .inr h
 ·exact .inl h
theorem bump_ok {w out : List Int} {left b : Int} (h : outOk w out left) (h0 : 0 <= b) (h1 : b < w.length) : outOk w (bump out b) (left - 1) := by
 obtain ⟨g1, g2⟩ := h
 refine ⟨by simp [bump, g1], fun x hx => ?_⟩
 rcases mem_set_cases hx with rfl | hx
 ·have := g2 _ (getD_mem h0 (by omega : b < out.length)); omega
 ·have := g2 x hx; omega
theorem firstBad_ge : ∀ (l : List Int) (i : Int), 0 <= i -> ((l.all okW = true -> firstBad l i = -1) /\ (l.all okW = false -> 0 <= firstBad l i))
 | [], i, _ => ⟨fun _ => rfl, fun h => by simp at h⟩
 | x :: l, i, h => by
  obtain ⟨h1, h2⟩ := firstBad_ge l (i + 1) (by omega)
  simp only [firstBad, List.all_cons]
  cases hx : okW x with
  | true => simp only [Bool.true_and, if_true]; exact ⟨h1, h2⟩
  | false => simp only [Bool.false_and, Bool.false_eq_true, if_false]; exact ⟨fun h => (nomatch h), fun _ => h⟩
theorem okW_iff {x : Int} : okW x = true ↔ 0 <= x /\ x <= 67108864 := by simp [okW]
theorem okW_not {x : Int} (h : ¬ (0 <= x /\ x <= 67108864)) : okW x = false := by rw [Bool.eq_false_iff]; exact fun e => h (okW_iff.1 e)
theorem h96L (l : List Int) (m i : Int) (Q : LQ) : s96L l m i Q -> xloop Tryz.prog [] [] 5 55 0 lc96 ex96 (fun x => mLen x.1 x.2.2.2.1) (l, ((), ()), m, i, ()) Q := by
 intro ⟨⟨h0, h1, hm, h2⟩, hQ1, hQ2⟩
 rw [v96L]
 subst hm
 simp only [fork_iff, req_iff, decide_eq_true_eq, decide_eq_false_iff_not, Bool.not_eq_true', Bool.not_eq_false']
 have hbig : (big : Int) = 9223372036854775807 := rfl
 refine ⟨fun hi => ⟨⟨h0, hi⟩, fun g1 => ⟨fun g2 => ?_, fun g2 => ?_⟩, fun g1 => ?_⟩, fun hi => ?_⟩
 all_goals try rw [drop_step 0 h0 hi] at hQ1 hQ2
 all_goals try simp only [List.all_cons, firstBad] at hQ1 hQ2
 all_goals try generalize l.getD i.toNat 0 = y at *
 ·have hx : okW y = false := okW_not (by omega)
  rw [hx] at hQ2; exact hQ2 rfl
 ·have hx : okW y = true := okW_iff.2 ⟨g1, g2⟩
  rw [hx] at hQ1 hQ2
  refine ⟨inR_i64.2 (by omega), mLen_lt hi, ⟨by omega, by omega, rfl, h2⟩, fun h => ?_, fun h => ?_⟩
  ·exact hQ1 h
  ·exact hQ2 h
 ·have hx : okW y = false := okW_not (by omega)
  rw [hx] at hQ2; exact hQ2 rfl
 ·rw [drop_end hi] at hQ1
  exact hQ1 rfl
theorem ok96L : LpOk Tryz.prog 55 0 lc96 := lp_of (n := 5) (ex := ex96) (m := fun x => mLen x.1 x.2.2.2.1) (good_nil _) fun (l, ((), ()), m, i, ()) Q hx => h96L l m i Q hx
theorem h96F (l : List Int) (K : dens [I] -> Prop) : s96 l (fun r => K (r, ())) -> xfn Tryz.prog [] [(55, 0, lc96)] 5 55 fc96 (l, ((), ()), ()) K := by
 intro ⟨h1, hK⟩
 rw [v96F]
 obtain ⟨g1, g2⟩ := firstBad_ge l 0 (by omega)
 refine ⟨⟨by omega, by omega, rfl, h1⟩, fun h => ?_, fun h => hK⟩
 rw [g1 h] at hK; exact hK
theorem ok96 : FnOk Tryz.prog 55 fc96 := fn_of (n := 5) ((good_nil _).addL ok96L) fun (l, ((), ()), ()) K hx => h96F l K hx
theorem h47F (l : List Int) (K : dens [.b] -> Prop) : sValid l (fun r => K (r, ())) -> xfn Tryz.prog [(55, fc96), (25, fcSum)] [] 5 12 fc47 (l, ()) K := by
 intro ⟨h1, hK⟩
 rw [v47F]
 obtain ⟨g1, g2⟩ := firstBad_ge l 0 (by omega)
 simp only [fork_iff, decide_eq_true_eq, decide_eq_false_iff_not, Bool.not_eq_true', Bool.not_eq_false', validW] at hK ⊢
 refine ⟨fun a1 => ⟨fun a2 => ⟨h1, fun a3 => ?_, fun a3 => ?_⟩, fun a2 => ?_⟩, fun a1 => ?_⟩
 ·have hall : l.all okW = true := by
   cases hc : l.all okW with
   | true => rfl
   | false => have := g2 hc; omega
  have hb : ∀ x ∈ l, 0 <= x /\ x <= 67108864 := fun x hx => okW_iff.1 (List.all_eq_true.1 hall x hx)
  refine ⟨⟨h1, fitS_of hb (by omega) (by omega) (by omega)⟩, ?_⟩
  have e1 : decide (1 <= l.length /\ l.length <= 24) = true := decide_eq_true (by omega)
  rw [e1, hall] at hK
  exact hK
 ·have hall : l.all okW = false := by
   cases hc : l.all okW with
   | true => have := g1 hc; omega
   | false => rfl
  rw [hall] at hK; simpa using hK
 ·have e1 : decide (1 <= l.length /\ l.length <= 24) = false := decide_eq_false (by omega)
  rw [e1] at hK; exact hK
 ·have e1 : decide (1 <= l.length /\ l.length <= 24) = false := decide_eq_false (by omega)
  rw [e1] at hK; exact hK
theorem g47 : Go.Lom.Good Tryz.prog [(55, fc96), (25, fcSum)] [] := ((good_nil _).addF okSum2).addF ok96
theorem ok47 : FnOk Tryz.prog 12 fc47 := fn_of (n := 5) g47 fun (l, ()) K hx => h47F l K hx
end Go.P7
