/- Funds: which plans are sound, how much money they ask for: plain laws. No conditions. -/
import Derived.Test.YtfbpaonmegmcgaaGreatTaWorst2S
set_option linter.all false
set_option maxRecDepth 100000
namespace Go.P9
open Go.Lom Go.Proofs Go
section
variable (pr sl : Int -> Int)
def feas (fin : Int -> Prop) : List Int -> Int -> Int -> Int -> Prop
 | [], _, k, _ => fin k
 | n :: ns, t, k, m => ∃ c, 0 <= c /\ c <= sl t /\ n <= m + c * pr t /\ feas fin ns (t + 1) (k + c) (m + c * pr t)
def walkP : List Int -> Int -> Int -> List Int -> Prop
 | [], _, _, [] => True
 | n :: ns, t, m, c :: l => (0 <= c /\ c <= sl t /\ n <= m + c * pr t) /\ walkP ns (t + 1) (m + c * pr t) l
 | _, _, _, _ => False
def maxI (a b : Int) : Int := if a < b then b else a
def askM (after : Int -> Int) (need p : Int) : Nat -> Int -> Int -> Int
 | 0, _, cur => cur
 | j + 1, n, cur => askM after need p j (n + 1) (if after n < 1152921504606846976 then minI cur (maxI need (after n) - n * p) else cur)
def askC (B t k : Int) : Nat := ((minI (sl t) (B - k)) + 1).toNat
def askV (B : Int) (ex : Bool) : List Int -> Int -> Int -> Int
 | [], _, k => if ex && decide (k < B) then 1152921504606846976 else -1152921504606846976
 | need :: ns, t, k => askM (fun n => askV B ex ns (t + 1) (k + n)) need (pr t) (askC sl B t k) 0 1152921504606846976
def firstC (ok : Int -> Bool) : Nat -> Int -> Int
 | 0, n => n
 | j + 1, n => if ok n = true then n else firstC ok j (n + 1)
def okCh (B need : Int) (ns : List Int) (t k m c : Int) : Bool := decide (need <= m + c * pr t /\ askV pr sl B true ns (t + 1) (k + c) <= m + c * pr t)
def planK (B : Int) : List Int -> Int -> Int -> Int -> List Int
 | [], _, _, _ => []
 | need :: ns, t, k, m => firstC (okCh pr sl B need ns t k m) (askC sl B t k) 0 :: planK B ns (t + 1) (k + firstC (okCh pr sl B need ns t k m) (askC sl B t k) 0) (m + firstC (okCh pr sl B need ns t k m) (askC sl B t k) 0 * pr t)
def finB (B : Int) (ex : Bool) (k : Int) : Prop := if ex = true then k = B else k <= B
structure Bd : Prop where
 p0 : ∀ t, 0 <= pr t
 p1 : ∀ t, pr t <= 1048576
 s0 : ∀ t, 0 <= sl t
 s1 : ∀ t, sl t <= 64
variable {pr sl}
theorem mul64 (h : Bd pr sl) {c t : Int} (h0 : 0 <= c) (h1 : c <= sl t) : 0 <= c * pr t /\ c * pr t <= 67108864 := by
 have := h.s1 t
 exact ⟨Int.mul_nonneg h0 (h.p0 t), Int.le_trans (Int.mul_le_mul (show c <= 64 by omega) (h.p1 t) (h.p0 t) (by omega)) (by omega)⟩
theorem feas_fin {fin fin' : Int -> Prop} (hf : ∀ k, fin k -> fin' k) : ∀ {ns : List Int} {t k m : Int}, feas pr sl fin ns t k m -> feas pr sl fin' ns t k m
 | [], _, _, _, h => hf _ h
 | n :: ns, t, k, m, ⟨c, h1, h2, h3, h4⟩ => ⟨c, h1, h2, h3, feas_fin hf h4⟩
theorem feas_ge {fin : Int -> Prop} {B : Int} (hf : ∀ k, fin k -> k <= B) : ∀ {ns : List Int} {t k m : Int}, feas pr sl fin ns t k m -> k <= B
 | [], _, _, _, h => hf _ h
 | n :: ns, t, k, m, ⟨c, h1, h2, h3, h4⟩ => by have := feas_ge hf h4; omega
theorem finB_le {B : Int} {ex : Bool} (k : Int) (h : finB B ex k) : k <= B := by unfold finB at h; split at h <;> omega
theorem feas_shift {fin : Int -> Prop} (d : Int) : ∀ {ns : List Int} {t k m : Int}, feas pr sl fin (ns.map (· - d)) t k m ↔ feas pr sl fin ns t k (m + d)
 | [], _, _, _ => Iff.rfl
 | n :: ns, t, k, m => by
  simp only [List.map_cons, feas]
  constructor
  ·rintro ⟨c, h1, h2, h3, h4⟩
   refine ⟨c, h1, h2, by omega, ?_⟩
   have := (feas_shift d).1 h4
   rwa [show m + c * pr t + d = m + d + c * pr t by omega] at this
  ·rintro ⟨c, h1, h2, h3, h4⟩
   refine ⟨c, h1, h2, by omega, (feas_shift d).2 ?_⟩
   rwa [show m + c * pr t + d = m + d + c * pr t by omega]
theorem feas_walk {fin : Int -> Prop} : ∀ {ns : List Int} {t k m : Int}, feas pr sl fin ns t k m ↔ ∃ l, walkP pr sl ns t m l /\ fin (k + l.sum)
 | [], t, k, m => by
  constructor
  ·intro h; exact ⟨[], trivial, by simpa [feas] using h⟩
  ·rintro ⟨l, h1, h2⟩
   cases l with
   | nil => simpa [feas] using h2
   | cons c l => exact h1.elim
 | n :: ns, t, k, m => by
  constructor
  ·rintro ⟨c, h1, h2, h3, h4⟩
   obtain ⟨l, g1, g2⟩ := feas_walk.1 h4
   exact ⟨c :: l, ⟨⟨h1, h2, h3⟩, g1⟩, by rw [List.sum_cons, <- Int.add_assoc]; exact g2⟩
  ·rintro ⟨l, h1, h2⟩
   cases l with
   | nil => exact h1.elim
   | cons c l => exact ⟨c, h1.1.1, h1.1.2.1, h1.1.2.2, feas_walk.2 ⟨l, h1.2, by rw [List.sum_cons, <- Int.add_assoc] at h2; exact h2⟩⟩
theorem askM_le {after : Int -> Int} {need p m : Int} : ∀ (j : Nat) (n cur : Int), askM after need p j n cur <= m ↔ cur <= m \/ ∃ i, n <= i /\ i < n + j /\ after i < 1152921504606846976 /\ need <= m + i * p /\ after i <= m + i * p
 | 0, n, cur => by
  simp only [askM]
  constructor
  ·exact .inl
  ·rintro (h | ⟨i, h1, h2, _⟩)
   ·exact h
   ·omega
 | j + 1, n, cur => by
  simp only [askM]
  rw [askM_le j]
  constructor
  ·rintro (h | ⟨i, h1, h2, h3⟩)
   ·split at h
    ·rename_i ha
     unfold minI maxI at h
     by_cases hc : cur <= m
     ·exact .inl hc
     ·refine .inr ⟨n, by omega, by omega, ha, ?_⟩
      split at h <;> split at h <;> omega
    ·exact .inl h
   ·exact .inr ⟨i, by omega, by omega, h3⟩
  ·rintro (h | ⟨i, h1, h2, h3, h4, h5⟩)
   ·left
    split
    ·unfold minI; split <;> omega
    ·exact h
   ·by_cases hi : i = n
    ·subst hi
     left
     rw [if_pos h3]
     unfold minI maxI
     split <;> split <;> omega
    ·exact .inr ⟨i, by omega, by omega, h3, h4, h5⟩
theorem ask_iff (h : Bd pr sl) {B : Int} {ex : Bool} : ∀ {ns : List Int} {t k m : Int}, k <= B -> -1152921504606846976 <= m -> m + 67108864 * ns.length < 1152921504606846976 -> (askV pr sl B ex ns t k <= m ↔ feas pr sl (finB B ex) ns t k m)
 | [], t, k, m, hk, h0, h1 => by
  simp only [askV, feas, finB]
  cases ex with
  | true =>
   by_cases g : k < B
   ·simp only [g, decide_true, Bool.and_self, if_true]
    simp only [List.length_nil] at h1
    omega
   ·simp only [g, decide_false, Bool.and_false, if_true]
    have : k = B := by omega
    simp [this, h0]
  | false => simp [h0, hk]
 | n :: ns, t, k, m, hk, h0, h1 => by
  simp only [askV, feas]
  rw [askM_le]
  simp only [List.length_cons] at h1
  have hC : ∀ i : Int, 0 <= i -> (i < 0 + (askC sl B t k : Nat) ↔ i <= sl t /\ k + i <= B) := fun i hi => by
   unfold askC minI
   have := h.s0 t
   split <;> omega
  constructor
  ·rintro (h2 | ⟨i, h2, h3, h4, h5, h6⟩)
   ·omega
   ·obtain ⟨g1, g2⟩ := (hC i h2).1 h3
    have hm := mul64 h h2 g1
    exact ⟨i, h2, g1, h5, (ask_iff h g2 (by omega) (by omega)).1 h6⟩
  ·rintro ⟨i, h2, h3, h4, h5⟩
   have hm := mul64 h h2 h3
   have g2 : k + i <= B := feas_ge finB_le h5
   have h6 := (ask_iff h g2 (by omega) (by omega)).2 h5
   exact .inr ⟨i, h2, (hC i h2).2 ⟨h3, g2⟩, by omega, h4, h6⟩
theorem firstC_spec {ok : Int -> Bool} : ∀ (j : Nat) (n : Int), (∃ c, n <= c /\ c < n + j /\ ok c = true) -> n <= firstC ok j n /\ firstC ok j n < n + j /\ ok (firstC ok j n) = true /\ ∀ c, n <= c -> c < firstC ok j n -> ok c = false
 | 0, n, ⟨c, h1, h2, _⟩ => by omega
 | j + 1, n, ⟨c, h1, h2, h3⟩ => by
  simp only [firstC]
  by_cases g : ok n = true
  ·rw [if_pos g]
   exact ⟨by omega, by omega, g, fun c h4 h5 => by omega⟩
  ·rw [if_neg g]
   have hne : c ≠ n := fun e => g (by rw [<- e]; exact h3)
   obtain ⟨k1, k2, k3, k4⟩ := firstC_spec j (n + 1) ⟨c, by omega, by omega, h3⟩
   refine ⟨by omega, by omega, k3, fun c' h4 h5 => ?_⟩
   by_cases e : c' = n
   ·rw [e]; simpa using g
   ·exact k4 c' (by omega) h5
theorem askC_iff (h : Bd pr sl) {B t k i : Int} (hi : 0 <= i) : i < 0 + (askC sl B t k : Nat) ↔ i <= sl t /\ k + i <= B := by
 unfold askC minI
 have := h.s0 t
 split <;> omega
theorem plan_step (h : Bd pr sl) {B n : Int} {ns : List Int} {t k m c : Int} (hc : c = firstC (okCh pr sl B n ns t k m) (askC sl B t k) 0) (h0 : -1152921504606846976 <= m) (h1 : m + 67108864 * (n :: ns).length < 1152921504606846976) (hf : feas pr sl (· = B) (n :: ns) t k m) :
  0 <= c /\ c <= sl t /\ k + c <= B /\ n <= m + c * pr t /\ feas pr sl (· = B) ns (t + 1) (k + c) (m + c * pr t) /\ okCh pr sl B n ns t k m c = true /\
   ∀ c', 0 <= c' -> c' < c -> ¬ (n <= m + c' * pr t /\ feas pr sl (· = B) ns (t + 1) (k + c') (m + c' * pr t)) := by
 simp only [List.length_cons] at h1
 have ok : ∀ c, 0 <= c -> c <= sl t -> k + c <= B -> (okCh pr sl B n ns t k m c = true ↔ n <= m + c * pr t /\ feas pr sl (· = B) ns (t + 1) (k + c) (m + c * pr t)) := fun c g0 g1 g2 => by
  have hm := mul64 h g0 g1
  unfold okCh
  rw [decide_eq_true_iff, ask_iff h (ex := true) g2 (by omega) (by omega)]
  exact Iff.rfl
 obtain ⟨c0, g0, g1, g2, g3⟩ := hf
 have g4 : k + c0 <= B := feas_ge (fun k hk => by omega) g3
 obtain ⟨k1, k2, k3, k4⟩ := firstC_spec (ok := okCh pr sl B n ns t k m) (askC sl B t k) 0 ⟨c0, g0, (askC_iff h g0).2 ⟨g1, g4⟩, (ok c0 g0 g1 g4).2 ⟨g2, g3⟩⟩
 rw [<- hc] at k1 k2 k3 k4
 obtain ⟨k5, k6⟩ := (askC_iff h k1).1 k2
 obtain ⟨k7, k8⟩ := (ok c k1 k5 k6).1 k3
 refine ⟨k1, k5, k6, k7, k8, k3, fun c' d1 d2 d3 => ?_⟩
 have := (ok c' d1 (by omega) (by omega)).2 d3
 rw [k4 c' d1 d2] at this
 cases this
theorem plan_walk (h : Bd pr sl) {B : Int} : ∀ {ns : List Int} {t k m : Int}, -1152921504606846976 <= m -> m + 67108864 * ns.length < 1152921504606846976 -> feas pr sl (· = B) ns t k m -> walkP pr sl ns t m (planK pr sl B ns t k m) /\ k + (planK pr sl B ns t k m).sum = B
 | [], t, k, m, _, _, hf => ⟨trivial, by simpa [planK, feas] using hf⟩
 | n :: ns, t, k, m, h0, h1, hf => by
  have hs := plan_step h (B := B) rfl h0 h1 hf
  simp only [planK, walkP]
  generalize firstC (okCh pr sl B n ns t k m) (askC sl B t k) 0 = c at hs ⊢
  obtain ⟨k1, k2, k3, k4, k5, _, _⟩ := hs
  have hm := mul64 h k1 k2
  simp only [List.length_cons] at h1
  obtain ⟨r1, r2⟩ := plan_walk h (by omega) (by omega) k5
  exact ⟨⟨⟨k1, k2, k4⟩, r1⟩, by rw [List.sum_cons]; omega⟩
theorem plan_first (h : Bd pr sl) {B : Int} : ∀ {ns : List Int} {t k m : Int} {l : List Int}, -1152921504606846976 <= m -> m + 67108864 * ns.length < 1152921504606846976 -> walkP pr sl ns t m l -> k + l.sum = B -> aheadI l (planK pr sl B ns t k m) = false
 | [], t, k, m, [], _, _, _, _ => rfl
 | [], t, k, m, _ :: _, _, _, hw, _ => hw.elim
 | n :: ns, t, k, m, [], _, _, hw, _ => hw.elim
 | n :: ns, t, k, m, c' :: l, h0, h1, hw, hs => by
  have hf : feas pr sl (· = B) (n :: ns) t k m := feas_walk.2 ⟨c' :: l, hw, hs⟩
  have hp := plan_step h (B := B) rfl h0 h1 hf
  simp only [planK, aheadI]
  generalize firstC (okCh pr sl B n ns t k m) (askC sl B t k) 0 = c at hp ⊢
  obtain ⟨k1, k2, k3, k4, k5, _, k7⟩ := hp
  rw [List.sum_cons] at hs
  by_cases e : c' = c
  ·subst e
   rw [if_pos rfl]
   have hm := mul64 h k1 k2
   simp only [List.length_cons] at h1
   exact plan_first h (by omega) (by omega) hw.2 (by omega)
  ·rw [if_neg e]
   refine decide_eq_false fun hlt => k7 c' hw.1.1 hlt ⟨hw.1.2.2, feas_walk.2 ⟨l, hw.2, ?_⟩⟩
   show k + c' + l.sum = B
   omega
end
section
variable {pr sl : Int -> Int}
structure StepM (pr sl : Int -> Int) (B n t : Int) (M M' : Int -> Int) : Prop where
 low : ∀ j, 0 <= j -> j <= B -> 0 <= M' j -> ∃ i c, 0 <= i /\ 0 <= M i /\ 0 <= c /\ c <= sl t /\ i + c = j /\ n <= M i + c * pr t /\ M' j = M i + c * pr t
 all : ∀ i c, 0 <= i -> 0 <= M i -> 0 <= c -> c <= sl t -> i + c <= B -> n <= M i + c * pr t -> M i + c * pr t <= M' (i + c)
end
end Go.P9
