/- Funds: when groups begin to run: the plain law of passes over the ways. No conditions. -/
import Derived.Test.YtfbpaonmegmcgaaGreatTaStartsS
set_option linter.all false
set_option maxRecDepth 100000
namespace Go.P9
open Go.Lom Go.Proofs Go
abbrev Way := Int × Int × Int
def mrel (d : Nat -> Int) (w : Way) : Nat -> Int := fun x => if x = w.2.1.toNat then min (d w.2.1.toNat) (d w.1.toNat + w.2.2) else d x
def mpass (ws : List Way) (d : Nat -> Int) : Nat -> Int := ws.foldl mrel d
def mpassN (ws : List Way) : Nat -> (Nat -> Int) -> Nat -> Int
 | 0, d => d
 | k + 1, d => mpassN ws k (mpass ws d)
theorem mrel_le (d : Nat -> Int) (w : Way) (x : Nat) : mrel d w x <= d x := by
 unfold mrel; split
 ·rename_i h; subst h; exact Int.min_le_left _ _
 ·exact Int.le_refl _
theorem mpass_le : ∀ (ws : List Way) (d : Nat -> Int) (x : Nat), mpass ws d x <= d x
 | [], d, x => Int.le_refl _
 | w :: ws, d, x => Int.le_trans (mpass_le ws (mrel d w) x) (mrel_le d w x)
theorem mrel_mono {D d : Nat -> Int} (h : ∀ x, D x <= d x) (w : Way) (x : Nat) : mrel D w x <= mrel d w x := by
 unfold mrel
 have h1 := h w.2.1.toNat; have h2 := h w.1.toNat; have h3 := h x
 split <;> omega
theorem mpass_mono : ∀ (ws : List Way) {D d : Nat -> Int}, (∀ x, D x <= d x) -> ∀ x, mpass ws D x <= mpass ws d x
 | [], _, _, h, x => h x
 | w :: ws, _, _, h, x => mpass_mono ws (mrel_mono h w) x
theorem mpass_fix : ∀ (ws : List Way) (D : Nat -> Int), mpass ws D = D -> ∀ w ∈ ws, D w.2.1.toNat <= D w.1.toNat + w.2.2
 | [], D, h, w, hw => (by cases hw)
 | a :: ws, D, h, w, hw => by
  have e : mrel D a = D := by
   funext x
   have h1 := mrel_le D a x
   have h2 := mpass_le ws (mrel D a) x
   have h3 : mpass ws (mrel D a) x = D x := congrFun h x
   omega
  rcases List.mem_cons.1 hw with rfl | hw
  ·have := congrFun e w.2.1.toNat
   unfold mrel at this
   rw [if_pos rfl] at this
   omega
  ·have h' : mpass ws (mrel D a) = D := h
   rw [e] at h'
   exact mpass_fix ws D h' w hw
theorem mpass_way : ∀ (ws : List Way) (d : Nat -> Int), ∀ w ∈ ws, mpass ws d w.2.1.toNat <= d w.1.toNat + w.2.2
 | [], d, w, hw => (by cases hw)
 | a :: ws, d, w, hw => by
  rcases List.mem_cons.1 hw with rfl | hw
  ·have h1 := mpass_le ws (mrel d w) w.2.1.toNat
   have h2 : mrel d w w.2.1.toNat = min (d w.2.1.toNat) (d w.1.toNat + w.2.2) := if_pos rfl
   have h3 : mpass (w :: ws) d = mpass ws (mrel d w) := rfl
   rw [h3]; omega
  ·have h1 := mpass_way ws (mrel d a) w hw
   have h2 := mrel_le d a w.1.toNat
   have h3 : mpass (a :: ws) d = mpass ws (mrel d a) := rfl
   rw [h3]; omega
def Shut (ws : List Way) (D d : Nat -> Int) : Prop := ∀ w ∈ ws, d w.1.toNat = D w.1.toNat -> D w.1.toNat + w.2.2 = D w.2.1.toNat -> d w.2.1.toNat = D w.2.1.toNat
theorem shut_mrel {ws : List Way} {D d : Nat -> Int} (hD : ∀ w ∈ ws, D w.2.1.toNat <= D w.1.toNat + w.2.2) (hle : ∀ x, D x <= d x) (hs : Shut ws D d) {a : Way} (ha : a ∈ ws) :
  (∀ x, D x <= mrel d a x) /\ (∀ x, mrel d a x = D x -> d x = D x) /\ Shut ws D (mrel d a) := by
 have h1 : ∀ x, D x <= mrel d a x := fun x => by
  unfold mrel
  have := hD a ha; have g1 := hle a.1.toNat; have g2 := hle x; have g3 := hle a.2.1.toNat
  split
  ·rename_i e; subst e; omega
  ·exact g2
 have h2 : ∀ x, mrel d a x = D x -> d x = D x := fun x hx => by
  unfold mrel at hx
  split at hx
  ·rename_i e; subst e
   by_cases g : d a.2.1.toNat = D a.2.1.toNat
   ·exact g
   ·have := hD a ha; have g1 := hle a.1.toNat; have g3 := hle a.2.1.toNat
    exact absurd (hs a ha (by omega) (by omega)) g
  ·exact hx
 refine ⟨h1, h2, fun w hw hu ht => ?_⟩
 have := hs w hw (h2 _ hu) ht
 have g1 := h1 w.2.1.toNat
 have g2 := mrel_le d a w.2.1.toNat
 omega
theorem shut_fold {ws : List Way} {D : Nat -> Int} (hD : ∀ w ∈ ws, D w.2.1.toNat <= D w.1.toNat + w.2.2) : ∀ (us : List Way) (d : Nat -> Int), (∀ w ∈ us, w ∈ ws) -> (∀ x, D x <= d x) -> Shut ws D d ->
  (∀ x, D x <= mpass us d x) /\ (∀ x, mpass us d x = D x -> d x = D x) /\ Shut ws D (mpass us d)
 | [], d, _, hle, hs => ⟨hle, fun _ h => h, hs⟩
 | a :: us, d, hm, hle, hs => by
  obtain ⟨h1, h2, h3⟩ := shut_mrel hD hle hs (hm a (List.mem_cons_self ..))
  obtain ⟨g1, g2, g3⟩ := shut_fold hD us (mrel d a) (fun w hw => hm w (List.mem_cons_of_mem _ hw)) h1 h3
  exact ⟨g1, fun x hx => h2 x (g2 x hx), g3⟩
theorem shut_all {ws : List Way} {D : Nat -> Int} (hD : ∀ w ∈ ws, D w.2.1.toNat <= D w.1.toNat + w.2.2) : ∀ (N : Nat) (d : Nat -> Int), (∀ x, D x <= d x) -> Shut ws D d -> mpassN ws N d = D -> d = D
 | 0, d, _, _, h => h
 | N + 1, d, hle, hs, h => by
  obtain ⟨h1, h2, h3⟩ := shut_fold hD ws d (fun _ h => h) hle hs
  have := shut_all hD N (mpass ws d) h1 h3 h
  funext x
  exact h2 x (congrFun this x)
def cntE (D d : Nat -> Int) (n : Nat) : Nat := (List.range n).countP fun x => decide (d x = D x)
theorem cntE_succ (D d : Nat -> Int) (n : Nat) : cntE D d (n + 1) = cntE D d n + if d n = D n then 1 else 0 := by
 unfold cntE
 rw [List.range_succ, List.countP_append]
 simp
theorem cntE_le (D d : Nat -> Int) (n : Nat) : cntE D d n <= n := by
 have := List.countP_le_length (p := fun x => decide (d x = D x)) (l := List.range n)
 simpa [cntE] using this
theorem cntE_mono {D d d' : Nat -> Int} (h : ∀ x, d x = D x -> d' x = D x) : ∀ n, cntE D d n <= cntE D d' n
 | 0 => by simp [cntE]
 | n + 1 => by
  rw [cntE_succ, cntE_succ]
  have := cntE_mono h n
  by_cases g : d n = D n
  ·rw [if_pos g, if_pos (h n g)]; omega
  ·rw [if_neg g]; split <;> omega
theorem cntE_more {D d d' : Nat -> Int} (h : ∀ x, d x = D x -> d' x = D x) {v : Nat} (h1 : d v ≠ D v) (h2 : d' v = D v) : ∀ n, v < n -> cntE D d n + 1 <= cntE D d' n
 | 0, hv => by omega
 | n + 1, hv => by
  rw [cntE_succ, cntE_succ]
  by_cases e : v = n
  ·subst e
   have := cntE_mono h v
   rw [if_neg h1, if_pos h2]; omega
  ·have := cntE_more h h1 h2 n (by omega)
   by_cases g : d n = D n
   ·rw [if_pos g, if_pos (h n g)]; omega
   ·rw [if_neg g]; split <;> omega
theorem cntE_all {D d : Nat -> Int} : ∀ n, n <= cntE D d n -> ∀ x, x < n -> d x = D x
 | 0, _, x, hx => by omega
 | n + 1, h, x, hx => by
  rw [cntE_succ] at h
  have := cntE_le D d n
  by_cases g : d n = D n
  ·rw [if_pos g] at h
   by_cases e : x = n
   ·subst e; exact g
   ·exact cntE_all n (by omega) x (by omega)
  ·rw [if_neg g] at h; omega
theorem mpassN_fix {ws : List Way} {D : Nat -> Int} (h : mpass ws D = D) : ∀ k, mpassN ws k D = D
 | 0 => rfl
 | k + 1 => by show mpassN ws k (mpass ws D) = D; rw [h]; exact mpassN_fix h k
theorem bf {ws : List Way} {D : Nat -> Int} {n : Nat} (hfix : mpass ws D = D) (hv : ∀ w ∈ ws, w.2.1.toNat < n) : ∀ (k : Nat) (d : Nat -> Int), (∀ x, D x <= d x) -> (∃ N, mpassN ws N d = D) -> (∀ x, n <= x -> d x = D x) -> n <= k + cntE D d n -> mpassN ws k d = D
 | 0, d, hle, _, ho, hc => by
  funext x
  by_cases hx : x < n
  ·exact cntE_all n (by have : cntE D (mpassN ws 0 d) n = cntE D d n := rfl; omega) x hx
  ·exact ho x (by omega)
 | k + 1, d, hle, ⟨N, hN⟩, ho, hc => by
  have hD := mpass_fix ws D hfix
  by_cases hs : Shut ws D d
  ·have := shut_all hD N d hle hs hN
   rw [this]; exact mpassN_fix hfix _
  ·have hdD : d ≠ D := fun e => hs (by rw [e]; intro w _ _ _; rfl)
   have hle' : ∀ x, D x <= mpass ws d x := fun x => by have := mpass_mono ws hle x; rw [hfix] at this; exact this
   have hk : ∀ x, d x = D x -> mpass ws d x = D x := fun x hx => by have h1 := mpass_le ws d x; have h2 := hle' x; omega
   obtain ⟨w, hw, hu, ht, hn⟩ : ∃ w, w ∈ ws /\ d w.1.toNat = D w.1.toNat /\ D w.1.toNat + w.2.2 = D w.2.1.toNat /\ d w.2.1.toNat ≠ D w.2.1.toNat := by
    apply Classical.byContradiction
    intro hne
    exact hs fun w hw hu ht => Classical.byContradiction fun hn => hne ⟨w, hw, hu, ht, hn⟩
   have hnew : mpass ws d w.2.1.toNat = D w.2.1.toNat := by have h1 := mpass_way ws d w hw; have h2 := hle' w.2.1.toNat; omega
   refine bf hfix hv k (mpass ws d) hle' ?_ (fun x hx => hk x (ho x hx)) ?_
   ·cases N with
    | zero => exact absurd hN hdD
    | succ N => exact ⟨N, hN⟩
   ·have := cntE_more hk hn hnew n (hv w hw)
    omega
def KD (d : List Int) : Nat -> Int := fun i => keyD (d.getD i (-1))
theorem getD_any {d : List Int} {i : Nat} (h : i < d.length) (a b : Int) : d.getD i a = d.getD i b := by simp [List.getD_eq_getElem?_getD, h]
theorem getD_mem {d : List Int} {i : Nat} (h : i < d.length) (a : Int) : d.getD i a ∈ d := by simp [List.getD_eq_getElem?_getD, h]
theorem getD_set {d : List Int} {i j : Nat} (h : i < d.length) (x a : Int) : (d.set i x).getD j a = if j = i then x else d.getD j a := by
 simp only [List.getD_eq_getElem?_getD, List.getElem?_set]
 by_cases e : i = j
 ·subst e; simp [h]
 ·simp [e, Ne.symm e]
theorem cntD_le (d : List Int) : cntD d <= d.length := by unfold cntD; have := List.countP_le_length (p := fun x : Int => decide (0 <= x)) (l := d); omega
theorem InvD.at {d : List Int} (h : InvD d) {i : Nat} (hi : i < d.length) (a : Int) : -1 <= d.getD i a /\ d.getD i a <= 96 := by
 obtain ⟨h1, h2⟩ := h.2 _ (getD_mem hi a)
 have := cntD_le d; have := h.1
 omega
theorem relax_len (d : List Int) (w : Way) : (relax d w).length = d.length := by unfold relax; split <;> simp
theorem passD_len : ∀ (ws : List Way) (d : List Int), (passD ws d).length = d.length
 | [], d => rfl
 | w :: ws, d => (passD_len ws (relax d w)).trans (relax_len d w)
theorem passN_len (ws : List Way) : ∀ (k : Nat) (d : List Int), (passN ws k d).length = d.length
 | 0, d => rfl
 | k + 1, d => (passN_len ws k _).trans (passD_len ws d)
theorem cntD_set {d : List Int} {i : Nat} (h : i < d.length) {x : Int} (hx : 0 <= x) : cntD (d.set i x) = cntD d + if 0 <= d.getD i 0 then 0 else 1 := by
 induction d generalizing i with
 | nil => simp at h
 | cons y d ih =>
  cases i with
  | zero =>
   simp only [List.set_cons_zero, cntD, List.countP_cons, decide_eq_true_eq, List.getD_cons_zero]
   rw [if_pos hx]
   split <;> simp
  | succ i =>
   have := ih (i := i) (by simpa using h)
   simp only [List.set_cons_succ, cntD, List.countP_cons, decide_eq_true_eq, List.getD_cons_succ] at this ⊢
   split <;> omega
theorem relax_inv {d : List Int} {w : Way} (h : InvD d) (hw : wOk d.length w) : InvD (relax d w) := by
 unfold relax
 split
 ·rename_i hc
  obtain ⟨h1, h2⟩ := hc
  have hv : w.2.1.toNat < d.length := by have := hw.2.2.2.1; have := hw.2.2.1; omega
  have hu : w.1.toNat < d.length := by have := hw.2.1; have := hw.1; omega
  have hcnt := cntD_set hv (x := d.getD w.1.toNat 0 + w.2.2) (by have := hw.2.2.2.2.2.1; omega)
  refine ⟨by rw [List.length_set]; exact h.1, fun x hx => ?_⟩
  rw [hcnt]
  have hu2 := h.2 _ (getD_mem hu 0)
  have hv2 := h.2 _ (getD_mem hv 0)
  have g1 := hw.2.2.2.2.2.1; have g2 := hw.2.2.2.2.2.2
  rcases List.mem_or_eq_of_mem_set hx with hx | hx
  ·have := h.2 x hx
   split <;> omega
  ·subst hx
   split
   ·rcases h2 with h2 | h2 <;> omega
   ·omega
 ·exact h
theorem passD_inv : ∀ (ws : List Way) {d : List Int}, InvD d -> wsOk d.length ws -> InvD (passD ws d)
 | [], d, h, _ => h
 | w :: ws, d, h, hw => passD_inv ws (relax_inv h (hw w (List.mem_cons_self ..))) (by rw [relax_len]; exact fun x hx => hw x (List.mem_cons_of_mem _ hx))
theorem passN_inv (ws : List Way) : ∀ (k : Nat) {d : List Int}, InvD d -> wsOk d.length ws -> InvD (passN ws k d)
 | 0, d, h, _ => h
 | k + 1, d, h, hw => passN_inv ws k (passD_inv ws h hw) (by rw [passD_len]; exact hw)
theorem KD_relax {d : List Int} {w : Way} (h : InvD d) (hw : wOk d.length w) : KD (relax d w) = mrel (KD d) w := by
 have hv : w.2.1.toNat < d.length := by have := hw.2.2.2.1; have := hw.2.2.1; omega
 have hu : w.1.toNat < d.length := by have := hw.2.1; have := hw.1; omega
 have hu2 := h.at hu 0
 have hv2 := h.at hv 0
 have g1 := hw.2.2.2.2.2.1; have g2 := hw.2.2.2.2.2.2
 funext x
 unfold mrel
 show keyD ((relax d w).getD x (-1)) = if x = w.2.1.toNat then min (keyD (d.getD w.2.1.toNat (-1))) (keyD (d.getD w.1.toNat (-1)) + w.2.2) else keyD (d.getD x (-1))
 rw [getD_any hv (-1) 0, getD_any hu (-1) 0]
 unfold relax
 generalize ha : d.getD w.1.toNat 0 = a at *
 generalize hb : d.getD w.2.1.toNat 0 = b at *
 by_cases hx : x = w.2.1.toNat
 ·subst hx
  rw [if_pos rfl]
  split
  ·rename_i hc
   rw [getD_set hv, if_pos rfl]
   unfold keyD
   rw [if_neg (show ¬ a + w.2.2 < 0 by omega), if_neg (show ¬ a < 0 by omega)]
   split <;> omega
  ·rename_i hc
   rw [getD_any hv (-1) 0, hb]
   unfold keyD
   split <;> split <;> omega
 ·rw [if_neg hx]
  split
  ·rw [getD_set hv, if_neg hx]
  ·rfl
theorem KD_pass : ∀ (ws : List Way) {d : List Int}, InvD d -> wsOk d.length ws -> KD (passD ws d) = mpass ws (KD d)
 | [], d, _, _ => rfl
 | w :: ws, d, h, hw => by
  have h1 := KD_relax h (hw w (List.mem_cons_self ..))
  have h2 := KD_pass ws (relax_inv h (hw w (List.mem_cons_self ..))) (by rw [relax_len]; exact fun x hx => hw x (List.mem_cons_of_mem _ hx))
  show KD (passD ws (relax d w)) = mpass ws (mrel (KD d) w)
  rw [h2, h1]
theorem KD_passN (ws : List Way) : ∀ (k : Nat) {d : List Int}, InvD d -> wsOk d.length ws -> KD (passN ws k d) = mpassN ws k (KD d)
 | 0, d, _, _ => rfl
 | k + 1, d, h, hw => by
  show KD (passN ws k (passD ws d)) = mpassN ws k (mpass ws (KD d))
  rw [KD_passN ws k (passD_inv ws h hw) (by rw [passD_len]; exact hw), KD_pass ws h hw]
theorem KD_inj {a b : List Int} (ha : InvD a) (hb : InvD b) (h : KD a = KD b) {i : Nat} (h1 : i < a.length) (h2 : i < b.length) : a.getD i (-1) = b.getD i (-1) := by
 have h := congrFun h i
 have g1 := ha.at h1 (-1); have g2 := hb.at h2 (-1)
 unfold KD keyD at h
 split at h <;> split at h <;> omega
theorem sum_set {d : List Int} (f : Int -> Int) {i : Nat} (h : i < d.length) (x : Int) : ((d.set i x).map f).sum = (d.map f).sum - f (d.getD i 0) + f x := by
 induction d generalizing i with
 | nil => simp at h
 | cons y d ih =>
  cases i with
  | zero => simp; omega
  | succ i =>
   have := ih (i := i) (by simpa using h)
   simp only [List.set_cons_succ, List.map_cons, List.sum_cons, List.getD_cons_succ, this]
   omega
theorem key_nonneg (x : Int) : 0 <= keyD x := by unfold keyD; split <;> omega
theorem sum_nonneg : ∀ d : List Int, 0 <= (d.map keyD).sum
 | [] => by simp
 | x :: d => by have := sum_nonneg d; have := key_nonneg x; simp; omega
theorem relax_mu {d : List Int} {w : Way} (h : InvD d) (hw : wOk d.length w) : relax d w = d \/ muD (relax d w) < muD d := by
 have hv : w.2.1.toNat < d.length := by have := hw.2.2.2.1; have := hw.2.2.1; omega
 have hu : w.1.toNat < d.length := by have := hw.2.1; have := hw.1; omega
 have hu2 := h.at hu 0
 have hv2 := h.at hv 0
 have g1 := hw.2.2.2.2.2.1; have g2 := hw.2.2.2.2.2.2
 unfold relax
 split
 ·rename_i hc
  right
  unfold muD
  have hs := sum_set keyD hv (d.getD w.1.toNat 0 + w.2.2)
  have h0 := sum_nonneg (d.set w.2.1.toNat (d.getD w.1.toNat 0 + w.2.2))
  have : keyD (d.getD w.1.toNat 0 + w.2.2) < keyD (d.getD w.2.1.toNat 0) := by
   unfold keyD
   rw [if_neg (show ¬ d.getD w.1.toNat 0 + w.2.2 < 0 by omega)]
   split <;> omega
  omega
 ·exact .inl rfl
theorem passD_mu : ∀ (ws : List Way) {d : List Int}, InvD d -> wsOk d.length ws -> passD ws d = d \/ muD (passD ws d) < muD d
 | [], d, _, _ => .inl rfl
 | w :: ws, d, h, hw => by
  have h2 := passD_mu ws (relax_inv h (hw w (List.mem_cons_self ..))) (by rw [relax_len]; exact fun x hx => hw x (List.mem_cons_of_mem _ hx))
  have e : passD (w :: ws) d = passD ws (relax d w) := rfl
  rw [e]
  rcases relax_mu h (hw w (List.mem_cons_self ..)) with h1 | h1
  ·rw [h1] at h2 ⊢; exact h2
  ·rcases h2 with h2 | h2
   ·rw [h2]; exact .inr h1
   ·exact .inr (by omega)
theorem initD_len (n : Nat) (l : List Int) : (initD n l).length = n := by simp [initD]
theorem initD_get {n i : Nat} (l : List Int) (h : i < n) : (initD n l).getD i (-1) = if (i : Int) ∈ l then 0 else -1 := by
 unfold initD
 rw [List.getD_eq_getElem?_getD, List.getElem?_map, List.getElem?_range h]
 rfl
theorem inv_of {d : List Int} (h : d.length <= 8) (h2 : ∀ x ∈ d, x = 0 \/ x = -1) : InvD d := by
 refine ⟨h, fun x hx => ?_⟩
 have : 0 <= cntD d := by unfold cntD; omega
 rcases h2 x hx with rfl | rfl <;> omega
theorem initD_inv {n : Nat} (l : List Int) (h : n <= 8) : InvD (initD n l) := by
 refine inv_of (by rw [initD_len]; exact h) fun x hx => ?_
 unfold initD at hx
 obtain ⟨i, _, rfl⟩ := List.mem_map.1 hx
 split
 ·exact .inl rfl
 ·exact .inr rfl
theorem zeroD_len : ∀ (l s : List Int), (zeroD s l).length = s.length
 | [], s => rfl
 | x :: l, s => (zeroD_len l _).trans (List.length_set ..)
theorem zeroD_get : ∀ (l s : List Int), (∀ x ∈ l, 0 <= x /\ x < s.length) -> ∀ i, i < s.length -> (zeroD s l).getD i (-1) = if (i : Int) ∈ l then 0 else s.getD i (-1)
 | [], s, _, i, _ => by simp [zeroD]
 | x :: l, s, h, i, hi => by
  have hx := h x (List.mem_cons_self ..)
  have ih := zeroD_get l (s.set x.toNat 0) (fun y hy => by rw [List.length_set]; exact h y (List.mem_cons_of_mem _ hy)) i (by rw [List.length_set]; exact hi)
  have e : zeroD s (x :: l) = zeroD (s.set x.toNat 0) l := rfl
  rw [e, ih, getD_set (by omega)]
  by_cases h1 : (i : Int) ∈ l
  ·rw [if_pos h1, if_pos (List.mem_cons_of_mem _ h1)]
  ·rw [if_neg h1]
   by_cases h2 : i = x.toNat
   ·rw [if_pos h2, if_pos (by rw [show (i : Int) = x by omega]; exact List.mem_cons_self ..)]
   ·rw [if_neg h2, if_neg (by rintro h3; rcases List.mem_cons.1 h3 with h3 | h3; omega; exact h1 h3)]
theorem zeroD_mem : ∀ (l s : List Int), (∀ x ∈ s, x = 0 \/ x = -1) -> ∀ x ∈ zeroD s l, x = 0 \/ x = -1
 | [], s, h => h
 | y :: l, s, h => zeroD_mem l (s.set y.toNat 0) fun x hx => by
  rcases List.mem_or_eq_of_mem_set hx with hx | hx
  ·exact h x hx
  ·exact .inl hx
theorem zero8_inv (l : List Int) : InvD (zeroD (List.replicate 8 (-1)) l) :=
 inv_of (by rw [zeroD_len]; simp) (zeroD_mem l _ fun x hx => .inr (List.eq_of_mem_replicate hx))
theorem rep8 {i : Nat} (h : i < 8) : (List.replicate 8 (-1 : Int)).getD i (-1) = -1 := by
 rw [List.getD_eq_getElem?_getD, List.getElem?_replicate, if_pos h]; rfl
theorem KD_init {n : Nat} {l : List Int} (hn : n <= 8) (hl : ∀ x ∈ l, 0 <= x /\ x < n) : KD (zeroD (List.replicate 8 (-1)) l) = KD (initD n l) := by
 funext i
 unfold KD
 congr 1
 by_cases h8 : i < 8
 ·rw [zeroD_get l _ (fun x hx => by have := hl x hx; simp; omega) i (by simpa using h8)]
  by_cases hi : i < n
  ·rw [initD_get l hi]
   rw [rep8 h8]
  ·rw [if_neg (fun hm => by have := hl _ hm; omega)]
   have : (initD n l).getD i (-1) = -1 := by simp [List.getD_eq_getElem?_getD, initD_len, hi]
   rw [this, rep8 h8]
 ·have h1 : (initD n l).getD i (-1) = -1 := by
   rw [List.getD_eq_getElem?_getD, List.getElem?_eq_none (by rw [initD_len]; omega)]; rfl
  have h2 : (zeroD (List.replicate 8 (-1)) l).getD i (-1) = -1 := by
   rw [List.getD_eq_getElem?_getD, List.getElem?_eq_none (by rw [zeroD_len]; simp; omega)]; rfl
  rw [h1, h2]
theorem wsOk_mono {n m : Nat} {ws : List Way} (h : wsOk n ws) (hm : n <= m) : wsOk m ws := fun w hw => by
 obtain ⟨h1, h2, h3, h4, h5⟩ := h w hw
 exact ⟨h1, by omega, h3, by omega, h5⟩
theorem mpassN_le (ws : List Way) : ∀ (k : Nat) (d : Nat -> Int) (x : Nat), mpassN ws k d x <= d x
 | 0, d, x => Int.le_refl _
 | k + 1, d, x => Int.le_trans (mpassN_le ws k _ x) (mpass_le ws d x)
theorem mpass_out {n : Nat} : ∀ (ws : List Way), (∀ w ∈ ws, w.2.1.toNat < n) -> ∀ (d : Nat -> Int) (x : Nat), n <= x -> mpass ws d x = d x
 | [], _, d, x, _ => rfl
 | w :: ws, h, d, x, hx => by
  show mpass ws (mrel d w) x = d x
  rw [mpass_out ws (fun v hv => h v (List.mem_cons_of_mem _ hv)) _ x hx]
  exact if_neg (by have := h w (List.mem_cons_self ..); omega)
theorem mpassN_out {n : Nat} {ws : List Way} (h : ∀ w ∈ ws, w.2.1.toNat < n) : ∀ (k : Nat) (d : Nat -> Int) (x : Nat), n <= x -> mpassN ws k d x = d x
 | 0, d, x, _ => rfl
 | k + 1, d, x, hx => (mpassN_out h k _ x hx).trans (mpass_out ws h d x hx)
theorem starts_eq {n : Nat} {ws : List Way} {l r : List Int} {k : Nat} (hn : n <= 8) (hw : wsOk n ws) (hl : ∀ x ∈ l, 0 <= x /\ x < n) (hr : r = passN ws k (zeroD (List.replicate 8 (-1)) l)) (hf : passD ws r = r) :
  r.take n = passN ws n (initD n l) := by
 have h8 : (zeroD (List.replicate 8 (-1)) l).length = 8 := by rw [zeroD_len]; simp
 have hw8 : wsOk (zeroD (List.replicate 8 (-1)) l).length ws := by rw [h8]; exact wsOk_mono hw hn
 have rl : r.length = 8 := by rw [hr, passN_len, h8]
 have ir : InvD r := by rw [hr]; exact passN_inv ws k (zero8_inv l) hw8
 have sl : (passN ws n (initD n l)).length = n := by rw [passN_len, initD_len]
 have is : InvD (passN ws n (initD n l)) := passN_inv ws n (initD_inv l hn) (by rw [initD_len]; exact hw)
 have kr : KD r = mpassN ws k (KD (initD n l)) := by rw [hr, KD_passN ws k (zero8_inv l) hw8, KD_init hn hl]
 have hv : ∀ w ∈ ws, w.2.1.toNat < n := fun w hm => by have := (hw w hm).2.2.1; have := (hw w hm).2.2.2.1; omega
 have fx : mpass ws (KD r) = KD r := by rw [<- KD_pass ws ir (by rw [rl]; exact wsOk_mono hw hn), hf]
 have ks : KD (passN ws n (initD n l)) = KD r := by
  rw [KD_passN ws n (initD_inv l hn) (by rw [initD_len]; exact hw)]
  exact bf fx hv n _ (fun x => by rw [kr]; exact mpassN_le ws k _ x) ⟨k, kr.symm⟩ (fun x hx => by rw [kr]; exact (mpassN_out hv k _ x hx).symm) (by omega)
 apply List.ext_getElem?
 intro i
 by_cases hi : i < n
 ·have := KD_inj ir is ks.symm (i := i) (by omega) (by omega)
  rw [List.getElem?_take_of_lt hi]
  rw [List.getD_eq_getElem?_getD, List.getD_eq_getElem?_getD, List.getElem?_eq_getElem (by omega), List.getElem?_eq_getElem (by omega)] at this
  rw [List.getElem?_eq_getElem (by omega), List.getElem?_eq_getElem (by omega)]
  exact congrArg some this
 ·rw [List.getElem?_eq_none (by simp; omega), List.getElem?_eq_none (by omega)]
end Go.P9
