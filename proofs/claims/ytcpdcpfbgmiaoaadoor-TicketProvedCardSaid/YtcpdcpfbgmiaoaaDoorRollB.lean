/- Rolls: a call of a roll: what the walks of all kinds need. No conditions. -/
import Derived.Test.YtcpdcpfbgmiaoaaDoorRollS
import Derived.Test.YtcpdcpfbgmiaoaaDoorRollAP
set_option linter.all false
set_option maxRecDepth 100000
namespace Go.P3
open Go.Lom Go.Proofs Go
theorem seg_len {α : Type} (n : Nat) (l : List α) : (seg 0 n l).length = min n l.length := by simp [seg]
theorem seg_exact {α : Type} {n : Nat} {l : List α} (h : n = l.length) : seg 0 n l = l := by rw [h, seg_self]
theorem two_sets {ts ys ys1 : List Tk} {r st si : Int}
  (h2 : ys1 = List.set ys (r - 1).toNat ((ys.getD (r - 1).toNat T0).1, (ys.getD (r - 1).toNat T0).2.1, (ys.getD (r - 1).toNat T0).2.2.1, (ys.getD (r - 1).toNat T0).2.2.2.1, si, (ys.getD (r - 1).toNat T0).2.2.2.2.2))
  (h1 : ys = List.set ts (r - 1).toNat ((ts.getD (r - 1).toNat T0).1, (ts.getD (r - 1).toNat T0).2.1, st, (ts.getD (r - 1).toNat T0).2.2.2)) : ys1 = turnI ts r st si := by
 subst h2 h1
 unfold turnI tkI
 by_cases h : (r - 1).toNat < ts.length
 ·have e : (List.set ts (r - 1).toNat ((ts.getD (r - 1).toNat T0).1, (ts.getD (r - 1).toNat T0).2.1, st, (ts.getD (r - 1).toNat T0).2.2.2)).getD (r - 1).toNat T0 = ((ts.getD (r - 1).toNat T0).1, (ts.getD (r - 1).toNat T0).2.1, st, (ts.getD (r - 1).toNat T0).2.2.2) := by
   rw [List.getD_eq_getElem?_getD, List.getElem?_set_self h]; rfl
  rw [e, List.set_set]
 ·have g : ∀ (l : List Tk) (x : Tk), l.length = ts.length -> List.set l (r - 1).toNat x = l := fun l x hl => List.set_eq_of_length_le (by omega)
  rw [g _ _ (by rw [List.length_set]), g _ _ rfl, g _ _ rfl]
section
variable {s : RS} {c : Tx} {d r e : Int}
theorem bring34 (h : ¬ (0 <= d /\ d <= 36500 /\ s.2.1 <= d)) : bringE s c d = 34 := by
 unfold bringE dayB; rw [if_pos (decide_eq_false h)]
theorem bringN (hre : (r, e) = numberI c) (h : 0 <= d /\ d <= 36500 /\ s.2.1 <= d) (h2 : e ≠ 0) : bringE s c d = e := by
 unfold bringE dayB; rw [decide_eq_true h, <- hre, if_neg (by simp), if_pos h2]
theorem bring4 (hre : (r, e) = numberI c) (h : 0 <= d /\ d <= 36500 /\ s.2.1 <= d) (h2 : e = 0) (h3 : ¬ r <= s.2.2.1.length) : bringE s c d = 4 := by
 unfold bringE dayB; rw [decide_eq_true h, <- hre, if_neg (by simp), if_neg (by simpa using h2), if_pos (by simpa using h3)]
theorem bring35 (hre : (r, e) = numberI c) (h : 0 <= d /\ d <= 36500 /\ s.2.1 <= d) (h2 : e = 0) (h3 : r <= s.2.2.1.length) (h4 : ¬ (tkI s.2.2.1 r).2.2.1 = 1) (h5 : ¬ (tkI s.2.2.1 r).2.2.1 = 2) : bringE s c d = 35 := by
 unfold bringE dayB liveB; rw [decide_eq_true h, <- hre, if_neg (by simp), if_neg (by simpa using h2), if_neg (by simpa using h3), if_pos (decide_eq_false (fun e => e.elim h4 h5))]
theorem bring0 (hre : (r, e) = numberI c) (h : 0 <= d /\ d <= 36500 /\ s.2.1 <= d) (h2 : e = 0) (h3 : r <= s.2.2.1.length) (h4 : (tkI s.2.2.1 r).2.2.1 = 1 \/ (tkI s.2.2.1 r).2.2.1 = 2) : bringE s c d = 0 := by
 unfold bringE dayB liveB; rw [decide_eq_true h, <- hre, if_neg (by simp), if_neg (by simpa using h2), if_neg (by simpa using h3), if_neg (by simp [h4])]
theorem num_one (hre : (r, e) = numberI c) (h2 : e = 0) : 1 <= r /\ r <= 99999999 := (num_valid (b := c) (r := r) (by rw [<- hre, h2])).2
theorem numE (hre : (r, e) = numberI c) : (numberI c).1 = r := by rw [<- hre]
theorem doC_bring {k : Int} {h : List Int} {ps : List Tx} {eds : List (List Int)} (hk : k ≠ 1) (hb : bringE s c d ≠ 0) : doC k s c h ps eds d = (s, [], [], bringE s c d) := by
 unfold doC blockI freeI replaceI divideI redeemI forfeitI
 rw [if_neg hk]
 simp only [if_pos hb, if_neg hb]
 repeat' (split)
 all_goals rfl
end
theorem fits31 {t : Tk} {h : List Int} (h1 : inB (-1) h = false) : fitsE t h = 31 := by unfold fitsE; rw [if_pos h1]
theorem fits32 {t : Tk} {h : List Int} (h1 : inB (-1) h = true) (h2 : (fitI t.2.2.2.1 h).2 = false) : fitsE t h = 32 := by unfold fitsE; rw [if_neg (by rw [h1]; decide), if_pos h2]
theorem fits0 {t : Tk} {h : List Int} (h1 : inB (-1) h = true) (h2 : (fitI t.2.2.2.1 h).2 = true) : fitsE t h = 0 := by unfold fitsE; rw [if_neg (by rw [h1]; decide), if_neg (by rw [h2]; decide)]
theorem turn_at {ts : List Tk} {r st si : Int} : (((turnI ts r st si).getD (r - 1).toNat T0).2.1 = (tkI ts r).2.1) /\ (((turnI ts r st si).getD (r - 1).toNat T0).1 = (tkI ts r).1) := by
 unfold turnI tkI
 by_cases h : (r - 1).toNat < ts.length
 ·constructor <;> (rw [List.getD_eq_getElem?_getD, List.getElem?_set_self h]; rfl)
 ·rw [List.set_eq_of_length_le (by omega)]; exact ⟨rfl, rfl⟩
theorem turned_pl {ts ys ys1 : List Tk} {r st si : Int}
  (h2 : ys1 = List.set ys (r - 1).toNat ((ys.getD (r - 1).toNat T0).1, (ys.getD (r - 1).toNat T0).2.1, (ys.getD (r - 1).toNat T0).2.2.1, (ys.getD (r - 1).toNat T0).2.2.2.1, si, (ys.getD (r - 1).toNat T0).2.2.2.2.2))
  (h1 : ys = List.set ts (r - 1).toNat ((ts.getD (r - 1).toNat T0).1, (ts.getD (r - 1).toNat T0).2.1, st, (ts.getD (r - 1).toNat T0).2.2.2)) : (ys1.getD (r - 1).toNat T0).2.1 = (tkI ts r).2.1 := by
 rw [two_sets h2 h1]; exact turn_at.1
theorem turned_no {ts ys ys1 : List Tk} {r st si : Int}
  (h2 : ys1 = List.set ys (r - 1).toNat ((ys.getD (r - 1).toNat T0).1, (ys.getD (r - 1).toNat T0).2.1, (ys.getD (r - 1).toNat T0).2.2.1, (ys.getD (r - 1).toNat T0).2.2.2.1, si, (ys.getD (r - 1).toNat T0).2.2.2.2.2))
  (h1 : ys = List.set ts (r - 1).toNat ((ts.getD (r - 1).toNat T0).1, (ts.getD (r - 1).toNat T0).2.1, st, (ts.getD (r - 1).toNat T0).2.2.2)) : (ys1.getD (r - 1).toNat T0).1 = (tkI ts r).1 := by
 rw [two_sets h2 h1]; exact turn_at.2
theorem edge_len {s : RS} (h : okR s) {r : Int} (h0 : 1 <= r) (h1 : r <= s.2.2.1.length) : (tkI s.2.2.1 r).2.2.2.1.length <= 16 := by
 have := (h.tk _ _ (tkI_mem h0 h1)).edge
 rw [inB_iff] at this; exact this.1.2
theorem edge16 {l : List Int} (h : inB 0 l = true) : l.length <= 16 := by rw [inB_iff] at h; exact h.1.2
theorem roll_tk {s : RS} (h : okR s) {r : Int} (h0 : 1 <= r) (h1 : r <= s.2.2.1.length) : tkOk (r - 1).toNat (tkI s.2.2.1 r) := h.tk _ _ (tkI_mem h0 h1)
end Go.P3
