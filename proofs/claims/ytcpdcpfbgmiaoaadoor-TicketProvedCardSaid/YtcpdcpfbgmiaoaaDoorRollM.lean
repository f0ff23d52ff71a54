/- Rolls: what calls leave. No conditions. -/
import Derived.Test.YtcpdcpfbgmiaoaaDoorRollB
import Derived.Test.YtcpdcpfbgmiaoaaDoorRollP4
set_option linter.all false
namespace Go.P3
open Go.Lom Go.Proofs Go
structure okT (ts : List Tk) : Prop where
 len : ts.length <= 256
 tk : ∀ i t, ts[i]? = some t -> tkOk i t
theorem okR.t {s : RS} (h : okR s) : okT s.2.2.1 := ⟨h.len, h.tk⟩
theorem okT_turn {ts : List Tk} (h : okT ts) {n st si : Int} (hn : 1 <= n) (hs : 0 <= si /\ si <= 36500) (hst : 1 <= st /\ st <= 5) : okT (turnI ts n st si) := by
 refine ⟨by rw [turnI_len]; exact h.len, fun i t ht => ?_⟩
 rw [turnI_get] at ht
 split at ht
 ·rename_i hc
  injection ht with ht; subst ht
  have := h.tk _ _ (tkI_mem (n := n) hn (by omega))
  rw [<- hc.1] at this
  exact ⟨this.num, hs, this.edge, this.comes, hst, this.word⟩
 ·exact h.tk i t ht
theorem okT_app {ts : List Tk} (h : okT ts) {t : Tk} (ht : tkOk ts.length t) (hl : ts.length < 256) : okT (ts ++ [t]) := by
 refine ⟨by rw [List.length_append]; exact hl, fun i x hx => ?_⟩
 rw [List.getElem?_append] at hx
 split at hx
 ·exact h.tk i x hx
 ·rename_i hi
  have : i - ts.length = 0 := by
   have := (List.getElem?_eq_some_iff.1 hx).1
   simp at this; omega
  rw [this] at hx
  injection hx with hx
  rw [<- hx, show i = ts.length by omega]; exact ht
theorem okT_adds {ps : List Tx} {es : List (List Int)} {n : Int} : ∀ (k : Nat) (ts : List Tk) (i : Nat), okT ts -> 0 <= n -> n <= ts.length -> i + k <= ps.length -> ts.length + k <= 256 -> (∀ j, j < ps.length -> wordB (ps.getD j []) = true /\ inB 0 (es.getD j []) = true) -> okT (addsI ts ps es n k i)
 | 0, ts, i, h, _, _, _, _, _ => h
 | k + 1, ts, i, h, h0, h1, h2, h3, h4 => by
  unfold addsI
  have hw := h4 i (by omega)
  exact okT_adds k _ _ (okT_app h ⟨rfl, by simp, hw.2, ⟨h0, h1⟩, by simp, hw.1⟩ (by omega)) h0 (by rw [List.length_append]; omega) (by omega) (by rw [List.length_append]; simp; omega) h4
theorem news_at {s : RS} {ps : List Tx} : ∀ (k i : Nat), newsB s ps k i = true -> ∀ j, i <= j -> j < i + k -> wordB (ps.getD j []) = true /\ hadB s (ps.getD j []) = false /\ (ps.take j).any (eqT (ps.getD j [])) = false
 | 0, i, _, j, h1, h2 => by omega
 | k + 1, i, h, j, h1, h2 => by
  unfold newsB at h
  simp only [Bool.and_eq_true, Bool.not_eq_true'] at h
  by_cases hj : j = i
  ·subst hj; exact ⟨h.1.1.1, h.1.1.2, h.1.2⟩
  ·exact news_at k (i + 1) h.2 j (by omega) (by omega)
theorem done_ok {s : RS} (h : okR s) {k d n : Int} {ts : List Tk} (hd : 0 <= d /\ d <= 36500) (ht : okT ts) : okR (doneI s k d n ts) := ⟨h.wait, hd, ht.len, ht.tk⟩
structure Leaves (s r : RS) (k d : Int) (e : Int) : Prop where
 ok : okR r
 wait : r.1 = s.1
 same : e ≠ 0 -> r = s
 note : e = 0 -> ∃ n la ma : Int, r.2.2.2 = s.2.2.2 ++ [(k, d, n, la, ma)] /\ r.2.1 = d /\ s.2.1 <= d
theorem leaves_same {s : RS} {k d e : Int} (h : okR s) (he : e ≠ 0) : Leaves s s k d e := ⟨h, rfl, fun _ => rfl, fun e => absurd e he⟩
theorem leaves_done {s : RS} {k d n : Int} {ts : List Tk} (h : okR s) (hd : 0 <= d /\ d <= 36500 /\ s.2.1 <= d) (ht : okT ts) : Leaves s (doneI s k d n ts) k d 0 :=
 ⟨done_ok h ⟨hd.1, hd.2.1⟩ ht, rfl, fun e => absurd rfl e, fun _ => ⟨_, _, _, rfl, rfl, hd.2.2⟩⟩
section
variable {s : RS} {c p : Tx} {d : Int} {g : List Int} {ps : List Tx} {eds : List (List Int)} (h : okR s)
include h
theorem issue_leaves : Leaves s (issueI s p g d).1 1 d (issueI s p g d).2.2 := by
 unfold issueI
 split
 ·exact leaves_same h (by simp)
 rename_i h1
 split
 ·exact leaves_same h (by simp)
 rename_i h2
 split
 ·exact leaves_same h (by simp)
 rename_i h3
 split
 ·exact leaves_same h (by simp)
 rename_i h4
 have h1 : dayB s d = true := by simpa using h1
 simp only [Bool.not_eq_false, Bool.and_eq_true] at h2 h3
 exact leaves_done h (of_decide_eq_true h1) (okT_app h.t ⟨rfl, by simp, h3, by simp, by simp, h2.1⟩ (by omega))
theorem block_leaves : Leaves s (blockI s c d).1 2 d (blockI s c d).2 := by
 unfold blockI
 split
 ·exact leaves_same h (by assumption)
 rename_i hz
 split
 ·exact leaves_same h (by simp)
 have hz := Decidable.not_not.1 hz
 obtain ⟨hd, -, h1, h2, -⟩ := bring_ok hz
 exact leaves_done h hd (okT_turn h.t h1 ⟨hd.1, hd.2.1⟩ (by decide))
theorem free_leaves : Leaves s (freeI s c g d).1 3 d (freeI s c g d).2 := by
 unfold freeI
 split
 ·exact leaves_same h (by assumption)
 rename_i hz
 split
 ·exact leaves_same h (by simp)
 split
 ·exact leaves_same h (by assumption)
 have hz := Decidable.not_not.1 hz
 obtain ⟨hd, -, h1, h2, -⟩ := bring_ok hz
 exact leaves_done h hd (okT_turn h.t h1 (by decide) (by decide))
theorem replace_leaves : Leaves s (replaceI s c g d).1 4 d (replaceI s c g d).2.2 := by
 unfold replaceI
 split
 ·exact leaves_same h (by assumption)
 rename_i hz
 split
 ·exact leaves_same h (by simp)
 split
 ·exact leaves_same h (by simp)
 rename_i h3
 split
 ·exact leaves_same h (by simp)
 rename_i h4
 have hz := Decidable.not_not.1 hz
 obtain ⟨hd, -, h1, h2, -⟩ := bring_ok hz
 simp only [Bool.not_eq_false] at h3
 exact leaves_done h hd (okT_app (okT_turn h.t h1 (by decide) (by decide)) ⟨by rw [turnI_len], by simp, h3, ⟨by simp only; omega, by rw [turnI_len]; exact h2⟩, by simp, (roll_tk h h1 h2).word⟩ (by rw [turnI_len]; omega))
theorem divide_leaves : Leaves s (divideI s c g ps eds d).1 5 d (divideI s c g ps eds d).2.2 := by
 unfold divideI
 split
 ·exact leaves_same h (by assumption)
 rename_i hz
 split
 ·exact leaves_same h (by simp)
 split
 ·exact leaves_same h (by assumption)
 split
 ·exact leaves_same h (by simp)
 rename_i h3
 split
 ·exact leaves_same h (by simp)
 rename_i h4
 split
 ·exact leaves_same h (by simp)
 rename_i h5
 have hz := Decidable.not_not.1 hz
 obtain ⟨hd, -, h1, h2, -⟩ := bring_ok hz
 simp only [Bool.not_eq_false, Bool.and_eq_true, decide_eq_true_eq] at h3 h4
 refine leaves_done h hd (okT_adds _ _ _ (okT_turn h.t h1 (by decide) (by decide)) (by omega) (by rw [turnI_len]; exact h2) (by omega) (by rw [turnI_len]; omega) fun j hj => ⟨(news_at _ _ h3.2 j (by omega) (by omega)).1, ?_⟩)
 exact List.all_eq_true.1 h4.2 _ (by rw [List.getD_eq_getElem?_getD, List.getElem?_eq_getElem (show j < eds.length by omega)]; exact List.getElem_mem _)
theorem redeem_leaves : Leaves s (redeemI s c g d).1 6 d (redeemI s c g d).2.2 := by
 unfold redeemI
 split
 ·exact leaves_same h (by assumption)
 rename_i hz
 split
 ·exact leaves_same h (by simp)
 split
 ·exact leaves_same h (by assumption)
 have hz := Decidable.not_not.1 hz
 obtain ⟨hd, -, h1, h2, -⟩ := bring_ok hz
 exact leaves_done h hd (okT_turn h.t h1 (by decide) (by decide))
theorem forfeit_leaves : Leaves s (forfeitI s c d).1 7 d (forfeitI s c d).2.2 := by
 unfold forfeitI
 split
 ·exact leaves_same h (by assumption)
 rename_i hz
 split
 ·exact leaves_same h (by simp)
 have hz := Decidable.not_not.1 hz
 obtain ⟨hd, -, h1, h2, -⟩ := bring_ok hz
 exact leaves_done h hd (okT_turn h.t h1 (by decide) (by decide))
end
theorem kind7' (k : Int) (h8 : 1 <= k) (h9 : k <= 7) : k = 1 \/ k = 2 \/ k = 3 \/ k = 4 \/ k = 5 \/ k = 6 \/ k = 7 := by omega
theorem call_leaves {s : RS} (h : okR s) (c : Cl) : (1 <= c.1 /\ c.1 <= 7 -> Leaves s (callI s c).1 c.1 c.2.1 (callI s c).2.2.2) /\ (¬ (1 <= c.1 /\ c.1 <= 7) -> (callI s c).1 = s) := by
 obtain ⟨k, d, c, p, g, ps, eds⟩ := c
 by_cases hk : 1 <= k /\ k <= 7
 ·refine ⟨fun _ => ?_, fun hn => absurd hk hn⟩
  rcases kind7' k hk.1 hk.2 with rfl | rfl | rfl | rfl | rfl | rfl | rfl
  ·exact issue_leaves h
  ·exact block_leaves h
  ·exact free_leaves h
  ·exact replace_leaves h
  ·exact divide_leaves h
  ·exact redeem_leaves h
  ·exact forfeit_leaves h
 ·refine ⟨fun hn => absurd hn hk, fun _ => ?_⟩
  unfold callI
  simp only
  repeat (rw [if_neg (by omega)])
  split <;> rfl
theorem call_ok {s : RS} (h : okR s) (c : Cl) : okR (callI s c).1 /\ (callI s c).1.1 = s.1 /\ ((callI s c).1.2.2.2.length <= s.2.2.2.length + 1) := by
 obtain ⟨h1, h2⟩ := call_leaves h c
 by_cases hk : 1 <= c.1 /\ c.1 <= 7
 ·have hl := h1 hk
  refine ⟨hl.ok, hl.wait, ?_⟩
  by_cases he : (callI s c).2.2.2 = 0
  ·obtain ⟨n, la, ma, e1, -, -⟩ := hl.note he
   rw [e1, List.length_append]; exact Nat.le_refl _
  ·rw [hl.same he]; omega
 ·rw [h2 hk]; exact ⟨h, rfl, by omega⟩
end Go.P3
