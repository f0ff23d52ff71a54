/- TicketProved: the events of a roll, done again: plain laws. No conditions. -/
import Derived.Test.YtcpdcpfbgmiaoaaDoorPropL
import Derived.Test.YtcpdcpfbgmiaoaaDoorOnceL
import Derived.Test.YtcpdcpfbgmiaoaaDoorRollP4
import Derived.Test.YtcpdcpfbgmiaoaaDoorRollO
import Derived.Test.YtcpdcpfbgmiaoaaDoorPropR
set_option linter.all false
namespace Go.P3
open Go.Lom Go.Proofs Go
def pe (ts : List Tk) : List (Tx × List Int) := ts.map fun t => (t.2.1, t.2.2.2.1)
theorem pe_len (ts : List Tk) : (pe ts).length = ts.length := by unfold pe; rw [List.length_map]
theorem pe_turn (ts : List Tk) (n st si : Int) : pe (turnI ts n st si) = pe ts := by
 unfold pe turnI
 refine map_set_same _ ts _ _ fun y hy => ?_
 unfold tkI
 rw [List.getD_eq_getElem?_getD, hy]; rfl
theorem pe_app (ts : List Tk) (t : Tk) : pe (ts ++ [t]) = pe ts ++ [(t.2.1, t.2.2.2.1)] := by unfold pe; rw [List.map_append]; rfl
theorem pe_adds {ps : List Tx} {es : List (List Int)} {n : Int} : ∀ (k : Nat) (ts : List Tk) (i : Nat), pe (addsI ts ps es n k i) = pe ts ++ (List.range' i k).map fun j => (ps.getD j [], es.getD j [])
 | 0, ts, i => by show pe ts = pe ts ++ []; rw [List.append_nil]
 | k + 1, ts, i => by
  show pe (addsI (ts ++ [_]) ps es n k (i + 1)) = _
  rw [pe_adds k _ (i + 1), pe_app, List.append_assoc]; rfl
theorem range_getD {α : Type} (d : α) : ∀ (l : List α), (List.range' 0 l.length).map (fun j => l.getD j d) = l := fun l => by
 apply List.ext_getElem
 ·simp
 ·intro i h1 h2
  simp [h2]
theorem names_of {s : RS} {x : Ev} {tk : List Tk} {new rest : List (Tx × List Int)} (h : pe tk = pe s.2.2.1 ++ new ++ rest) (hm : x.2.2.2.2.toNat = new.length) : namesI s x tk = new.map (·.1) /\ edgesI s x tk = new.map (·.2) := by
 have e : pe (newsI s x tk) = new := by
  unfold pe newsI
  rw [List.map_take, List.map_drop]
  show ((pe tk).drop s.2.2.1.length).take x.2.2.2.2.toNat = new
  rw [h, hm, List.append_assoc, List.drop_append_of_le_length (by rw [pe_len]; exact Nat.le_refl _), List.drop_eq_nil_of_le (by rw [pe_len]; exact Nat.le_refl _), List.nil_append, List.take_append_of_le_length (Nat.le_refl _), List.take_length]
 refine ⟨?_, ?_⟩
 ·rw [<- e]; unfold namesI pe; rw [List.map_map]; rfl
 ·rw [<- e]; unfold edgesI pe; rw [List.map_map]; rfl
theorem room_of {s : RS} {tk : List Tk} {new rest : List (Tx × List Int)} (h : pe tk = pe s.2.2.1 ++ new ++ rest) : (s.2.2.1.length : Int) + new.length <= tk.length := by
 have : (pe tk).length = (pe s.2.2.1 ++ new ++ rest).length := by rw [h]
 rw [List.length_append, List.length_append, pe_len, pe_len] at this
 omega
section
variable {s : RS} {c c' : Tx} {d : Int} (hn : numberI c = numberI c')
include hn
theorem bring_num : bringE s c d = bringE s c' d := by unfold bringE; rw [hn]
theorem st_num : stI s c = stI s c' := by unfold stI; rw [hn]
theorem block_num : blockI s c d = blockI s c' d := by unfold blockI; rw [bring_num hn, st_num hn, hn]
theorem forfeit_num : forfeitI s c d = forfeitI s c' d := by unfold forfeitI; rw [bring_num hn, st_num hn, hn]
theorem replace_num {g : List Int} : replaceI s c g d = replaceI s c' g d := by unfold replaceI; rw [bring_num hn, st_num hn, hn]
theorem free_num {g g' : List Int} (h1 : fitsE (tkI s.2.2.1 (numberI c).1) g = 0) (h2 : fitsE (tkI s.2.2.1 (numberI c).1) g' = 0) : freeI s c g d = freeI s c' g' d := by
 rw [hn] at h1 h2
 unfold freeI
 rw [bring_num hn, st_num hn, hn, h1, h2]
theorem redeem_num {g g' : List Int} (h1 : fitsE (tkI s.2.2.1 (numberI c).1) g = 0) (h2 : fitsE (tkI s.2.2.1 (numberI c).1) g' = 0) : redeemI s c g d = redeemI s c' g' d := by
 rw [hn] at h1 h2
 unfold redeemI
 rw [bring_num hn, st_num hn, hn, h1, h2]
theorem divide_num {g g' : List Int} {ps : List Tx} {es : List (List Int)} (h1 : fitsE (tkI s.2.2.1 (numberI c).1) g = 0) (h2 : fitsE (tkI s.2.2.1 (numberI c).1) g' = 0) : divideI s c g ps es d = divideI s c' g' ps es d := by
 rw [hn] at h1 h2
 unfold divideI
 rw [bring_num hn, st_num hn, hn, h1, h2]
end
def Again (s s' : RS) : Prop := ∃ (y : Ev) (new : List (Tx × List Int)), s'.2.2.2 = s.2.2.2 ++ [y] /\ pe s'.2.2.1 = pe s.2.2.1 ++ new /\ ∀ (tk : List Tk) (rest : List (Tx × List Int)), pe tk = pe s'.2.2.1 ++ rest -> againI s y tk = (s', true)
theorem again_of {s s' : RS} {y : Ev} {tk : List Tk} {new rest : List (Tx × List Int)} (hk : 1 <= y.1 /\ y.1 <= 7) (hm : y.2.2.2.2 = (new.length : Int)) (h4 : new.length <= 4) (ho : y.1 = 1 \/ y.1 = 4 -> new.length = 1)
  (hh : y.1 ≠ 1 -> hasN s y = true) (hp : pe tk = pe s.2.2.1 ++ new ++ rest) (hs : (stepA s y tk).1 = s' /\ (stepA s y tk).2.2.2 = 0) : againI s y tk = (s', true) := by
 have hr := room_of hp
 have hx : againX s y tk = false := decide_eq_false (by rw [hm]; omega)
 have ho' : oddB y = false := decide_eq_false (by
  rw [hm]
  rintro (c | ⟨c, e⟩)
  ·exact c hk
  ·exact e (by rw [ho c]; rfl))
 unfold againI
 rw [if_neg, hs.1, hs.2]; rfl
 rintro (c | c | ⟨c, e⟩)
 ·rw [hx] at c; cases c
 ·rw [ho'] at c; cases c
 ·rw [hh c] at e; cases e
theorem code_back {s : RS} {y : Ev} (h : hasN s y = true) (hl : s.2.2.1.length <= 256) : codeR s y = codeS y.2.2.1 /\ halfR s y = (tkI s.2.2.1 y.2.2.1).2.2.2.1 /\ numberI (codeS y.2.2.1) = (y.2.2.1, 0) := by
 have h' := of_decide_eq_true h
 exact ⟨if_pos h, if_pos h, num_code h'.1 (by omega)⟩
theorem in_all {lo : Int} {e : List Int} : inB lo e = true ↔ (8 <= e.length /\ e.length <= 16) /\ ∀ x ∈ e, lo <= x /\ x <= 9 := by
 unfold inB allFrom
 rw [Bool.and_eq_true, decide_eq_true_eq, List.all_eq_true]
 simp only [Int.toNat_zero, List.drop_zero, decide_eq_true_eq]
theorem in_weak {e : List Int} (h : inB 0 e = true) : inB (-1) e = true := by
 obtain ⟨h1, h2⟩ := in_all.1 h
 exact in_all.2 ⟨h1, fun x hx => ⟨by have := (h2 x hx).1; omega, (h2 x hx).2⟩⟩
theorem gI_ne {e : List Int} (h : ∀ x ∈ e, (0 : Int) <= x /\ x <= 9) (i : Int) : gI e i ≠ -1 := by
 unfold gI
 rw [List.getD_eq_getElem?_getD]
 cases hc : e[i.toNat]? with
 | none => show (0 : Int) ≠ -1; decide
 | some x =>
  have := (h x (List.mem_of_getElem? hc)).1
  show x ≠ -1
  omega
theorem fitK_own {e : List Int} (h : ∀ x ∈ e, (0 : Int) <= x /\ x <= 9) : ∀ (k : Nat) (i n : Int), fitK e e k i n = some (n + k)
 | 0, i, n => by show some n = some (n + 0); rw [Int.add_zero]
 | k + 1, i, n => by
  unfold fitK
  rw [if_neg (gI_ne h i), if_neg (fun c => c rfl), fitK_own h k]
  congr 1
  omega
theorem fits_self {t : Tk} (h : inB 0 t.2.2.2.1 = true) : fitsE t t.2.2.2.1 = 0 := by
 obtain ⟨h1, h2⟩ := in_all.1 h
 refine fits0 (in_weak h) ?_
 unfold fitI
 rw [if_neg (fun c => c rfl), fitK_own h2]
 exact decide_eq_true (by omega)
theorem edge_at {s : RS} (h : okR s) {n : Int} (h1 : 1 <= n) (h2 : n <= s.2.2.1.length) : fitsE (tkI s.2.2.1 n) (tkI s.2.2.1 n).2.2.2.1 = 0 := fits_self (h.tk _ _ (tkI_mem h1 h2)).edge
section
variable {s : RS} {c p : Tx} {d : Int} {g : List Int} {ps : List Tx} {eds : List (List Int)}
theorem issue_eq (h : (issueI s p g d).2.2 = 0) : issueI s p g d = (doneI s 1 d 0 (s.2.2.1 ++ [((s.2.2.1.length : Int) + 1, p, 1, g, 0, 0)]), codeS ((s.2.2.1.length : Int) + 1), 0) := by
 unfold issueI at h ⊢
 split at h
 ·cases h
 split at h
 ·cases h
 split at h
 ·cases h
 split at h
 ·cases h
 rename_i a b c d
 rw [if_neg a, if_neg b, if_neg c, if_neg d]
theorem block_eq (h : (blockI s c d).2 = 0) : blockI s c d = (doneI s 2 d (numberI c).1 (turnI s.2.2.1 (numberI c).1 2 d), 0) := by
 have hb : bringE s c d = 0 := Decidable.byContradiction fun hc => by unfold blockI at h; rw [if_pos hc] at h; exact hc h
 unfold blockI at h ⊢
 rw [if_neg (fun c => c hb)] at h ⊢
 split at h
 ·cases h
 rename_i a
 rw [if_neg a]
theorem free_eq (h : (freeI s c g d).2 = 0) : fitsE (tkI s.2.2.1 (numberI c).1) g = 0 /\ freeI s c g d = (doneI s 3 d (numberI c).1 (turnI s.2.2.1 (numberI c).1 1 0), 0) := by
 have hb : bringE s c d = 0 := Decidable.byContradiction fun hc => by unfold freeI at h; rw [if_pos hc] at h; exact hc h
 unfold freeI at h ⊢
 rw [if_neg (fun c => c hb)] at h ⊢
 split at h
 ·cases h
 rename_i a
 split at h
 ·exact absurd h (by assumption)
 rename_i b
 exact ⟨Decidable.not_not.1 b, by rw [if_neg a, if_neg b]⟩
theorem redeem_eq (h : (redeemI s c g d).2.2 = 0) : fitsE (tkI s.2.2.1 (numberI c).1) g = 0 /\ redeemI s c g d = (doneI s 6 d (numberI c).1 (turnI s.2.2.1 (numberI c).1 4 0), (tkI s.2.2.1 (numberI c).1).2.1, 0) := by
 have hb : bringE s c d = 0 := Decidable.byContradiction fun hc => by unfold redeemI at h; rw [if_pos hc] at h; exact hc h
 unfold redeemI at h ⊢
 rw [if_neg (fun c => c hb)] at h ⊢
 split at h
 ·cases h
 rename_i a
 split at h
 ·exact absurd h (by assumption)
 rename_i b
 exact ⟨Decidable.not_not.1 b, by rw [if_neg a, if_neg b]⟩
theorem forfeit_eq (h : (forfeitI s c d).2.2 = 0) : forfeitI s c d = (doneI s 7 d (numberI c).1 (turnI s.2.2.1 (numberI c).1 5 0), (tkI s.2.2.1 (numberI c).1).2.1, 0) := by
 have hb : bringE s c d = 0 := Decidable.byContradiction fun hc => by unfold forfeitI at h; rw [if_pos hc] at h; exact hc h
 unfold forfeitI at h ⊢
 rw [if_neg (fun c => c hb)] at h ⊢
 split at h
 ·cases h
 rename_i a
 rw [if_neg a]
theorem replace_eq (h : (replaceI s c g d).2.2 = 0) : replaceI s c g d = (doneI s 4 d (numberI c).1 (turnI s.2.2.1 (numberI c).1 3 0 ++ [((s.2.2.1.length : Int) + 1, (tkI s.2.2.1 (numberI c).1).2.1, 1, g, 0, (numberI c).1)]), codeS ((s.2.2.1.length : Int) + 1), 0) := by
 have hb : bringE s c d = 0 := Decidable.byContradiction fun hc => by unfold replaceI at h; rw [if_pos hc] at h; exact hc h
 unfold replaceI at h ⊢
 rw [if_neg (fun c => c hb)] at h ⊢
 split at h
 ·cases h
 rename_i a1
 split at h
 ·cases h
 rename_i a2
 split at h
 ·cases h
 rename_i a3
 rw [if_neg a1, if_neg a2, if_neg a3]
theorem divide_eq (h : (divideI s c g ps eds d).2.2 = 0) : (fitsE (tkI s.2.2.1 (numberI c).1) g = 0 /\ ps.length <= 4 /\ eds.length = ps.length) /\ divideI s c g ps eds d = (doneI s 5 d (numberI c).1 (addsI (turnI s.2.2.1 (numberI c).1 3 0) ps eds (numberI c).1 ps.length 0), codesI ps.length ((s.2.2.1.length : Int) + 1), 0) := by
 have hb : bringE s c d = 0 := Decidable.byContradiction fun hc => by unfold divideI at h; rw [if_pos hc] at h; exact hc h
 unfold divideI at h ⊢
 rw [if_neg (fun c => c hb)] at h ⊢
 split at h
 ·cases h
 rename_i a1
 split at h
 ·exact absurd h (by assumption)
 rename_i a2
 split at h
 ·cases h
 rename_i a3
 split at h
 ·cases h
 rename_i a4
 split at h
 ·cases h
 rename_i a5
 refine ⟨⟨Decidable.not_not.1 a2, ?_, ?_⟩, by rw [if_neg a1, if_neg a2, if_neg a3, if_neg a4, if_neg a5]⟩
 ·rw [Bool.not_eq_false, Bool.and_eq_true, decide_eq_true_eq] at a3; exact a3.1.2
 ·rw [Bool.not_eq_false, Bool.and_eq_true, decide_eq_true_eq] at a4; exact a4.1
end
theorem again_done {s : RS} (hs : okR s) {k d n : Int} {ts : List Tk} {new : List (Tx × List Int)} (hk : 2 <= k /\ k <= 7) (h1 : 1 <= n) (h2 : n <= s.2.2.1.length) (hp : pe ts = pe s.2.2.1 ++ new) (h4 : new.length <= 4) (ho : k = 4 -> new.length = 1)
  (hd : (doC k s (codeS n) (tkI s.2.2.1 n).2.2.2.1 (new.map (·.1)) (new.map (·.2)) d).1 = doneI s k d n ts /\ (doC k s (codeS n) (tkI s.2.2.1 n).2.2.2.1 (new.map (·.1)) (new.map (·.2)) d).2.2.2 = 0) : Again s (doneI s k d n ts) := by
 have hl : ts.length = s.2.2.1.length + new.length := by
  have := congrArg List.length hp
  rw [List.length_append, pe_len, pe_len] at this
  exact this
 have hm : (if s.2.2.1.length < ts.length then (ts.length : Int) - s.2.2.1.length else 0) = new.length := by
  split <;> omega
 refine ⟨_, new, rfl, hp, fun tk rest ht => ?_⟩
 have ht : pe tk = pe s.2.2.1 ++ new ++ rest := by rw [ht]; show pe ts ++ rest = _; rw [hp]
 have hh : hasN s (k, d, n, if s.2.2.1.length < ts.length then (ts.length : Int) else 0, if s.2.2.1.length < ts.length then (ts.length : Int) - s.2.2.1.length else 0) = true := decide_eq_true ⟨h1, h2⟩
 obtain ⟨q1, q2, q3⟩ := code_back hh hs.len
 refine again_of (rest := rest) (show 1 <= k /\ k <= 7 by omega) hm h4 (fun c => ?_) (fun _ => hh) ht ?_
 ·have c : k = 1 \/ k = 4 := c
  exact ho (by omega)
 obtain ⟨n1, n2⟩ := names_of (x := (k, d, n, if s.2.2.1.length < ts.length then (ts.length : Int) else 0, if s.2.2.1.length < ts.length then (ts.length : Int) - s.2.2.1.length else 0)) ht (by show Int.toNat (if _ then _ else _) = _; rw [hm]; rfl)
 unfold stepA
 rw [n1, n2, q1, q2]
 exact hd
theorem num_same {s : RS} (hs : okR s) {c : Tx} (hn0 : (numberI c).2 = 0) (h1 : 1 <= (numberI c).1) (h2 : (numberI c).1 <= s.2.2.1.length) : numberI c = numberI (codeS (numberI c).1) := by
 have := hs.len
 rw [num_code h1 (by omega)]; exact Prod.ext rfl hn0
section
variable {s : RS} {c p : Tx} {d : Int} {g : List Int} {ps : List Tx} {eds : List (List Int)} (hs : okR s)
include hs
omit hs in
theorem again_issue (h : (issueI s p g d).2.2 = 0) : Again s (issueI s p g d).1 := by
 have e := issue_eq h
 have hp : pe (issueI s p g d).1.2.2.1 = pe s.2.2.1 ++ [(p, g)] := by rw [e]; exact pe_app _ _
 have key : ∀ (la ma : Int) (tk : List Tk) (rest : List (Tx × List Int)), ma = 1 -> pe tk = pe s.2.2.1 ++ [(p, g)] ++ rest -> againI s (1, d, 0, la, ma) tk = ((issueI s p g d).1, true) := fun la ma tk rest hm ht => by
  refine again_of (new := [(p, g)]) (rest := rest) (show (1 : Int) <= 1 /\ (1 : Int) <= 7 by decide) hm (show 1 <= 4 by decide) (fun _ => rfl) (fun c => absurd rfl c) ht ?_
  obtain ⟨n1, n2⟩ := names_of (x := (1, d, 0, la, ma)) ht (by show Int.toNat ma = _; rw [hm]; rfl)
  show (doC 1 s _ _ (namesI s _ tk) (edgesI s _ tk) d).1 = _ /\ (doC 1 s _ _ (namesI s _ tk) (edgesI s _ tk) d).2.2.2 = 0
  rw [n1, n2]
  exact ⟨rfl, h⟩
 refine ⟨_, [(p, g)], by rw [e]; rfl, hp, fun tk rest ht => ?_⟩
 rw [hp] at ht
 refine key _ _ tk rest ?_ ht
 rw [List.length_append, if_pos (by show _ < _ + 1; omega)]; show ((s.2.2.1.length + 1 : Nat) : Int) - _ = 1; omega
theorem again_block (h : (blockI s c d).2 = 0) : Again s (blockI s c d).1 := by
 have hb : bringE s c d = 0 := Decidable.byContradiction fun hc => by unfold blockI at h; rw [if_pos hc] at h; exact hc h
 obtain ⟨-, hn0, h1, h2, -⟩ := bring_ok hb
 have e := block_eq h
 have e2 := block_num (s := s) (d := d) (num_same hs hn0 h1 h2)
 rw [e]
 refine again_done hs (new := []) ⟨by decide, by decide⟩ h1 h2 (by rw [pe_turn, List.append_nil]) (by decide) (fun c => by cases c) ?_
 show (blockI s (codeS _) d).1 = _ /\ (blockI s (codeS _) d).2 = 0
 rw [<- e2, e]; exact ⟨rfl, rfl⟩
theorem again_free (h : (freeI s c g d).2 = 0) : Again s (freeI s c g d).1 := by
 have hb : bringE s c d = 0 := Decidable.byContradiction fun hc => by unfold freeI at h; rw [if_pos hc] at h; exact hc h
 obtain ⟨-, hn0, h1, h2, -⟩ := bring_ok hb
 have e := free_eq h
 have e2 := free_num (s := s) (d := d) (num_same hs hn0 h1 h2) e.1 (edge_at hs h1 h2)
 rw [e.2] at e2 ⊢
 refine again_done hs (new := []) ⟨by decide, by decide⟩ h1 h2 (by rw [pe_turn, List.append_nil]) (by decide) (fun c => by cases c) ?_
 show (freeI s (codeS _) _ d).1 = _ /\ (freeI s (codeS _) _ d).2 = 0
 rw [<- e2]; exact ⟨rfl, rfl⟩
theorem again_redeem (h : (redeemI s c g d).2.2 = 0) : Again s (redeemI s c g d).1 := by
 have hb : bringE s c d = 0 := Decidable.byContradiction fun hc => by unfold redeemI at h; rw [if_pos hc] at h; exact hc h
 obtain ⟨-, hn0, h1, h2, -⟩ := bring_ok hb
 have e := redeem_eq h
 have e2 := redeem_num (s := s) (d := d) (num_same hs hn0 h1 h2) e.1 (edge_at hs h1 h2)
 rw [e.2] at e2 ⊢
 refine again_done hs (new := []) ⟨by decide, by decide⟩ h1 h2 (by rw [pe_turn, List.append_nil]) (by decide) (fun c => by cases c) ?_
 show (redeemI s (codeS _) _ d).1 = _ /\ (redeemI s (codeS _) _ d).2.2 = 0
 rw [<- e2]; exact ⟨rfl, rfl⟩
theorem again_forfeit (h : (forfeitI s c d).2.2 = 0) : Again s (forfeitI s c d).1 := by
 have hb : bringE s c d = 0 := Decidable.byContradiction fun hc => by unfold forfeitI at h; rw [if_pos hc] at h; exact hc h
 obtain ⟨-, hn0, h1, h2, -⟩ := bring_ok hb
 have e := forfeit_eq h
 have e2 := forfeit_num (s := s) (d := d) (num_same hs hn0 h1 h2)
 rw [e] at e2 ⊢
 refine again_done hs (new := []) ⟨by decide, by decide⟩ h1 h2 (by rw [pe_turn, List.append_nil]) (by decide) (fun c => by cases c) ?_
 show (forfeitI s (codeS _) d).1 = _ /\ (forfeitI s (codeS _) d).2.2 = 0
 rw [<- e2]; exact ⟨rfl, rfl⟩
theorem again_replace (h : (replaceI s c g d).2.2 = 0) : Again s (replaceI s c g d).1 := by
 have hb : bringE s c d = 0 := Decidable.byContradiction fun hc => by unfold replaceI at h; rw [if_pos hc] at h; exact hc h
 obtain ⟨-, hn0, h1, h2, -⟩ := bring_ok hb
 have e := replace_eq h
 have e2 := replace_num (s := s) (d := d) (g := g) (num_same hs hn0 h1 h2)
 rw [e] at e2 ⊢
 refine again_done hs (new := [((tkI s.2.2.1 (numberI c).1).2.1, g)]) ⟨by decide, by decide⟩ h1 h2 (by rw [pe_app, pe_turn]) (by show 1 <= 4; decide) (fun _ => rfl) ?_
 show (replaceI s (codeS _) g d).1 = _ /\ (replaceI s (codeS _) g d).2.2 = 0
 rw [<- e2]; exact ⟨rfl, rfl⟩
theorem again_divide (h : (divideI s c g ps eds d).2.2 = 0) : Again s (divideI s c g ps eds d).1 := by
 have hb : bringE s c d = 0 := Decidable.byContradiction fun hc => by unfold divideI at h; rw [if_pos hc] at h; exact hc h
 obtain ⟨-, hn0, h1, h2, -⟩ := bring_ok hb
 have e := divide_eq h
 have e2 := divide_num (s := s) (d := d) (ps := ps) (es := eds) (num_same hs hn0 h1 h2) e.1.1 (edge_at hs h1 h2)
 rw [e.2] at e2 ⊢
 have n1 : (List.map (fun j => (ps.getD j [], eds.getD j [])) (List.range' 0 ps.length)).map (·.1) = ps := by rw [List.map_map]; exact range_getD [] ps
 have n2 : (List.map (fun j => (ps.getD j [], eds.getD j [])) (List.range' 0 ps.length)).map (·.2) = eds := by rw [List.map_map, <- e.1.2.2]; exact range_getD [] eds
 refine again_done hs (new := (List.range' 0 ps.length).map fun j => (ps.getD j [], eds.getD j [])) ⟨by decide, by decide⟩ h1 h2 (by rw [pe_adds, pe_turn]) (by rw [List.length_map, List.length_range']; exact e.1.2.1) (fun c => by cases c) ?_
 rw [n1, n2]
 show (divideI s (codeS _) _ ps eds d).1 = _ /\ (divideI s (codeS _) _ ps eds d).2.2 = 0
 rw [<- e2]; exact ⟨rfl, rfl⟩
end
theorem again_call {s : RS} (hs : okR s) (c : Cl) : (callI s c).1 = s \/ Again s (callI s c).1 := by
 obtain ⟨k, d, cd, p, g, ps, eds⟩ := c
 obtain ⟨l1, l2⟩ := call_leaves hs (k, d, cd, p, g, ps, eds)
 by_cases hk : 1 <= k /\ k <= 7
 rotate_left
 ·exact .inl (l2 hk)
 by_cases he : (callI s (k, d, cd, p, g, ps, eds)).2.2.2 = 0
 rotate_left
 ·exact .inl ((l1 hk).same he)
 right
 rcases kind7' k hk.1 hk.2 with rfl | rfl | rfl | rfl | rfl | rfl | rfl
 ·exact again_issue he
 ·exact again_block hs he
 ·exact again_free hs he
 ·exact again_replace hs he
 ·exact again_divide hs he
 ·exact again_redeem hs he
 ·exact again_forfeit hs he
theorem runI_app {tk : List Tk} : ∀ (l : List Ev) (s : RS) (y : Ev), runI tk s (l ++ [y]) = (runI tk s l).bind fun r => if (againI r y tk).2 = true then some (againI r y tk).1 else none
 | [], s, y => by
  show (if (againI s y tk).2 = true then runI tk (againI s y tk).1 [] else none) = _
  rfl
 | x :: l, s, y => by
  show (if (againI s x tk).2 = true then runI tk (againI s x tk).1 (l ++ [y]) else none) = Option.bind (if (againI s x tk).2 = true then runI tk (againI s x tk).1 l else none) _
  split
  ·exact runI_app l _ y
  ·rfl
def Redone (w : Int) (s : RS) : Prop := ∀ (tk : List Tk) (rest : List (Tx × List Int)), pe tk = pe s.2.2.1 ++ rest -> runI tk (w, 0, [], []) s.2.2.2 = some s
theorem redone_step {w : Int} {s s' : RS} (h : Redone w s) (ha : Again s s') : Redone w s' := fun tk rest ht => by
 obtain ⟨y, new, e1, e2, e3⟩ := ha
 have h1 := h tk (new ++ rest) (by rw [ht, e2, List.append_assoc])
 rw [e1, runI_app, h1]
 show (if (againI s y tk).2 = true then some (againI s y tk).1 else none) = _
 rw [e3 tk rest ht]; rfl
theorem redone_fold {w : Int} : ∀ (cs : List Cl) {s : RS}, okR s -> Redone w s -> Redone w (cs.foldl stepI s)
 | [], s, _, h => h
 | c :: cs, s, hs, h => redone_fold cs (s := stepI s c) (call_ok hs c).1 (by
  rcases again_call hs c with e | e
  ·show Redone w (callI s c).1
   rw [e]; exact h
  ·exact redone_step h e)
theorem redone_start (w : Int) : Redone w (w, 0, [], []) := fun tk rest _ => rfl
theorem proper_yes {w : Int} {s : RS} (hw : 0 <= w /\ w <= 1000) (h : Redone w s) : properI w s.2.2.1 s.2.2.2 = (true, 0) := by
 rw [properI_some hw (h s.2.2.1 [] (by rw [List.append_nil]))]
 rw [decide_eq_true rfl, decide_eq_true rfl]; rfl
theorem proper_state {w : Int} {s : RS} {ts : List Tk} (hw : 0 <= w /\ w <= 1000) (h : Redone w s) (hp : pe ts = pe s.2.2.1) : properI w ts s.2.2.2 = (decide (s.2.2.1 = ts), 0) := by
 rw [properI_some hw (h ts [] (by rw [List.append_nil, hp]))]
 rw [decide_eq_true rfl, Bool.true_and]
end Go.P3
