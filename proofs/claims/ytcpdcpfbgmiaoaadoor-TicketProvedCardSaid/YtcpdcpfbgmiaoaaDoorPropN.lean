/- TicketProved: with one event less the tickets and events of a roll are not proper; lines: plain laws. No conditions. -/
import Derived.Test.YtcpdcpfbgmiaoaaDoorPropM
import Derived.Test.YtcpdcpfbgmiaoaaDoorOnceL
set_option linter.all false
namespace Go.P3
open Go.Lom Go.Proofs Go
def stN (ts : List Tk) (n : Int) : Int := (tkI ts n).2.2.1
def askN (k : Int) : Int := if k = 3 \/ k = 4 then 2 else 1
theorem stN_get {a b : List Tk} {n : Int} (h : a[(n - 1).toNat]? = b[(n - 1).toNat]?) : stN a n = stN b n := by
 unfold stN tkI
 rw [List.getD_eq_getElem?_getD, h, <- List.getD_eq_getElem?_getD]
theorem stN_turn {ts : List Tk} {n st si : Int} (h1 : 1 <= n) (h2 : n <= ts.length) : stN (turnI ts n st si) n = st := by
 unfold stN tkI
 rw [List.getD_eq_getElem?_getD, turnI_get, if_pos ⟨rfl, by omega⟩]; rfl
structure Form (s s' : RS) (k : Int) (y : Ev) : Prop where
 ev : s'.2.2.2 = s.2.2.2 ++ [y]
 kind : y.1 = k
 many : (s'.2.2.1.length : Int) = s.2.2.1.length + y.2.2.2.2 /\ 0 <= y.2.2.2.2
 other : ∀ n : Int, 1 <= n -> n <= s.2.2.1.length -> y.2.2.1 ≠ n -> stN s'.2.2.1 n = stN s.2.2.1 n
 own : 1 <= y.2.2.1 -> y.2.2.1 <= s.2.2.1.length /\ stN s.2.2.1 y.2.2.1 = askN k /\ stN s'.2.2.1 y.2.2.1 ≠ stN s.2.2.1 y.2.2.1
 none : ¬ 1 <= y.2.2.1 -> 0 < y.2.2.2.2
theorem form_done {s : RS} {k d n st si : Int} {ts : List Tk} (h1 : 1 <= n) (h2 : n <= s.2.2.1.length) (hl : s.2.2.1.length <= ts.length) (hg : ∀ i, i < s.2.2.1.length -> ts[i]? = (turnI s.2.2.1 n st si)[i]?)
  (ha : stN s.2.2.1 n = askN k) (hst : st ≠ askN k) : ∃ y, Form s (doneI s k d n ts) k y := by
 refine ⟨_, rfl, rfl, ?_, fun m m1 m2 m3 => ?_, fun _ => ⟨h2, ha, ?_⟩, fun c => absurd h1 c⟩
 ·show (ts.length : Int) = s.2.2.1.length + (if s.2.2.1.length < ts.length then (ts.length : Int) - s.2.2.1.length else 0) /\ 0 <= (if s.2.2.1.length < ts.length then (ts.length : Int) - s.2.2.1.length else 0)
  split <;> constructor <;> omega
 ·have m3 : n ≠ m := m3
  show stN ts m = _
  refine stN_get ?_
  rw [hg _ (by omega), turnI_get, if_neg (by omega)]
 ·show stN ts n ≠ stN s.2.2.1 n
  rw [show stN ts n = stN (turnI s.2.2.1 n st si) n from stN_get (hg _ (by omega)), stN_turn h1 h2, ha]; exact hst
theorem adds_get {ps : List Tx} {es : List (List Int)} {n : Int} : ∀ (k : Nat) (ts : List Tk) (i j : Nat), j < ts.length -> (addsI ts ps es n k i)[j]? = ts[j]?
 | 0, ts, i, j, _ => rfl
 | k + 1, ts, i, j, h => by
  show (addsI (ts ++ [_]) ps es n k (i + 1))[j]? = _
  rw [adds_get k _ (i + 1) j (by rw [List.length_append]; omega), List.getElem?_append_left h]
theorem form_issue {s : RS} {p : Tx} {g : List Int} {d : Int} (h : (issueI s p g d).2.2 = 0) : ∃ y, Form s (issueI s p g d).1 1 y := by
 have e := issue_eq h
 rw [e]
 refine ⟨_, rfl, rfl, ?_, fun m m1 m2 m3 => ?_, fun c => absurd c (by show ¬ (1 : Int) <= 0; decide), fun _ => ?_⟩
 ·show ((s.2.2.1 ++ [_]).length : Int) = s.2.2.1.length + (if s.2.2.1.length < (s.2.2.1 ++ [_]).length then ((s.2.2.1 ++ [_]).length : Int) - s.2.2.1.length else 0) /\ 0 <= (if s.2.2.1.length < (s.2.2.1 ++ [_]).length then ((s.2.2.1 ++ [_]).length : Int) - s.2.2.1.length else 0)
  rw [List.length_append]
  split <;> constructor <;> omega
 ·show stN (s.2.2.1 ++ [_]) m = _
  refine stN_get ?_
  rw [List.getElem?_append_left (by omega)]
 ·show 0 < (if s.2.2.1.length < (s.2.2.1 ++ [_]).length then ((s.2.2.1 ++ [_]).length : Int) - s.2.2.1.length else 0)
  rw [List.length_append, if_pos (by show _ < _ + 1; omega)]
  show 0 < ((s.2.2.1.length + 1 : Nat) : Int) - _
  omega
theorem live_ask {s : RS} {c : Tx} {k : Int} (hl : liveB (tkI s.2.2.1 (numberI c).1) = true) (hk : (k = 3 \/ k = 4) ↔ stI s c = 2) : stN s.2.2.1 (numberI c).1 = askN k := by
 have hl : (tkI s.2.2.1 (numberI c).1).2.2.1 = 1 \/ (tkI s.2.2.1 (numberI c).1).2.2.1 = 2 := of_decide_eq_true hl
 unfold stI at hk
 unfold stN askN
 split
 ·rename_i h; exact hk.1 h
 ·rename_i h
  rcases hl with e | e
  ·exact e
  ·exact absurd (hk.2 e) h
theorem form_step {s : RS} (hs : okR s) {k d : Int} {c : Tx} {g : List Int} {ps : List Tx} {eds : List (List Int)} (hk : 1 <= k /\ k <= 7) (he : (doC k s c g ps eds d).2.2.2 = 0) : ∃ y, Form s (doC k s c g ps eds d).1 k y := by
 by_cases h1 : k = 1
 ·subst h1; exact form_issue he
 have hc : (callI s (k, d, c, [], g, ps, eds)).2.2.2 = 0 := by
  rcases kind7' k hk.1 hk.2 with rfl | rfl | rfl | rfl | rfl | rfl | rfl
  ·omega
  all_goals exact he
 obtain ⟨hb, -, hst, -⟩ := call_done hs (by omega) hc
 obtain ⟨-, hn0, n1, n2, hl⟩ := bring_ok hb
 have ha := live_ask hl hst
 have same : ∀ (st si : Int) (i : Nat), i < s.2.2.1.length -> (turnI s.2.2.1 (numberI c).1 st si)[i]? = (turnI s.2.2.1 (numberI c).1 st si)[i]? := fun _ _ _ _ => rfl
 have len : ∀ st si : Int, s.2.2.1.length <= (turnI s.2.2.1 (numberI c).1 st si).length := fun st si => by rw [turnI_len]; exact Nat.le_refl _
 rcases kind7' k hk.1 hk.2 with rfl | rfl | rfl | rfl | rfl | rfl | rfl
 ·omega
 ·have e := block_eq (s := s) (c := c) (d := d) he
  show ∃ y, Form s (blockI s c d).1 2 y
  rw [e]; exact form_done n1 n2 (len _ _) (same _ _) ha (by decide)
 ·have e := (free_eq (s := s) (c := c) (d := d) (g := g) he).2
  show ∃ y, Form s (freeI s c g d).1 3 y
  rw [e]; exact form_done n1 n2 (len _ _) (same _ _) ha (by decide)
 ·have e := replace_eq (s := s) (c := c) (d := d) (g := eds.getD 0 []) he
  show ∃ y, Form s (replaceI s c (eds.getD 0 []) d).1 4 y
  rw [e]; exact form_done n1 n2 (by rw [List.length_append, turnI_len]; omega) (fun i hi => by rw [List.getElem?_append_left (by rw [turnI_len]; exact hi)]) ha (by decide)
 ·have e := (divide_eq (s := s) (c := c) (d := d) (g := g) (ps := ps) (eds := eds) he).2
  show ∃ y, Form s (divideI s c g ps eds d).1 5 y
  rw [e]; exact form_done n1 n2 (by rw [adds_len, turnI_len]; omega) (fun i hi => by rw [adds_get _ _ _ _ (by rw [turnI_len]; exact hi)]) ha (by decide)
 ·have e := (redeem_eq (s := s) (c := c) (d := d) (g := g) he).2
  show ∃ y, Form s (redeemI s c g d).1 6 y
  rw [e]; exact form_done n1 n2 (len _ _) (same _ _) ha (by decide)
 ·have e := forfeit_eq (s := s) (c := c) (d := d) he
  show ∃ y, Form s (forfeitI s c d).1 7 y
  rw [e]; exact form_done n1 n2 (len _ _) (same _ _) ha (by decide)
theorem form_again {s : RS} (hs : okR s) {x : Ev} {tk : List Tk} (h : (againI s x tk).2 = true) : ∃ y, Form s (againI s x tk).1 x.1 y := by
 unfold againI at h ⊢
 split
 ·rename_i c; rw [if_pos c] at h; cases h
 rename_i c
 rw [if_neg c] at h
 have ho : oddB x = false := by
  cases e : oddB x with
  | false => rfl
  | true => exact absurd (.inr (.inl e)) c
 exact form_step hs (odd_kind ho) (of_decide_eq_true h)
def foreN (n fin : Int) : List Ev -> Int
 | [] => fin
 | y :: l => if y.2.2.1 = n then askN y.1 else foreN n fin l
def sumM (l : List Ev) : Int := (l.map (·.2.2.2.2)).sum
theorem run_cons {tk : List Tk} {s r : RS} {x : Ev} {l : List Ev} (hs : okR s) (h : runI tk s (x :: l) = some r) (he : r.2.2.2 = s.2.2.2 ++ x :: l) :
  Form s (againI s x tk).1 x.1 x /\ okR (againI s x tk).1 /\ runI tk (againI s x tk).1 l = some r /\ r.2.2.2 = (againI s x tk).1.2.2.2 ++ l := by
 obtain ⟨g1, -, g2, -⟩ := again_ok (x := x) (tk := tk) hs
 unfold runI at h
 split at h
 rotate_left
 ·cases h
 rename_i ha
 obtain ⟨y, hy⟩ := form_again hs ha
 obtain ⟨zs, e1, e2⟩ := run_events l g1 h
 rw [hy.ev, List.append_assoc, he] at e1
 have e1 := List.append_cancel_left e1
 have e1 : x :: l = y :: zs := e1
 injection e1 with e3 e4
 subst e3
 exact ⟨hy, g1, h, by rw [he, hy.ev, List.append_assoc]; rfl⟩
theorem run_split {tk : List Tk} : ∀ (a b : List Ev) {s r : RS}, okR s -> runI tk s (a ++ b) = some r -> r.2.2.2 = s.2.2.2 ++ (a ++ b) -> ∃ m, okR m /\ runI tk s a = some m /\ runI tk m b = some r /\ r.2.2.2 = m.2.2.2 ++ b
 | [], b, s, r, hs, h, he => ⟨s, hs, rfl, h, he⟩
 | x :: a, b, s, r, hs, h, he => by
  obtain ⟨g1, g2, g3, g4⟩ := run_cons (l := a ++ b) hs h he
  obtain ⟨m, m1, m2, m3, m4⟩ := run_split a b g2 g3 g4
  refine ⟨m, m1, ?_, m3, m4⟩
  have h : (if (againI s x tk).2 = true then runI tk (againI s x tk).1 (a ++ b) else none) = some r := h
  show (if (againI s x tk).2 = true then runI tk (againI s x tk).1 a else none) = some m
  split at h
  ·rename_i c; rw [if_pos c]; exact m2
  ·cases h
theorem run_len {tk : List Tk} : ∀ (l : List Ev) {s r : RS}, okR s -> runI tk s l = some r -> r.2.2.2 = s.2.2.2 ++ l -> (r.2.2.1.length : Int) = s.2.2.1.length + sumM l /\ s.2.2.1.length <= r.2.2.1.length
 | [], s, r, _, h, _ => by
  have h : some s = some r := h
  injection h with h; subst h
  exact ⟨by show (_ : Int) = _ + 0; omega, Nat.le_refl _⟩
 | x :: l, s, r, hs, h, he => by
  obtain ⟨g1, g2, g3, g4⟩ := run_cons hs h he
  obtain ⟨q1, q2⟩ := run_len l g2 g3 g4
  have := g1.many
  refine ⟨?_, by omega⟩
  show _ = _ + ((x.2.2.2.2 : Int) + sumM l)
  omega
theorem run_fore {tk : List Tk} {n : Int} (n1 : 1 <= n) : ∀ (l : List Ev) {s r : RS}, okR s -> runI tk s l = some r -> r.2.2.2 = s.2.2.2 ++ l -> n <= s.2.2.1.length -> stN s.2.2.1 n = foreN n (stN r.2.2.1 n) l
 | [], s, r, _, h, _, _ => by
  have h : some s = some r := h
  injection h with h; subst h; rfl
 | x :: l, s, r, hs, h, he, hn => by
  obtain ⟨g1, g2, g3, g4⟩ := run_cons hs h he
  unfold foreN
  split
  ·rename_i c
   have := (g1.own (by omega)).2.1
   rw [c] at this; exact this
  ·rename_i c
   have := g1.many
   rw [<- g1.other n n1 hn c]
   exact run_fore n1 l g2 g3 g4 (by omega)
theorem sumM_app (a b : List Ev) : sumM (a ++ b) = sumM a + sumM b := by unfold sumM; rw [List.map_append, List.sum_append]
theorem run_less {tk : List Tk} {s r q : RS} {a b : List Ev} {y : Ev} (hs : okR s) (h1 : runI tk s (a ++ y :: b) = some r) (e1 : r.2.2.2 = s.2.2.2 ++ (a ++ y :: b))
  (h2 : runI tk s (a ++ b) = some q) (e2 : q.2.2.2 = s.2.2.2 ++ (a ++ b)) : r.2.2.1 ≠ q.2.2.1 := fun hq => by
 obtain ⟨m, m1, m2, m3, m4⟩ := run_split a (y :: b) hs h1 e1
 obtain ⟨m', m1', m2', m3', m4'⟩ := run_split a b hs h2 e2
 rw [m2] at m2'
 injection m2' with m2'
 subst m2'
 obtain ⟨g1, g2, g3, g4⟩ := run_cons m1 m3 m4
 have l1 := run_len _ hs h1 e1
 have l2 := run_len _ hs h2 e2
 have hy : y.2.2.2.2 = 0 := by
  have : sumM (a ++ y :: b) = sumM (a ++ b) + y.2.2.2.2 := by
   rw [sumM_app, sumM_app]
   show sumM a + (y.2.2.2.2 + sumM b) = _
   omega
  have e : (r.2.2.1.length : Int) = q.2.2.1.length := by rw [hq]
  omega
 have hn : 1 <= y.2.2.1 := Decidable.byContradiction fun c => by have := g1.none c; omega
 obtain ⟨o1, -, o3⟩ := g1.own hn
 have f1 := run_fore hn b m1 m3' m4' o1
 have f2 := run_fore hn b g2 g3 g4 (by have := g1.many; omega)
 rw [hq] at f2
 exact o3 (f2.trans f1.symm)
theorem proper_no {w : Int} {s : RS} (hw : 0 <= w /\ w <= 1000) (h : Redone w s) {k : Nat} (hk : k < s.2.2.2.length) : properI w s.2.2.1 (s.2.2.2.take k ++ s.2.2.2.drop (k + 1)) = (false, 0) := by
 have hsp : s.2.2.2 = s.2.2.2.take k ++ s.2.2.2[k] :: s.2.2.2.drop (k + 1) := by rw [<- List.drop_eq_getElem_cons hk, List.take_append_drop]
 have h1 := h s.2.2.1 [] (by rw [List.append_nil])
 cases hr : runI s.2.2.1 (w, 0, [], []) (s.2.2.2.take k ++ s.2.2.2.drop (k + 1)) with
 | none => exact properI_none hw hr
 | some q =>
  rw [properI_some hw hr]
  have : ¬ (q.2.2.2 = s.2.2.2.take k ++ s.2.2.2.drop (k + 1) /\ q.2.2.1 = s.2.2.1) := fun ⟨c1, c2⟩ => by
   refine run_less (tk := s.2.2.1) (s := (w, 0, [], [])) (r := s) (q := q) (a := s.2.2.2.take k) (b := s.2.2.2.drop (k + 1)) (y := s.2.2.2[k]) (okR_start hw) ?_ ?_ hr ?_ c2.symm
   ·rw [<- hsp]; exact h1
   ·show s.2.2.2 = [] ++ _
    rw [List.nil_append]; exact hsp
   ·show q.2.2.2 = [] ++ _
    rw [List.nil_append]; exact c1
  refine Prod.ext ?_ rfl
  cases c1 : decide (q.2.2.2 = s.2.2.2.take k ++ s.2.2.2.drop (k + 1)) with
  | false => rfl
  | true =>
   show decide (q.2.2.1 = s.2.2.1) = false
   exact decide_eq_false fun c2 => this ⟨of_decide_eq_true c1, c2⟩
theorem line_len (l : List Tk) {n : Int} {k : Nat} (hn : 0 < n) : lineK l (k + 1) n = n :: lineK l k (tkI l n).2.2.2.2.2 := by
 show (if n > 0 then _ else _) = _
 rw [if_pos hn]
theorem comes_of {s : RS} (h : okR s) {n : Int} (h1 : 1 <= n) (h2 : n <= s.2.2.1.length) : 0 <= (tkI s.2.2.1 n).2.2.2.2.2 /\ (tkI s.2.2.1 n).2.2.2.2.2 < n := by
 have := (h.tk _ _ (tkI_mem h1 h2)).comes
 omega
theorem line_falls {s : RS} (h : okR s) : ∀ (k : Nat) (n : Int), 1 <= n -> n <= s.2.2.1.length -> n <= k ->
  (∀ j : Nat, 1 <= j -> j < (lineK s.2.2.1 k n).length -> 1 <= (lineK s.2.2.1 k n).getD j 0 /\ (lineK s.2.2.1 k n).getD j 0 <= (lineK s.2.2.1 k n).getD (j - 1) 0 - 1) /\
  (∀ j : Nat, j < (lineK s.2.2.1 k n).length -> 1 <= (lineK s.2.2.1 k n).getD j 0 /\ (lineK s.2.2.1 k n).getD j 0 <= s.2.2.1.length) /\
  (tkI s.2.2.1 ((lineK s.2.2.1 k n).getD ((lineK s.2.2.1 k n).length - 1) 0)).2.2.2.2.2 = 0 /\ 0 < (lineK s.2.2.1 k n).length /\ (lineK s.2.2.1 k n).length <= k /\ (lineK s.2.2.1 k n).getD 0 0 = n
 | 0, n, h1, _, hk => by omega
 | k + 1, n, h1, h2, hk => by
  rw [line_len _ (by omega)]
  obtain ⟨c1, c2⟩ := comes_of h h1 h2
  by_cases hc : (tkI s.2.2.1 n).2.2.2.2.2 = 0
  ·rw [hc]
   have : lineK s.2.2.1 k 0 = [] := by cases k <;> rfl
   rw [this]
   refine ⟨fun j j1 j2 => by simp at j2; omega, fun j j2 => ?_, hc, by simp, by simp, rfl⟩
   have : j = 0 := by simp at j2; omega
   subst this; exact ⟨h1, h2⟩
  ·obtain ⟨g1, g2, g3, g4, g5, g6⟩ := line_falls h k (tkI s.2.2.1 n).2.2.2.2.2 (by omega) (by omega) (by omega)
   generalize hL : lineK s.2.2.1 k (tkI s.2.2.1 n).2.2.2.2.2 = L at *
   refine ⟨fun j j1 j2 => ?_, fun j j2 => ?_, ?_, by simp, by simp; omega, rfl⟩
   ·obtain ⟨j', rfl⟩ : ∃ j', j = j' + 1 := ⟨j - 1, by omega⟩
    rw [List.length_cons] at j2
    rw [Nat.add_sub_cancel, List.getD_cons_succ]
    cases j' with
    | zero =>
     rw [List.getD_cons_zero, g6]; exact ⟨by omega, by omega⟩
    | succ i =>
     rw [List.getD_cons_succ]
     have := g1 (i + 1) (by omega) (by omega)
     rw [Nat.add_sub_cancel] at this; exact this
   ·cases j with
    | zero => exact ⟨h1, h2⟩
    | succ i =>
     rw [List.length_cons] at j2
     rw [List.getD_cons_succ]; exact g2 i (by omega)
   ·rw [List.length_cons, Nat.add_sub_cancel]
    obtain ⟨i, hi⟩ : ∃ i, L.length = i + 1 := ⟨L.length - 1, by omega⟩
    rw [hi, List.getD_cons_succ]
    rw [hi, Nat.add_sub_cancel] at g3; exact g3
end Go.P3
