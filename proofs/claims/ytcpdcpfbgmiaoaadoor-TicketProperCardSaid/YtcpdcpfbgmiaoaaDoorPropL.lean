/- TicketProper: the same events again: plain laws. No conditions. -/
import Derived.Test.YtcpdcpfbgmiaoaaDoorRollM
set_option linter.all false
namespace Go.P3
open Go.Lom Go.Proofs Go
def newsI (s : RS) (x : Ev) (tk : List Tk) : List Tk := (tk.drop s.2.2.1.length).take x.2.2.2.2.toNat
def namesI (s : RS) (x : Ev) (tk : List Tk) : List Tx := (newsI s x tk).map (·.2.1)
def edgesI (s : RS) (x : Ev) (tk : List Tk) : List (List Int) := (newsI s x tk).map (·.2.2.2.1)
def againX (s : RS) (x : Ev) (tk : List Tk) : Bool := decide (x.2.2.2.2 < 0 \/ x.2.2.2.2 > 4 \/ (s.2.2.1.length : Int) + x.2.2.2.2 > tk.length)
def hasN (s : RS) (x : Ev) : Bool := decide (1 <= x.2.2.1 /\ x.2.2.1 <= s.2.2.1.length)
def codeR (s : RS) (x : Ev) : Tx := if hasN s x = true then codeS x.2.2.1 else []
def halfR (s : RS) (x : Ev) : List Int := if hasN s x = true then (tkI s.2.2.1 x.2.2.1).2.2.2.1 else []
def stepA (s : RS) (x : Ev) (tk : List Tk) : RS × List Tx × Tx × Int := doC x.1 s (codeR s x) (halfR s x) (namesI s x tk) (edgesI s x tk) x.2.1
def oddB (x : Ev) : Bool := decide (¬ (1 <= x.1 /\ x.1 <= 7) \/ (x.1 = 1 \/ x.1 = 4) /\ x.2.2.2.2 ≠ 1)
def againI (s : RS) (x : Ev) (tk : List Tk) : RS × Bool :=
 if againX s x tk = true \/ oddB x = true \/ x.1 ≠ 1 /\ hasN s x = false then (s, false) else ((stepA s x tk).1, decide ((stepA s x tk).2.2.2 = 0))
def lastE (s : RS) : Ev := s.2.2.2.getD ((s.2.2.2.length : Int) - 1).toNat (0, 0, 0, 0, 0)
def againR (s : RS) (x : Ev) (tk : List Tk) : RS × Bool :=
 if againX s x tk = true \/ oddB x = true then (s, false) else ((stepA s x tk).1, decide ((stepA s x tk).2.2.2 = 0) && decide (lastE (stepA s x tk).1 = x))
def runI (tk : List Tk) : RS -> List Ev -> Option RS
 | s, [] => some s
 | s, x :: l => if (againI s x tk).2 = true then runI tk (againI s x tk).1 l else none
def runR (tk : List Tk) : RS -> List Ev -> Option RS
 | s, [] => some s
 | s, x :: l => if (againR s x tk).2 = true then runR tk (againR s x tk).1 l else none
section
variable {s : RS} {c p : Tx} {d k : Int} {g : List Int} {ps : List Tx} {eds : List (List Int)}
theorem doC_leaves (h : okR s) (hk : 1 <= k /\ k <= 7) : Leaves s (doC k s c g ps eds d).1 k d (doC k s c g ps eds d).2.2.2 := by
 rcases kind7' k hk.1 hk.2 with rfl | rfl | rfl | rfl | rfl | rfl | rfl
 ·exact issue_leaves h
 ·exact block_leaves h
 ·exact free_leaves h
 ·exact replace_leaves h
 ·exact divide_leaves h
 ·exact redeem_leaves h
 ·exact forfeit_leaves h
theorem bring_err (hb : bringE s c d ≠ 0) (hk : 2 <= k /\ k <= 7) : (doC k s c g ps eds d).2.2.2 ≠ 0 := by
 rcases kind7' k (by omega) hk.2 with rfl | rfl | rfl | rfl | rfl | rfl | rfl
 ·omega
 ·show (blockI s c d).2 ≠ 0; unfold blockI; rw [if_pos hb]; exact hb
 ·show (freeI s c g d).2 ≠ 0; unfold freeI; rw [if_pos hb]; exact hb
 ·show (replaceI s c (eds.getD 0 []) d).2.2 ≠ 0; unfold replaceI; rw [if_pos hb]; exact hb
 ·show (divideI s c g ps eds d).2.2 ≠ 0; unfold divideI; rw [if_pos hb]; exact hb
 ·show (redeemI s c g d).2.2 ≠ 0; unfold redeemI; rw [if_pos hb]; exact hb
 ·show (forfeitI s c d).2.2 ≠ 0; unfold forfeitI; rw [if_pos hb]; exact hb
end
theorem bring_nil (s : RS) (d : Int) : bringE s [] d ≠ 0 := by
 unfold bringE
 split
 ·decide
 ·rw [if_pos (by decide)]; decide
theorem odd_kind {x : Ev} (h : oddB x = false) : 1 <= x.1 /\ x.1 <= 7 := by
 unfold oddB at h
 have := of_decide_eq_false h
 exact Decidable.not_not.1 fun c => this (.inl c)
theorem step_leaves {s : RS} {x : Ev} {tk : List Tk} (h : okR s) (ho : oddB x = false) : Leaves s (stepA s x tk).1 x.1 x.2.1 (stepA s x tk).2.2.2 := doC_leaves h (odd_kind ho)
theorem again_ok {s : RS} {x : Ev} {tk : List Tk} (h : okR s) : okR (againI s x tk).1 /\ (againI s x tk).1.1 = s.1 /\ ((againI s x tk).2 = true -> ∃ y : Ev, (againI s x tk).1.2.2.2 = s.2.2.2 ++ [y]) /\ (againI s x tk).1.2.2.2.length <= s.2.2.2.length + 1 := by
 unfold againI
 split
 ·exact ⟨h, rfl, fun c => (by cases c), Nat.le_succ _⟩
 ·rename_i hc
  have ho : oddB x = false := by simpa using fun c => hc (.inr (.inl c))
  have hl := step_leaves (tk := tk) h ho
  refine ⟨hl.ok, hl.wait, fun e => ?_, ?_⟩
  ·obtain ⟨n, la, ma, e1, -⟩ := hl.note (of_decide_eq_true e)
   exact ⟨_, e1⟩
  ·by_cases he : (stepA s x tk).2.2.2 = 0
   ·obtain ⟨n, la, ma, e1, -⟩ := hl.note he
    show (stepA s x tk).1.2.2.2.length <= _
    rw [e1, List.length_append]; exact Nat.le_refl _
   ·show (stepA s x tk).1.2.2.2.length <= _
    rw [hl.same he]; omega
theorem againR_ok {s : RS} {x : Ev} {tk : List Tk} (h : okR s) : okR (againR s x tk).1 /\ (againR s x tk).1.1 = s.1 /\ (againR s x tk).1.2.2.2.length <= s.2.2.2.length + 1 := by
 unfold againR
 split
 ·exact ⟨h, rfl, Nat.le_succ _⟩
 ·rename_i hc
  have ho : oddB x = false := by simpa using fun c => hc (.inr c)
  have hl := step_leaves (tk := tk) h ho
  refine ⟨hl.ok, hl.wait, ?_⟩
  by_cases he : (stepA s x tk).2.2.2 = 0
  ·obtain ⟨n, la, ma, e1, -⟩ := hl.note he
   show (stepA s x tk).1.2.2.2.length <= _
   rw [e1, List.length_append]; exact Nat.le_refl _
  ·show (stepA s x tk).1.2.2.2.length <= _
   rw [hl.same he]; omega
theorem last_app {s : RS} {es : List Ev} {y : Ev} (h : s.2.2.2 = es ++ [y]) : lastE s = y := by
 unfold lastE
 rw [h, List.length_append]
 have : (((es.length + [y].length : Nat) : Int) - 1).toNat = es.length := by
  show (((es.length + 1 : Nat) : Int) - 1).toNat = es.length
  omega
 rw [this, List.getD_eq_getElem?_getD, List.getElem?_append_right (Nat.le_refl _), Nat.sub_self]; rfl
theorem again_iff {s : RS} {x : Ev} {tk : List Tk} (h : okR s) : ((againI s x tk).2 = true /\ (againI s x tk).1.2.2.2 = s.2.2.2 ++ [x] ↔ (againR s x tk).2 = true) /\ ((againR s x tk).2 = true -> (againR s x tk).1 = (againI s x tk).1) := by
 by_cases h1 : againX s x tk = true \/ oddB x = true
 ·have e1 : againI s x tk = (s, false) := by unfold againI; rw [if_pos (by rcases h1 with c | c; exact .inl c; exact .inr (.inl c))]
  have e2 : againR s x tk = (s, false) := by unfold againR; rw [if_pos h1]
  rw [e1, e2]
  exact ⟨⟨fun c => c.1, fun c => (by cases c)⟩, fun c => (by cases c)⟩
 have ho : oddB x = false := by simpa using fun c => h1 (.inr c)
 have hl := step_leaves (tk := tk) h ho
 have e2 : againR s x tk = ((stepA s x tk).1, decide ((stepA s x tk).2.2.2 = 0) && decide (lastE (stepA s x tk).1 = x)) := by unfold againR; rw [if_neg h1]
 by_cases h2 : x.1 ≠ 1 /\ hasN s x = false
 ·have e1 : againI s x tk = (s, false) := by unfold againI; rw [if_pos (.inr (.inr h2))]
  have hk := odd_kind ho
  have h3 : (stepA s x tk).2.2.2 ≠ 0 := by
   unfold stepA
   refine bring_err ?_ ⟨by omega, hk.2⟩
   unfold codeR
   rw [if_neg (by rw [h2.2]; decide)]
   exact bring_nil _ _
  rw [e1, e2]
  rw [decide_eq_false h3]
  exact ⟨⟨fun c => c.1, fun c => (by cases c)⟩, fun c => (by cases c)⟩
 have e1 : againI s x tk = ((stepA s x tk).1, decide ((stepA s x tk).2.2.2 = 0)) := by
  unfold againI
  rw [if_neg]
  rintro (c | c | c)
  ·exact h1 (.inl c)
  ·exact h1 (.inr c)
  ·exact h2 c
 rw [e1, e2]
 refine ⟨⟨fun ⟨c1, c2⟩ => ?_, fun c => ?_⟩, fun _ => rfl⟩
 ·have c1 : decide ((stepA s x tk).2.2.2 = 0) = true := c1
  show (decide ((stepA s x tk).2.2.2 = 0) && decide (lastE (stepA s x tk).1 = x)) = true
  rw [c1, Bool.true_and, decide_eq_true_eq]
  exact last_app c2
 ·have c : (decide ((stepA s x tk).2.2.2 = 0) && decide (lastE (stepA s x tk).1 = x)) = true := c
  rw [Bool.and_eq_true, decide_eq_true_eq, decide_eq_true_eq] at c
  obtain ⟨n, la, ma, g1, -⟩ := hl.note c.1
  have := last_app g1
  rw [c.2] at this
  refine ⟨decide_eq_true c.1, ?_⟩
  show (stepA s x tk).1.2.2.2 = _
  rw [g1, <- this]
theorem run_events {tk : List Tk} : ∀ (l : List Ev) {s r : RS}, okR s -> runI tk s l = some r -> ∃ zs, r.2.2.2 = s.2.2.2 ++ zs /\ zs.length = l.length
 | [], s, r, _, h => by
  have h : some s = some r := h
  injection h with h; subst h
  exact ⟨[], by rw [List.append_nil], rfl⟩
 | x :: l, s, r, hs, h => by
  unfold runI at h
  split at h
  ·rename_i ha
   obtain ⟨g1, -, g2, -⟩ := again_ok (x := x) (tk := tk) hs
   obtain ⟨y, g2⟩ := g2 ha
   obtain ⟨zs, g3, g4⟩ := run_events l g1 h
   exact ⟨y :: zs, by rw [g3, g2, List.append_assoc]; rfl, by rw [List.length_cons, g4]; rfl⟩
  ·cases h
theorem run_iff {tk : List Tk} : ∀ (l : List Ev) {s : RS}, okR s -> ((∃ r, runI tk s l = some r /\ r.2.2.2 = s.2.2.2 ++ l /\ r.2.2.1 = tk) ↔ ∃ r, runR tk s l = some r /\ r.2.2.1 = tk)
 | [], s, _ => ⟨fun ⟨r, h1, _, h3⟩ => ⟨r, h1, h3⟩, fun ⟨r, h1, h3⟩ => ⟨r, h1, by
   have h1 : some s = some r := h1
   injection h1 with h1; subst h1; rw [List.append_nil], h3⟩⟩
 | x :: l, s, hs => by
  obtain ⟨g1, -, g2, -⟩ := again_ok (x := x) (tk := tk) hs
  obtain ⟨q1, q2⟩ := again_iff (x := x) (tk := tk) hs
  have ih := run_iff (tk := tk) l g1
  constructor
  ·rintro ⟨r, h1, h2, h3⟩
   unfold runI at h1
   split at h1
   ·rename_i ha
    obtain ⟨y, g2⟩ := g2 ha
    obtain ⟨zs, e1, e2⟩ := run_events l g1 h1
    rw [g2, List.append_assoc, h2] at e1
    have e1 := List.append_cancel_left e1
    have e1 : x :: l = y :: zs := e1
    injection e1 with e3 e4
    subst e3; subst e4
    have hr := q1.1 ⟨ha, g2⟩
    obtain ⟨r', f1, f2⟩ := ih.1 ⟨r, h1, by rw [g2, List.append_assoc, h2]; rfl, h3⟩
    refine ⟨r', ?_, f2⟩
    unfold runR
    rw [if_pos hr, q2 hr]; exact f1
   ·cases h1
  ·rintro ⟨r, h1, h3⟩
   unfold runR at h1
   split at h1
   ·rename_i hr
    rw [q2 hr] at h1
    obtain ⟨ha, g2⟩ := q1.2 hr
    obtain ⟨r', f1, f2, f3⟩ := ih.2 ⟨r, h1, h3⟩
    refine ⟨r', ?_, ?_, f3⟩
    ·unfold runI
     rw [if_pos ha]; exact f1
    ·rw [f2, g2, List.append_assoc]; rfl
   ·cases h1
def properI (w : Int) (tk : List Tk) (l : List Ev) : Bool × Int :=
 if ¬ (0 <= w /\ w <= 1000) then (false, 7) else match runI tk (w, 0, [], []) l with
  | none => (false, 0)
  | some r => (decide (r.2.2.2 = l) && decide (r.2.2.1 = tk), 0)
def properR (w : Int) (tk : List Tk) (l : List Ev) : Bool × Int :=
 if ¬ (0 <= w /\ w <= 1000) then (false, 7) else match runR tk (w, 0, [], []) l with
  | none => (false, 0)
  | some r => (decide (r.2.2.1 = tk), 0)
theorem okR_start {w : Int} (h : 0 <= w /\ w <= 1000) : okR (w, 0, [], []) := ⟨h, ⟨Int.le_refl 0, by show (0 : Int) <= 36500; decide⟩, Nat.zero_le _, fun i t ht => by simp at ht⟩
theorem proper_eq (w : Int) (tk : List Tk) (l : List Ev) : properI w tk l = properR w tk l := by
 unfold properI properR
 split
 ·rfl
 rename_i hw
 have hi := run_iff (tk := tk) l (okR_start (Decidable.not_not.1 hw))
 refine Prod.ext ?_ ?_
 ·rw [Bool.eq_iff_iff]
  refine Iff.trans ?_ (hi.trans ?_)
  ·cases runI tk (w, 0, [], []) l with
   | none => exact ⟨fun c => (by cases c), fun ⟨r, c, _⟩ => (by cases c)⟩
   | some r =>
    show (decide (r.2.2.2 = l) && decide (r.2.2.1 = tk)) = true ↔ _
    rw [Bool.and_eq_true, decide_eq_true_eq, decide_eq_true_eq]
    exact ⟨fun ⟨a, b⟩ => ⟨r, rfl, a, b⟩, fun ⟨r', a, b, c⟩ => by injection a with a; subst a; exact ⟨b, c⟩⟩
  ·cases runR tk (w, 0, [], []) l with
   | none => exact ⟨fun ⟨r, c, _⟩ => (by cases c), fun c => (by cases c)⟩
   | some r =>
    show _ ↔ decide (r.2.2.1 = tk) = true
    rw [decide_eq_true_eq]
    exact ⟨fun ⟨r', a, c⟩ => by injection a with a; subst a; exact c, fun c => ⟨r, rfl, c⟩⟩
 ·cases runI tk (w, 0, [], []) l <;> cases runR tk (w, 0, [], []) l <;> rfl
end Go.P3
