/- TicketProper: the same events again: plain laws. No conditions. -/
import Derived.Test.YtcpdcpfbgmiaoaaDoorRollM
set_option linter.all false
namespace Go.P3
open Go.Lom Go.Proofs Go
def newsI (s : RS) (x : Ev) (tk : List Tk) : List Tk := (tk.drop s.2.2.1.length).take x.2.2.2.2.toNat
def namesI (s : RS) (x : Ev) (tk : List Tk) : List Tx := (newsI s x tk).map (·.2.1)
def edgesI (s : RS) (x : Ev) (tk : List Tk) : List (List Int) := (newsI s x tk).map (·.2.2.2.1)
def againX (s : RS) (x : Ev) (tk : List Tk) : Bool := decide (x.2.2.2.2 < 0 \/ x.2.2.2.2 > 4 \/ (s.2.2.1.length : Int) + x.2.2.2.2 > tk.length)
def hasN (s : RS) (x : Ev) : Bool := decide (1 <= x.2.2.1 /\ x.2.2.1 <= s.2.2.1.length)
def codeR (s : RS) (x : Ev) : Tx := if hasN s x = true then codeS x.2.2.1 else []
def halfR (s : RS) (x : Ev) : List Int := if hasN s x = true then (tkI s.2.2.1 x.2.2.1).2.2.2.1 else []
def stepA (s : RS) (x : Ev) (tk : List Tk) : RS × List Tx × Tx × Int := doC x.1 s (codeR s x) (halfR s x) (namesI s x tk) (edgesI s x tk) x.2.1
def oddB (x : Ev) : Bool := decide (¬ (1 <= x.1 /\ x.1 <= 7) \/ (x.1 = 1 \/ x.1 = 4) /\ x.2.2.2.2 ≠ 1)
def againI (s : RS) (x : Ev) (tk : List Tk) : RS × Bool :=
 if againX s x tk = true \/ oddB x = true \/ x.1 ≠ 1 /\ hasN s x = false then (s, false) else ((stepA s x tk).1, decide ((stepA s x tk).2.2.2 = 0))
def lastE (s : RS) : Ev := s.2.2.2.getD ((s.2.2.2.length : Int) - 1).toNat (0, 0, 0, 0, 0)
def againR (s : RS) (x : Ev) (tk : List Tk) : RS × Bool :=
 if againX s x tk = true \/ oddB x = true then (s, false) else ((stepA s x tk).1, decide ((stepA s x tk).2.2.2 = 0) && decide (lastE (stepA s x tk).1 = x))
def runI (tk : List Tk) : RS -> List Ev -> Option RS
 | s, [] => some s
 | s, x :: l => if (againI s x tk).2 = true then runI tk (againI s x tk).1 l else none
section
variable {s : RS} {c p : Tx} {d k : Int} {g : List Int} {ps : List Tx} {eds : List (List Int)}
theorem doC_leaves (h : okR s) (hk : 1 <= k /\ k <= 7) : Leaves s (doC k s c g ps eds d).1 k d (doC k s c g ps eds d).2.2.2 := by
 rcases kind7' k hk.1 hk.2 with rfl | rfl | rfl | rfl | rfl | rfl | rfl
 ·exact issue_leaves h
 ·exact block_leaves h
 ·exact free_leaves h
 ·exact replace_leaves h
 ·exact divide_leaves h
 ·exact redeem_leaves h
 ·exact forfeit_leaves h
end
theorem odd_kind {x : Ev} (h : oddB x = false) : 1 <= x.1 /\ x.1 <= 7 := by
 unfold oddB at h
 have := of_decide_eq_false h
 exact Decidable.not_not.1 fun c => this (.inl c)
theorem step_leaves {s : RS} {x : Ev} {tk : List Tk} (h : okR s) (ho : oddB x = false) : Leaves s (stepA s x tk).1 x.1 x.2.1 (stepA s x tk).2.2.2 := doC_leaves h (odd_kind ho)
theorem again_ok {s : RS} {x : Ev} {tk : List Tk} (h : okR s) : okR (againI s x tk).1 /\ (againI s x tk).1.1 = s.1 /\ ((againI s x tk).2 = true -> ∃ y : Ev, (againI s x tk).1.2.2.2 = s.2.2.2 ++ [y]) /\ (againI s x tk).1.2.2.2.length <= s.2.2.2.length + 1 := by
 unfold againI
 split
 ·exact ⟨h, rfl, fun c => (by cases c), Nat.le_succ _⟩
 ·rename_i hc
  have ho : oddB x = false := by simpa using fun c => hc (.inr (.inl c))
  have hl := step_leaves (tk := tk) h ho
  refine ⟨hl.ok, hl.wait, fun e => ?_, ?_⟩
  ·obtain ⟨n, la, ma, e1, -⟩ := hl.note (of_decide_eq_true e)
   exact ⟨_, e1⟩
  ·by_cases he : (stepA s x tk).2.2.2 = 0
   ·obtain ⟨n, la, ma, e1, -⟩ := hl.note he
    show (stepA s x tk).1.2.2.2.length <= _
    rw [e1, List.length_append]; exact Nat.le_refl _
   ·show (stepA s x tk).1.2.2.2.length <= _
    rw [hl.same he]; omega
theorem run_events {tk : List Tk} : ∀ (l : List Ev) {s r : RS}, okR s -> runI tk s l = some r -> ∃ zs, r.2.2.2 = s.2.2.2 ++ zs /\ zs.length = l.length
 | [], s, r, _, h => by
  have h : some s = some r := h
  injection h with h; subst h
  exact ⟨[], by rw [List.append_nil], rfl⟩
 | x :: l, s, r, hs, h => by
  unfold runI at h
  split at h
  ·rename_i ha
   obtain ⟨g1, -, g2, -⟩ := again_ok (x := x) (tk := tk) hs
   obtain ⟨y, g2⟩ := g2 ha
   obtain ⟨zs, g3, g4⟩ := run_events l g1 h
   exact ⟨y :: zs, by rw [g3, g2, List.append_assoc]; rfl, by rw [List.length_cons, g4]; rfl⟩
  ·cases h
def properI (w : Int) (tk : List Tk) (l : List Ev) : Bool × Int :=
 if ¬ (0 <= w /\ w <= 1000) then (false, 7) else match runI tk (w, 0, [], []) l with
  | none => (false, 0)
  | some r => (decide (r.2.2.2 = l) && decide (r.2.2.1 = tk), 0)
theorem okR_start {w : Int} (h : 0 <= w /\ w <= 1000) : okR (w, 0, [], []) := ⟨h, ⟨Int.le_refl 0, by show (0 : Int) <= 36500; decide⟩, Nat.zero_le _, fun i t ht => by simp at ht⟩
end Go.P3
