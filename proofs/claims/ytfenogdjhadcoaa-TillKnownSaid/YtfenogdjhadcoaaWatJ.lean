/- Links: what joining brings about, and that the heads are determined. No conditions. -/
import Derived.Test.YtfenogdjhadcoaaWatL
set_option linter.all false
namespace Go.P8
theorem adj_symm {ls : List Lk} {i j : Int} (h : adj ls i j) : adj ls j i := h.symm
theorem Conn.trans {ls : List Lk} {i j k : Int} (h : Conn ls i j) (g : Conn ls j k) : Conn ls i k := by
 induction g with
 | refl => exact h
 | fw _ hm ih => exact .fw ih hm
 | bw _ hm ih => exact .bw ih hm
theorem Conn.symm {ls : List Lk} {i j : Int} (h : Conn ls i j) : Conn ls j i := by
 induction h with
 | refl => exact .refl _
 | fw _ hm ih => exact (Conn.bw (.refl _) hm).trans ih
 | bw _ hm ih => exact (Conn.fw (.refl _) hm).trans ih
theorem ok_in {ls : List Lk} (ho : ∀ x ∈ ls, okLink x = true) {a b : Int} (h : (a, b) ∈ ls) : inP a /\ inP b /\ a ≠ b := by
 have := ho _ h
 simp only [okLink, Bool.and_eq_true, decide_eq_true_eq] at this
 obtain ⟨⟨⟨h1, h2⟩, h3, h4⟩, h5⟩ := this
 exact ⟨⟨h1, by omega⟩, ⟨h3, by omega⟩, h5⟩
theorem adj_in {ls : List Lk} (ho : ∀ x ∈ ls, okLink x = true) {a b : Int} (h : adj ls a b) : inP a /\ inP b := h.elim (fun h => ⟨(ok_in ho h).1, (ok_in ho h).2.1⟩) (fun h => ⟨(ok_in ho h).2.1, (ok_in ho h).1⟩)
structure Ext (ls : List Lk) (o : List Int) (i h : Int) (o1 : List Int) : Prop where
 grew : Grew ls o i h o1
 closed : closedBut ls o o1 fun _ => False
 neg : neg o1 <= neg o
theorem Ext.mono {ls : List Lk} {o o1 : List Int} {i h k : Int} (e : Ext ls o i h o1) (hk : inP k) (h0 : 0 <= at' o k) : 0 <= at' o1 k := by rw [e.grew.old k hk h0]; exact h0
theorem Joined.ext {ls : List Lk} {o o1 : List Int} {i y h : Int} (j : Joined ls o y h o1) (hc : Conn ls i y) : Ext ls o i h o1 :=
 ⟨⟨j.grew.len, j.grew.old, fun k hk h0 => (j.grew.new k hk h0).imp id fun h => ⟨h.1, hc.trans h.2⟩⟩, j.closed, j.neg⟩
theorem Ext.refl {ls : List Lk} {o : List Int} (i h : Int) (hl : o.length = 24) : Ext ls o i h o :=
 ⟨⟨hl, fun _ _ _ => rfl, fun _ _ _ => .inl rfl⟩, fun k _ h0 h1 => absurd h1 (by omega), Nat.le_refl _⟩
theorem Ext.trans {ls : List Lk} {o o1 o2 : List Int} {i h : Int} (ho : ∀ x ∈ ls, okLink x = true) (a : Ext ls o i h o1) (b : Ext ls o1 i h o2) : Ext ls o i h o2 := by
 refine ⟨⟨b.grew.len, fun k hk h0 => ?_, fun k hk h0 => ?_⟩, fun k hk h0 h2 hp y hy => ?_, Nat.le_trans b.neg a.neg⟩
 ·rw [b.grew.old k hk (a.mono hk h0), a.grew.old k hk h0]
 ·rcases a.grew.new k hk h0 with e | ⟨e, c⟩
  ·rcases b.grew.new k hk (by omega) with e2 | e2
   ·exact .inl (by rw [e2, e])
   ·exact .inr e2
  ·by_cases h1 : 0 <= at' o1 k
   ·exact .inr ⟨by rw [b.grew.old k hk h1, e], c⟩
   ·rcases b.grew.new k hk (by omega) with e2 | e2
    ·exact .inr ⟨by rw [e2, e], c⟩
    ·exact .inr e2
 ·by_cases h1 : 0 <= at' o1 k
  ·exact b.mono (adj_in ho hy).2 (a.closed k hk h0 h1 hp y hy)
  ·exact b.closed k hk (by omega) h2 hp y hy
structure TopInv (ls : List Lk) (o : List Int) (n : Int) : Prop where
 len : o.length = 24
 col : ∀ k, inP k -> at' o k < 0 \/ (0 <= at' o k /\ at' o k < n /\ at' o k <= k /\ Conn ls (at' o k) k /\ at' o (at' o k) = at' o k)
 closed : ∀ k, inP k -> 0 <= at' o k -> ∀ y, adj ls k y -> at' o y = at' o k
 done : ∀ k, inP k -> k < n -> 0 <= at' o k
theorem TopInv.conn {ls : List Lk} {o : List Int} {n a k : Int} (ho : ∀ x ∈ ls, okLink x = true) (t : TopInv ls o n) (ha : inP a) (h0 : 0 <= at' o a) (h : Conn ls a k) : inP k /\ at' o k = at' o a := by
 induction h with
 | refl => exact ⟨ha, rfl⟩
 | fw _ hm ih => exact ⟨(ok_in ho hm).2.1, (t.closed _ ih.1 (by rw [ih.2]; exact h0) _ (.inl hm)).trans ih.2⟩
 | bw _ hm ih => exact ⟨(ok_in ho hm).1, (t.closed _ ih.1 (by rw [ih.2]; exact h0) _ (.inr hm)).trans ih.2⟩
theorem TopInv.step {ls : List Lk} {o o1 : List Int} {n : Int} (ho : ∀ x ∈ ls, okLink x = true) (t : TopInv ls o n) (hn : inP n) (j : Joined ls o n n o1) : TopInv ls o1 (n + 1) := by
 have fresh : ∀ k, inP k -> at' o k < 0 -> 0 <= at' o1 k -> at' o1 k = n /\ Conn ls n k /\ at' o n < 0 := fun k hk h0 h1 => by
  rcases j.grew.new k hk h0 with e | ⟨e, c⟩
  ·omega
  ·refine ⟨e, c, ?_⟩
   rcases Int.lt_or_le (at' o n) 0 with h | h
   ·exact h
   ·have := (t.conn ho hn h c).2; omega
 refine ⟨j.grew.len, fun k hk => ?_, fun k hk h1 y hy => ?_, fun k hk hlt => ?_⟩
 ·by_cases h0 : 0 <= at' o k
  ·right
   rw [j.grew.old k hk h0]
   rcases t.col k hk with h | ⟨c1, c2, c3, c4, c5⟩
   ·omega
   ·refine ⟨c1, by omega, c3, c4, ?_⟩
    rw [j.grew.old _ ⟨c1, by have := hk.2; omega⟩ (by rw [c5]; exact c1)]; exact c5
  ·by_cases h1 : 0 <= at' o1 k
   ·obtain ⟨e, c, hf⟩ := fresh k hk (by omega) h1
    right
    have hk2 : n <= k := by
     rcases Int.lt_or_le k n with h | h
     ·have := t.done k hk h; omega
     ·exact h
    have hs := fresh n hn hf j.self
    rw [e]
    exact ⟨hn.1, by omega, hk2, c, hs.1⟩
   ·left; omega
 ·by_cases h0 : 0 <= at' o k
  ·have := t.closed k hk h0 y hy
   rw [j.grew.old k hk h0, j.grew.old y (adj_in ho hy).2 (by rw [this]; exact h0), this]
  ·obtain ⟨e, c, hf⟩ := fresh k hk (by omega) h1
   have hy1 := j.closed k hk (by omega) h1 (fun h => h) y hy
   rcases Int.lt_or_le (at' o y) 0 with h | h
   ·rw [e, (fresh y (adj_in ho hy).2 h hy1).1]
   ·have := t.closed y (adj_in ho hy).2 h k (adj_symm hy); omega
 ·by_cases h0 : 0 <= at' o k
  ·rw [j.grew.old k hk h0]; exact h0
  ·rcases Int.lt_or_le k n with h | h
   ·exact absurd (t.done k hk h) h0
   ·have : k = n := by omega
    subst this; exact j.self
theorem TopInv.heads {ls : List Lk} {o : List Int} (ho : ∀ x ∈ ls, okLink x = true) (t : TopInv ls o 24) : HeadsOk ls o := by
 have hc : ∀ k, inP k -> 0 <= at' o k /\ at' o k < 24 /\ at' o k <= k /\ Conn ls (at' o k) k /\ at' o (at' o k) = at' o k := fun k hk => by
  rcases t.col k hk with h | h
  ·have := t.done k hk hk.2; omega
  ·exact h
 refine ⟨t.len, fun k hk => ⟨(hc k hk).1, (hc k hk).2.2.1⟩, fun a b hm => ?_, fun k hk => (hc k hk).2.2.2.1, fun k hk => (hc k hk).2.2.2.2⟩
 have ha := (ok_in ho hm).1
 exact (t.closed a ha (hc a ha).1 b (.inl hm)).symm
theorem HeadsOk.const {ls : List Lk} {h : List Int} (o : HeadsOk ls h) {a k : Int} (c : Conn ls a k) : at' h a = at' h k := by
 induction c with
 | refl => rfl
 | fw _ hm ih => exact ih.trans (o.lk _ _ hm)
 | bw _ hm ih => exact ih.trans (o.lk _ _ hm).symm
end Go.P8
