/- Turns: walks: plain. No conditions. -/
import Derived.Test.YtfbbpilflbpifaaKeepP
import Derived.Test.YtfbbpilflbpifaaCheapS
set_option linter.constructorNameAsVariable false
set_option linter.unusedVariables false
set_option linter.unusedSimpArgs false
set_option maxRecDepth 100000
namespace Go.P10
open Go.Lom Go.Proofs Go
def walkS (ps : List Int) : Ag → List Int → Option Ag
  | a, [] => some a
  | a, r :: ts => match nextR ps a r.toNat with
    | some b => walkS ps b ts
    | none => none
theorem walk_some {ps : List Int} : ∀ {ts : List Int} {a : Ag}, walkB ps a ts = true ↔ ∃ b, walkS ps a ts = some b
  | [], a => ⟨fun _ => ⟨a, rfl⟩, fun _ => rfl⟩
  | r :: ts, a => by
    rw [walkB, walkS]
    cases h : nextR ps a r.toNat with
    | none => exact ⟨fun h => (by cases h), fun ⟨b, h⟩ => (by cases h)⟩
    | some b => exact walk_some
theorem walk_app {ps : List Int} : ∀ {u v : List Int} {a : Ag}, walkS ps a (u ++ v) = (walkS ps a u).bind fun b => walkS ps b v
  | [], v, a => rfl
  | r :: u, v, a => by
    rw [List.cons_append, walkS, walkS]
    cases h : nextR ps a r.toNat with
    | none => rfl
    | some b => exact walk_app
def inRooms (ps ts : List Int) : Prop := ∀ x ∈ ts, 0 ≤ x ∧ x < ps.length
theorem in_suc {ps : List Int} {a b : Ag} {r : Int} (h0 : 0 ≤ r) (h1 : r < ps.length) (h : nextR ps a r.toNat = some b) : b ∈ sucL ps a 0 := sucL_mem.2 ⟨r.toNat, Nat.zero_le _, by omega, h⟩
theorem walk_alive {ps : List Int} : ∀ {w : List Int} {a b : Ag} {n : Nat}, inRooms ps w → walkS ps a w = some b → aliveB ps n b = true → aliveB ps (w.length + n) a = true
  | [], a, b, n, _, h, hn => by
    injection h with h
    rw [List.length_nil, Nat.zero_add, h]; exact hn
  | r :: w, a, b, n, hr, h, hn => by
    rw [walkS] at h
    cases hx : nextR ps a r.toNat with
    | none => rw [hx] at h; cases h
    | some c =>
      rw [hx] at h
      have hrr := hr r List.mem_cons_self
      have := walk_alive (fun x hx => hr x (List.mem_cons_of_mem _ hx)) h hn
      rw [List.length_cons, Nat.add_right_comm]
      exact List.any_eq_true.2 ⟨c, in_suc hrr.1 hrr.2 hx, this⟩
theorem walk_ever {ps : List Int} {w : List Int} {a b : Ag} (hr : inRooms ps w) (h : walkS ps a w = some b) (he : Ever ps b) : Ever ps a := fun n => alive_le (Nat.le_add_left n w.length) (walk_alive hr h (he n))
theorem walk_valid {ps : List Int} (hp : okPs ps) : ∀ {w : List Int} {a b : Ag}, validA ps a → walkS ps a w = some b → validA ps b
  | [], a, b, ha, h => by injection h with h; rw [← h]; exact ha
  | r :: w, a, b, ha, h => by
    rw [walkS] at h
    cases hx : nextR ps a r.toNat with
    | none => rw [hx] at h; cases h
    | some c =>
      rw [hx] at h
      exact walk_valid hp (nextR_valid hp ha hx) h
theorem gr_len {ps : List Int} {n : Nat} {a : Ag} {l : List Int} (h : Gr ps n a l) : l.length = n := by
  induction h with
  | nil => rfl
  | cons _ _ ih => rw [List.length_cons, ih]
def nearA (ps : List Int) (m : Int) (a b : Ag) : Prop := ∀ k : Nat, k < ps.length → (ofA a).getD k 0 = (ofA b).getD k 0 ∨ (m ≤ (ofA a).getD k 0 ∧ m ≤ (ofA b).getD k 0)
theorem near_walk {ps : List Int} (hp : ps.length ≤ 5) : ∀ {u : List Int} {a b c d : Ag} {m : Int}, 0 ≤ m → nearA ps m a b → walkS ps a u = some c → walkS ps b u = some d → nearA ps (m + u.length) c d
  | [], a, b, c, d, m, _, h, h1, h2 => by
    injection h1 with h1
    injection h2 with h2
    rw [← h1, ← h2, List.length_nil]
    simpa using h
  | r :: u, a, b, c, d, m, hm, h, h1, h2 => by
    rw [walkS] at h1 h2
    cases x1 : nextR ps a r.toNat with
    | none => rw [x1] at h1; cases h1
    | some a' =>
      cases x2 : nextR ps b r.toNat with
      | none => rw [x2] at h2; cases h2
      | some b' =>
        rw [x1] at h1
        rw [x2] at h2
        have hn : nearA ps (m + 1) a' b' := fun k hk => by
          obtain ⟨_, g1⟩ := (nextR_iff hp).1 x1
          obtain ⟨_, g2⟩ := (nextR_iff hp).1 x2
          have g1 := g1 k (by omega)
          have g2 := g2 k (by omega)
          rw [if_pos hk] at g1 g2
          unfold stepI at g1 g2
          have := h k hk
          split at g1
          · rename_i e
            rw [if_pos e] at g2
            left; omega
          · rename_i e
            rw [if_neg e] at g2
            rcases this with h | ⟨h, h'⟩
            · left; omega
            · right; exact ⟨by omega, by omega⟩
        have := near_walk hp (by omega) hn h1 h2
        rw [List.length_cons]
        rw [show m + ((u.length + 1 : Nat) : Int) = m + 1 + (u.length : Int) by omega]
        exact this
theorem same_after {ps : List Int} (hp : okPs ps) {u : List Int} {a b c d : Ag} (ha : validA ps a) (hb : validA ps b) (hu : u.length = 8) (h1 : walkS ps a u = some c) (h2 : walkS ps b u = some d) : c = d := by
  have v1 := walk_valid hp ha h1
  have v2 := walk_valid hp hb h2
  have b1 := valid_bd hp v1
  have b2 := valid_bd hp v2
  have hn := near_walk hp.1.2 (Int.le_refl 0) (fun k hk => .inr ⟨(ha k (by have := hp.1.2; omega)).1, (hb k (by have := hp.1.2; omega)).1⟩) h1 h2
  refine ofA_inj fun k hk => ?_
  by_cases h : k < ps.length
  · rcases hn k h with g | ⟨g, _⟩
    · exact g
    · have := b1 k hk; omega
  · have w1 := v1 k hk
    have w2 := v2 k hk
    have e : ps.getD k 1 = 1 := by rw [List.getD_eq_getElem?_getD, List.getElem?_eq_none (by omega)]; rfl
    omega
def cyc (ts : List Int) (n : Nat) : List Int := (List.range n).map fun i => ts.getD (i % ts.length) 0
theorem cyc_len (ts : List Int) (n : Nat) : (cyc ts n).length = n := by simp [cyc]
theorem cyc_pre (ts : List Int) (m n : Nat) : cyc ts (m + n) = cyc ts m ++ (cyc ts (m + n)).drop m := by
  have : cyc ts m = (cyc ts (m + n)).take m := by
    unfold cyc
    rw [← List.map_take, List.take_range, Nat.min_eq_left (by omega)]
  rw [this]; exact (List.take_append_drop ..).symm
theorem cyc_self (ts : List Int) : cyc ts ts.length = ts := by
  have e : cyc ts ts.length = (List.range ts.length).map fun i => ts.getD i 0 := by
    unfold cyc
    exact List.map_congr_left fun i hi => by rw [Nat.mod_eq_of_lt (List.mem_range.1 hi)]
  rw [e]
  refine List.ext_getElem (by simp) fun i h1 h2 => ?_
  simp [List.getD_eq_getElem?_getD, List.getElem?_eq_getElem h2]
theorem cyc_round (ts : List Int) (n : Nat) : cyc ts (ts.length + n) = ts ++ cyc ts n := by
  have h := cyc_self ts
  unfold cyc at h ⊢
  have e : List.range (ts.length + n) = List.range ts.length ++ (List.range n).map fun i => ts.length + i := List.range_add ..
  rw [e, List.map_append, h, List.map_map]
  congr 1
  refine List.map_congr_left fun i _ => ?_
  show ts.getD ((ts.length + i) % ts.length) 0 = _
  rw [Nat.add_mod_left]
theorem cyc_rooms {ps ts : List Int} {n m : Nat} (h : inRooms ps (cyc ts (n + m))) : inRooms ps (cyc ts n) := fun x hx => h x (by rw [cyc_pre]; exact List.mem_append_left _ hx)
def goodW (ps : List Int) : Ag → List Int → Prop
  | _, [] => True
  | a, r :: w => ∃ b, nextR ps a r.toNat = some b ∧ Ever ps b ∧ goodW ps b w
theorem good_of {ps : List Int} : ∀ {w u : List Int} {a t : Ag}, inRooms ps (w ++ u) → walkS ps a (w ++ u) = some t → Ever ps t → goodW ps a w
  | [], u, a, t, _, _, _ => trivial
  | r :: w, u, a, t, hr, h, he => by
    rw [List.cons_append, walkS] at h
    cases hx : nextR ps a r.toNat with
    | none => rw [hx] at h; cases h
    | some b =>
      rw [hx] at h
      have hr' : inRooms ps (w ++ u) := fun x hx => hr x (List.mem_cons_of_mem _ hx)
      exact ⟨b, hx, walk_ever hr' h he, good_of hr' h he⟩
theorem first_ahead {ps : List Int} : ∀ {w : List Int} {a : Ag} {x : List Int}, inRooms ps w → goodW ps a w → Gr ps w.length a x → aheadI w x = false
  | [], a, x, _, _, hg => by cases hg; rfl
  | r :: w, a, x, hr, hw, hg => by
    obtain ⟨b, hb, he, hw⟩ := hw
    rw [List.length_cons] at hg
    cases hg with
    | @cons _ _ c s l h hl =>
      have hrr := hr r List.mem_cons_self
      rw [aheadI]
      by_cases e : r = (s : Int)
      · subst e
        rw [if_pos rfl]
        rw [Int.toNat_natCast, h.nx] at hb
        injection hb with hb
        subst hb
        exact first_ahead (fun x hx => hr x (List.mem_cons_of_mem _ hx)) hw hl
      · rw [if_neg e]
        refine decide_eq_false fun hlt => ?_
        exact h.fst r.toNat (by omega) ⟨b, hb, he⟩
theorem around {ps ts : List Int} (hp : okPs ps) (h1 : 1 ≤ ts.length) (h2 : ts.length ≤ 16) (hr : inRooms ps (cyc ts 64)) (hw : walkB ps zA (cyc ts 64) = true) : Ever ps zA ∧ ∀ x, Gr ps ts.length zA x → aheadI ts x = false := by
  obtain ⟨z, hz⟩ := walk_some.1 hw
  have hz0 := valid_zero hp
  obtain ⟨d, hd⟩ : ∃ d, 64 = ts.length + 8 + d := ⟨56 - ts.length, by omega⟩
  rw [hd] at hr hz
  have hr1 := cyc_rooms hr
  rw [cyc_pre, walk_app] at hz
  cases hA : walkS ps zA (cyc ts (ts.length + 8)) with
  | none => rw [hA] at hz; cases hz
  | some t =>
    have hA1 := hA
    rw [cyc_round, walk_app] at hA1
    have hA2 := hA
    rw [Nat.add_comm, cyc_pre, walk_app] at hA2
    cases hB : walkS ps zA (cyc ts 8) with
    | none => rw [hB] at hA2; cases hA2
    | some s =>
      rw [hB] at hA2
      have hA2 : walkS ps s ((cyc ts (8 + ts.length)).drop 8) = some t := hA2
      cases hC : walkS ps zA ts with
      | none => rw [hC] at hA1; cases hA1
      | some c =>
        rw [hC] at hA1
        have hA1 : walkS ps c (cyc ts 8) = some t := hA1
        have hc := walk_valid hp hz0 hC
        have e := same_after hp hz0 hc (cyc_len ts 8) hB hA1
        subst e
        have hv : inRooms ps ((cyc ts (8 + ts.length)).drop 8) := fun x hx => hr1 x (by rw [Nat.add_comm]; exact List.mem_of_mem_drop hx)
        have hvl : ((cyc ts (8 + ts.length)).drop 8).length = ts.length := by rw [List.length_drop, cyc_len]; omega
        have hev : ∀ n, aliveB ps n s = true := by
          have : ∀ k : Nat, aliveB ps (k * ts.length) s = true := by
            intro k
            induction k with
            | zero => rw [Nat.zero_mul]; rfl
            | succ k ih =>
              have := walk_alive hv hA2 ih
              rw [hvl] at this
              rw [Nat.add_mul, Nat.one_mul, Nat.add_comm]; exact this
          intro n
          refine alive_le ?_ (this n)
          calc n = n * 1 := (Nat.mul_one n).symm
            _ ≤ n * ts.length := Nat.mul_le_mul_left n h1
        have hts : inRooms ps ts := by
          have := cyc_rooms hr1
          rw [cyc_self] at this; exact this
        refine ⟨walk_ever hr1 hA hev, fun x hx => ?_⟩
        refine first_ahead hts (good_of (u := cyc ts 8) (t := s) ?_ ?_ hev) hx
        · rw [← cyc_round]; exact hr1
        · rw [← cyc_round]; exact hA
end Go.P10
