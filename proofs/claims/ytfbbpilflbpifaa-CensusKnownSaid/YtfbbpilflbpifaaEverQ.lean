/- Turns: for how many days one can go on: plain. No conditions. -/
import Derived.Test.YtfbbpilflbpifaaEverP
set_option linter.constructorNameAsVariable false
set_option linter.unusedVariables false
set_option linter.unusedSimpArgs false
set_option maxRecDepth 100000
namespace Go.P10
open Go.Lom Go.Proofs Go
def aliveB (ps : List Int) : Nat → Ag → Bool
  | 0, _ => true
  | n + 1, a => (sucL ps a 0).any (aliveB ps n)
def Ever (ps : List Int) (a : Ag) : Prop := ∀ n, aliveB ps n a = true
abbrev zA : Ag := (0, 0, 0, 0, 0)
inductive Reach (ps : List Int) : Ag → Prop
  | zero : Reach ps zA
  | next {a b : Ag} (h : Reach ps a) (hb : b ∈ sucL ps a 0) : Reach ps b
theorem alive_mono {ps : List Int} : ∀ {n : Nat} {a : Ag}, aliveB ps (n + 1) a = true → aliveB ps n a = true
  | 0, a, _ => rfl
  | n + 1, a, h => by
    obtain ⟨b, hb, h⟩ := List.any_eq_true.1 h
    exact List.any_eq_true.2 ⟨b, hb, alive_mono h⟩
theorem alive_le {ps : List Int} {m n : Nat} {a : Ag} (h : m ≤ n) (hn : aliveB ps n a = true) : aliveB ps m a = true := by
  obtain ⟨k, rfl⟩ := Nat.exists_eq_add_of_le h
  clear h
  induction k with
  | zero => exact hn
  | succ k ih => exact ih (alive_mono hn)
theorem ever_next {ps : List Int} {a : Ag} (h : Ever ps a) : ∃ b ∈ sucL ps a 0, Ever ps b := by
  refine Classical.byContradiction fun hn => ?_
  have key : ∀ l : List Ag, (∀ b ∈ l, ¬ Ever ps b) → ∃ n, ∀ b ∈ l, aliveB ps n b = false := by
    intro l
    induction l with
    | nil => intro _; exact ⟨0, fun b hb => by cases hb⟩
    | cons b l ih =>
      intro hl
      obtain ⟨n, hn⟩ := ih fun c hc => hl c (List.mem_cons_of_mem _ hc)
      have hb := hl b (List.mem_cons_self ..)
      obtain ⟨m, hm⟩ := Classical.not_forall.1 hb
      refine ⟨max n m, fun c hc => ?_⟩
      have dead : ∀ {k x}, aliveB ps k x = false → k ≤ max n m → aliveB ps (max n m) x = false := fun hk hle => by
        rw [Bool.eq_false_iff]; intro h2
        rw [alive_le hle h2] at hk; cases hk
      rcases List.mem_cons.1 hc with rfl | hc
      · exact dead (Bool.eq_false_iff.2 hm) (by omega)
      · exact dead (hn c hc) (by omega)
  obtain ⟨n, h2⟩ := key (sucL ps a 0) fun b hb he => hn ⟨b, hb, he⟩
  obtain ⟨b, hb, h3⟩ := List.any_eq_true.1 (h (n + 1))
  rw [h2 b hb] at h3; cases h3
theorem ever_set {ps : List Int} {l : List Ag} (h : ∀ a ∈ l, ∃ b ∈ l, b ∈ sucL ps a 0) : ∀ a ∈ l, Ever ps a := by
  have : ∀ n, ∀ a ∈ l, aliveB ps n a = true := by
    intro n
    induction n with
    | zero => intro a _; rfl
    | succ n ih =>
      intro a ha
      obtain ⟨b, hb, hs⟩ := h a ha
      exact List.any_eq_true.2 ⟨b, hs, ih b hb⟩
  exact fun a ha n => this n a ha
theorem fold_le {f : Ag → Int} : ∀ (l : List Ag) (m k : Int), k ≤ l.foldl (fun m b => max m (f b + 1)) m ↔ k ≤ m ∨ ∃ b ∈ l, k ≤ f b + 1
  | [], m, k => by simp
  | b :: l, m, k => by
    rw [List.foldl_cons, fold_le l _ k]
    constructor
    · rintro (h | ⟨c, hc, h⟩)
      · by_cases e : k ≤ m
        · exact .inl e
        · exact .inr ⟨b, List.mem_cons_self .., by omega⟩
      · exact .inr ⟨c, List.mem_cons_of_mem _ hc, h⟩
    · rintro (h | ⟨c, hc, h⟩)
      · exact .inl (by omega)
      · rcases List.mem_cons.1 hc with rfl | hc
        · exact .inl (by omega)
        · exact .inr ⟨c, hc, h⟩
theorem rk_alive {ps : List Int} {nl : NL} (hn : ∀ e ∈ nl, e.2 = sucL ps e.1 0) {a : Ag} {v : Int} (h : Rk nl a v) : 0 ≤ v ∧ ∀ n : Nat, aliveB ps n a = true ↔ (n : Int) ≤ v := by
  induction h with
  | mk f hm hs ih =>
    rename_i a ss
    have hss : ss = sucL ps a 0 := hn _ hm
    refine ⟨(fold_le ss 0 0).2 (.inl (Int.le_refl 0)), fun n => ?_⟩
    rw [fold_le]
    cases n with
    | zero => exact ⟨fun _ => .inl (by omega), fun _ => rfl⟩
    | succ n =>
      show (sucL ps a 0).any (aliveB ps n) = true ↔ _
      rw [List.any_eq_true, ← hss]
      constructor
      · rintro ⟨b, hb, h⟩
        exact .inr ⟨b, hb, by have := ((ih b hb).2 n).1 h; omega⟩
      · rintro (h | ⟨b, hb, h⟩)
        · omega
        · exact ⟨b, hb, ((ih b hb).2 n).2 (by omega)⟩
theorem reach_key {ps : List Int} {nl : NL} (h : FinN ps nl) {a : Ag} (hr : Reach ps a) : a ∈ keysN nl := by
  induction hr with
  | zero => exact h.z
  | next hr hb ih =>
    obtain ⟨e, he, rfl⟩ := List.mem_map.1 ih
    refine h.cl e he _ ?_
    rw [(h.n.ok e he).2]; exact hb
def EvV (ps : List Int) (kl : KL) : Prop := ∀ a, Reach ps a → ∃ v, tmGet P5 kl a = some v ∧ (v < 0 ↔ Ever ps a) ∧ (0 ≤ v → ∀ n : Nat, aliveB ps n a = true ↔ (n : Int) ≤ v)
theorem evR_V {ps : List Int} {kl : KL} (h : EvR ps kl) : EvV ps kl := by
  obtain ⟨nl, k0, hf, hx, hr⟩ := h
  intro a ha
  have hk := reach_key hf ha
  have hsuc : ∀ e ∈ nl, e.2 = sucL ps e.1 0 := fun e he => (hf.n.ok e he).2
  by_cases h0 : a ∈ keysN k0
  · obtain ⟨e, he, rfl⟩ := List.mem_map.1 h0
    have hg := get_of_mem hx.k.nd (show (e.1, e.2) ∈ k0 from he)
    obtain ⟨h1, h2⟩ := rk_alive hsuc (hx.k.rk e he)
    have h1 : (0 : Int) ≤ e.2 := h1
    refine ⟨e.2, hr.old _ _ hg, ⟨fun hneg => ?_, fun hev => ?_⟩, fun _ => h2⟩
    · exfalso; have hneg : e.2 < (0 : Int) := hneg; omega
    · have := (h2 (e.2.toNat + 1)).1 (hev _)
      exfalso
      have : ((Int.toNat e.2 + 1 : Nat) : Int) ≤ e.2 := this
      omega
  · obtain ⟨e, he, rfl⟩ := List.mem_map.1 hk
    refine ⟨-1, hr.new e he (get_none.2 h0), ⟨fun _ => ?_, fun _ => by decide⟩, fun h => absurd h (by decide)⟩
    have all : ∀ n, ∀ b, b ∈ keysN nl → b ∉ keysN k0 → aliveB ps n b = true := by
      intro n
      induction n with
      | zero => intro b _ _; rfl
      | succ n ih =>
        intro b hb hb0
        obtain ⟨e, he, rfl⟩ := List.mem_map.1 hb
        obtain ⟨c, hc, hc0⟩ := hx.o e he (hasK_no.2 hb0)
        refine List.any_eq_true.2 ⟨c, ?_, ih c (hf.cl e he c hc) (hasK_no.1 hc0)⟩
        rw [← hsuc e he]; exact hc
    exact fun n => all n _ hk h0
def goodR (ps : List Int) (a : Ag) (r : Nat) : Prop := ∃ b, nextR ps a r = some b ∧ Ever ps b
structure Gr1 (ps : List Int) (a : Ag) (r : Nat) (b : Ag) : Prop where
  lt : r < ps.length
  nx : nextR ps a r = some b
  ev : Ever ps b
  fst : ∀ k, k < r → ¬ goodR ps a k
inductive Gr (ps : List Int) : Nat → Ag → List Int → Prop
  | nil (a : Ag) : Gr ps 0 a []
  | cons {n : Nat} {a b : Ag} {r : Nat} {l : List Int} (h : Gr1 ps a r b) (hl : Gr ps n b l) : Gr ps (n + 1) a ((r : Int) :: l)
theorem gr1_uniq {ps : List Int} {a b c : Ag} {r s : Nat} (h : Gr1 ps a r b) (k : Gr1 ps a s c) : r = s ∧ b = c := by
  have e : r = s := by
    rcases Nat.lt_trichotomy r s with h1 | h1 | h1
    · exact absurd ⟨b, h.nx, h.ev⟩ (k.fst r h1)
    · exact h1
    · exact absurd ⟨c, k.nx, k.ev⟩ (h.fst s h1)
  subst e
  have := h.nx.symm.trans k.nx
  injection this with this
  exact ⟨rfl, this⟩
theorem gr_uniq {ps : List Int} {n : Nat} {a : Ag} {l m : List Int} (h : Gr ps n a l) (k : Gr ps n a m) : l = m := by
  induction h generalizing m with
  | nil a => cases k; rfl
  | cons h hl ih =>
    cases k with
    | cons k kl =>
      obtain ⟨e1, e2⟩ := gr1_uniq h k
      subst e1 e2
      rw [ih kl]
theorem ever_room {ps : List Int} {a : Ag} (h : Ever ps a) : ∃ r b, Gr1 ps a r b := by
  obtain ⟨b, hb, he⟩ := ever_next h
  obtain ⟨r, _, hr, hx⟩ := sucL_mem.1 hb
  have key : ∀ n r, r ≤ n → r < ps.length → goodR ps a r → ∃ r b, Gr1 ps a r b := by
    intro n
    induction n with
    | zero =>
      intro r hr hlt hg
      obtain ⟨b, h1, h2⟩ := hg
      exact ⟨r, b, hlt, h1, h2, fun k hk => by omega⟩
    | succ n ih =>
      intro r hr hlt hg
      by_cases hx : ∃ k, k < r ∧ goodR ps a k
      · obtain ⟨k, hk, hg⟩ := hx
        exact ih k (by omega) (by omega) hg
      · obtain ⟨b, h1, h2⟩ := hg
        exact ⟨r, b, hlt, h1, h2, fun k hk hg => hx ⟨k, hk, hg⟩⟩
  exact key r r (Nat.le_refl r) hr ⟨b, hx, he⟩
def TurnsR (ps : List Int) (days : Int) (l : List Int) (e : Int) : Prop :=
  (¬ okPs ps ∧ l = [] ∧ e = 105) ∨ (okPs ps ∧ ¬ (0 ≤ days ∧ days ≤ 64) ∧ l = [] ∧ e = 7) ∨ (okPs ps ∧ (0 ≤ days ∧ days ≤ 64) ∧ ¬ Ever ps zA ∧ l = [] ∧ e = 4) ∨ (okPs ps ∧ (0 ≤ days ∧ days ≤ 64) ∧ Ever ps zA ∧ Gr ps days.toNat zA l ∧ e = 0)
def LastsR (ps : List Int) (n e : Int) : Prop :=
  (¬ okPs ps ∧ n = 0 ∧ e = 105) ∨ (okPs ps ∧ Ever ps zA ∧ n = 0 ∧ e = 4) ∨ (okPs ps ∧ ¬ Ever ps zA ∧ 0 ≤ n ∧ (∀ k : Nat, aliveB ps k zA = true ↔ (k : Int) ≤ n) ∧ e = 0)
theorem turnsR_uniq {ps : List Int} {d : Int} {l m : List Int} {e f : Int} (h : TurnsR ps d l e) (k : TurnsR ps d m f) : l = m ∧ e = f := by
  rcases h with ⟨h1, h2, h3⟩ | ⟨h1, h2, h3, h4⟩ | ⟨h1, h2, h3, h4, h5⟩ | ⟨h1, h2, h3, h4, h5⟩ <;>
  rcases k with ⟨k1, k2, k3⟩ | ⟨k1, k2, k3, k4⟩ | ⟨k1, k2, k3, k4, k5⟩ | ⟨k1, k2, k3, k4, k5⟩ <;>
  first
    | (exact absurd ‹okPs ps› ‹¬ okPs ps›)
    | (exact absurd ‹(0 ≤ d ∧ d ≤ 64)› ‹¬ (0 ≤ d ∧ d ≤ 64)›)
    | (exact absurd ‹Ever ps zA› ‹¬ Ever ps zA›)
    | (subst_vars; exact ⟨rfl, rfl⟩)
    | exact ⟨gr_uniq h4 k4, h5.trans k5.symm⟩
theorem lastsR_uniq {ps : List Int} {n m : Int} {e f : Int} (h : LastsR ps n e) (k : LastsR ps m f) : n = m ∧ e = f := by
  rcases h with ⟨h1, h2, h3⟩ | ⟨h1, h2, h3, h4⟩ | ⟨h1, h2, h3, h4, h5⟩ <;>
  rcases k with ⟨k1, k2, k3⟩ | ⟨k1, k2, k3, k4⟩ | ⟨k1, k2, k3, k4, k5⟩ <;>
  first
    | (exact absurd ‹okPs ps› ‹¬ okPs ps›)
    | (exact absurd ‹Ever ps zA› ‹¬ Ever ps zA›)
    | (subst_vars; exact ⟨rfl, rfl⟩)
    | skip
  have a := (k4 n.toNat).1 ((h4 n.toNat).2 (by omega))
  have b := (h4 m.toNat).1 ((k4 m.toNat).2 (by omega))
  exact ⟨by omega, h5.trans k5.symm⟩
end Go.P10
