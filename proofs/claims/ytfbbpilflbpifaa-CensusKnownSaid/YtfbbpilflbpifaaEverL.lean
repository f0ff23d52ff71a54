/- Turns: what a day does, lists without repetitions: plain lemmas. No conditions. -/
import Derived.Test.YtfbbpilflbpifaaEverS
set_option linter.constructorNameAsVariable false
set_option linter.unusedVariables false
set_option linter.unusedSimpArgs false
set_option maxRecDepth 100000
namespace Go.P10
open Go.Lom Go.Proofs Go
theorem seg_self {α : Type} (l : List α) : seg 0 l.length l = l := seg_all l
theorem seg_exact {α : Type} {n : Nat} {l : List α} (h : n = l.length) : seg 0 n l = l := by rw [h, seg_self]
theorem drop_step {α : Type} (d : α) {l : List α} {i : Int} (h0 : 0 ≤ i) (h1 : i < l.length) : l.drop i.toNat = l.getD i.toNat d :: l.drop (i + 1).toNat := by
  have h : i.toNat < l.length := by omega
  rw [List.drop_eq_getElem_cons h, show (i + 1).toNat = i.toNat + 1 from by omega]
  simp [List.getD_eq_getElem?_getD, h]
theorem drop_end {α : Type} {l : List α} {i : Int} (h1 : ¬ i < l.length) : l.drop i.toNat = [] := List.drop_eq_nil_of_le (by omega)
theorem mL_lt {α : Type} {l : List α} {i : Int} (h : i < l.length) : mL l (i + 1) < mL l i := by unfold mL; omega
theorem fitsM {n b : Nat} (h : n ≤ 1000000) (hb : b ≤ 1000 := by omega) : fitsN n b = true := by
  have : n * b ≤ 1000000 * 1000 := Nat.mul_le_mul h hb
  simp only [fitsN, Bool.and_eq_true, Nat.ble_eq]
  exact ⟨by omega, by unfold maxLen; omega⟩
theorem getD_mem {α : Type} {l : List α} {i : Nat} (h : i < l.length) (d : α) : l.getD i d ∈ l := by
  rw [List.getD_eq_getElem?_getD, List.getElem?_eq_getElem h]; exact List.getElem_mem h
theorem getD_set {α : Type} {l : List α} {n k : Nat} {v d : α} (h : n < l.length) : (l.set n v).getD k d = if n = k then v else l.getD k d := by
  rw [List.getD_eq_getElem?_getD, List.getElem?_set, List.getD_eq_getElem?_getD]
  by_cases e : n = k
  · subst e; rw [if_pos rfl, if_pos h, if_pos rfl]; rfl
  · rw [if_neg e, if_neg e]
theorem len_le_of_sub {α : Type} [DecidableEq α] : ∀ {l m : List α}, l.Nodup → (∀ x ∈ l, x ∈ m) → l.length ≤ m.length
  | [], m, _, _ => Nat.zero_le _
  | a :: l, m, hn, hs => by
    have ha := hs a (List.mem_cons_self ..)
    have hn := List.nodup_cons.1 hn
    have := len_le_of_sub (m := m.erase a) hn.2 fun x hx => by
      have hxa : x ≠ a := fun e => hn.1 (e ▸ hx)
      exact (List.mem_erase_of_ne hxa).2 (hs x (List.mem_cons_of_mem _ hx))
    rw [List.length_erase_of_mem ha] at this
    have : 0 < m.length := List.length_pos_of_mem ha
    simp only [List.length_cons]
    omega
theorem nodup_append_one {α : Type} {l : List α} {a : α} (h : l.Nodup) (ha : a ∉ l) : (l ++ [a]).Nodup := by
  rw [List.nodup_append]
  refine ⟨h, by simp, fun x hx y hy e => ?_⟩
  rw [List.mem_singleton] at hy
  subst hy; subst e; exact ha hx
theorem goA_spec (r : Int) : ∀ (ps : List Int) (i : Int) (xs : List Int), 0 ≤ i → i.toNat + ps.length ≤ xs.length →
    (goA r ps i xs).1.length = xs.length ∧ ((goA r ps i xs).2 = true ↔ ∀ k : Nat, k < ps.length → stepI (xs.getD (i.toNat + k) 0) (i + k) r < ps.getD k 0) ∧
    ((goA r ps i xs).2 = true → ∀ k : Nat, (goA r ps i xs).1.getD k 0 = if i.toNat ≤ k ∧ k < i.toNat + ps.length then stepI (xs.getD k 0) k r else xs.getD k 0)
  | [], i, xs, h0, h => by
    refine ⟨rfl, ⟨fun _ k hk => by simp at hk, fun _ => rfl⟩, fun _ k => ?_⟩
    rw [if_neg (by simp only [List.length_nil]; omega)]; rfl
  | p :: ps, i, xs, h0, h => by
    simp only [List.length_cons] at h
    have hi : i.toNat < xs.length := by omega
    unfold goA
    split
    · rename_i hge
      refine ⟨by simp, ⟨fun h => (by cases h), fun h => ?_⟩, fun h => by cases h⟩
      have := h 0 (by simp)
      rw [Nat.add_zero, show i + ((0 : Nat) : Int) = i by omega, List.getD_cons_zero] at this
      omega
    · rename_i hge
      have hs : (i + 1).toNat = i.toNat + 1 := by omega
      obtain ⟨g1, g2, g3⟩ := goA_spec r ps (i + 1) (xs.set i.toNat (stepI (xs.getD i.toNat 0) i r)) (by omega) (by rw [List.length_set]; omega)
      refine ⟨by rw [g1, List.length_set], ?_, fun hok k => ?_⟩
      · rw [g2]
        constructor
        · intro hh k hk
          cases k with
          | zero => rw [Nat.add_zero, show i + ((0 : Nat) : Int) = i by omega, List.getD_cons_zero]; omega
          | succ k =>
            have := hh k (by simpa using hk)
            rw [getD_set hi, if_neg (by omega)] at this
            simp only [List.getD_cons_succ]
            rw [show i.toNat + (k + 1) = (i + 1).toNat + k by omega, show i + ((k + 1 : Nat) : Int) = i + 1 + (k : Int) by omega]
            exact this
        · intro hh k hk
          have := hh (k + 1) (by simpa using hk)
          rw [getD_set hi, if_neg (by omega)]
          simp only [List.getD_cons_succ] at this
          rw [show (i + 1).toNat + k = i.toNat + (k + 1) by omega, show i + 1 + (k : Int) = i + ((k + 1 : Nat) : Int) by omega]
          exact this
      · rw [g3 hok k, getD_set hi]
        simp only [List.length_cons]
        by_cases e : i.toNat = k
        · subst e
          have : ((i.toNat : Nat) : Int) = i := by omega
          rw [if_neg (by omega), if_pos rfl, if_pos (by omega), this]
        · rw [if_neg e]
          by_cases c : (i + 1).toNat ≤ k ∧ k < (i + 1).toNat + ps.length
          · rw [if_pos c, if_pos (by omega)]
          · rw [if_neg c, if_neg (by omega)]
theorem ofA_len (a : Ag) : (ofA a).length = 5 := rfl
theorem ofA_toA {l : List Int} (h : l.length = 5) : ofA (toA l) = l := by
  match l, h with
  | [a, b, c, d, e], _ => rfl
theorem ofA_inj {a b : Ag} (h : ∀ k, k < 5 → (ofA a).getD k 0 = (ofA b).getD k 0) : a = b := by
  obtain ⟨a0, a1, a2, a3, a4⟩ := a
  obtain ⟨b0, b1, b2, b3, b4⟩ := b
  have h0 : a0 = b0 := h 0 (by omega)
  have h1 : a1 = b1 := h 1 (by omega)
  have h2 : a2 = b2 := h 2 (by omega)
  have h3 : a3 = b3 := h 3 (by omega)
  have h4 : a4 = b4 := h 4 (by omega)
  subst h0 h1 h2 h3 h4; rfl
theorem nextR_iff {ps : List Int} {a b : Ag} {r : Nat} (hp : ps.length ≤ 5) : nextR ps a r = some b ↔
    (∀ k : Nat, k < ps.length → stepI ((ofA a).getD k 0) k r < ps.getD k 0) ∧ ∀ k : Nat, k < 5 → (ofA b).getD k 0 = if k < ps.length then stepI ((ofA a).getD k 0) k r else (ofA a).getD k 0 := by
  obtain ⟨g1, g2, g3⟩ := goA_spec (r : Int) ps 0 (ofA a) (by omega) (by rw [ofA_len]; simpa using hp)
  rw [ofA_len] at g1
  simp only [Int.toNat_zero, Nat.zero_add, Int.zero_add, Nat.zero_le, true_and] at g2 g3
  unfold nextR
  split
  · rename_i hok
    rw [Option.some.injEq]
    constructor
    · rintro rfl
      refine ⟨g2.1 hok, fun k hk => ?_⟩
      rw [ofA_toA g1]; exact g3 hok k
    · rintro ⟨_, h2⟩
      refine ofA_inj fun k hk => ?_
      rw [ofA_toA g1, g3 hok k, h2 k hk]
  · rename_i hok
    constructor
    · intro h; cases h
    · rintro ⟨h1, _⟩; exact absurd (g2.2 h1) hok
theorem nextR_valid {ps : List Int} (hp : okPs ps) {a b : Ag} {r : Nat} (ha : validA ps a) (h : nextR ps a r = some b) : validA ps b := by
  obtain ⟨h1, h2⟩ := (nextR_iff hp.1.2).1 h
  intro k hk
  rw [h2 k hk]
  split
  · rename_i hk2
    have := h1 k hk2
    have e : ps.getD k 1 = ps.getD k 0 := by simp [List.getD_eq_getElem?_getD, hk2]
    rw [e]
    refine ⟨?_, this⟩
    have := (ha k hk).1
    unfold stepI; split <;> omega
  · exact ha k hk
theorem valid_zero {ps : List Int} (hp : okPs ps) : validA ps (0, 0, 0, 0, 0) := fun k hk => by
  have e : (ofA (0, 0, 0, 0, 0)).getD k 0 = 0 := by
    match k, hk with
    | 0, _ => rfl
    | 1, _ => rfl
    | 2, _ => rfl
    | 3, _ => rfl
    | 4, _ => rfl
  rw [e]
  refine ⟨by omega, ?_⟩
  by_cases h : k < ps.length
  · have := hp.2 _ (getD_mem h 1); omega
  · rw [List.getD_eq_getElem?_getD, List.getElem?_eq_none (by omega)]; simp
theorem valid_bd {ps : List Int} (hp : okPs ps) {a : Ag} (h : validA ps a) : ∀ k, k < 5 → 0 ≤ (ofA a).getD k 0 ∧ (ofA a).getD k 0 < 8 := fun k hk => by
  have := h k hk
  refine ⟨this.1, ?_⟩
  by_cases h2 : k < ps.length
  · have := hp.2 _ (getD_mem h2 1); omega
  · have e : ps.getD k 1 = 1 := by rw [List.getD_eq_getElem?_getD, List.getElem?_eq_none (by omega)]; rfl
    omega
theorem valid_box {ps : List Int} (hp : okPs ps) {a : Ag} (h : validA ps a) : boxL (ofA a) := ⟨rfl, fun x hx => by
  obtain ⟨k, hk, rfl⟩ := List.mem_iff_getElem.1 hx
  have := valid_bd hp h k hk
  rw [List.getD_eq_getElem?_getD, List.getElem?_eq_getElem hk] at this
  simp only [Option.getD_some] at this
  omega⟩
def codeA (a : Ag) : Nat := (a.1 + 8 * a.2.1 + 64 * a.2.2.1 + 512 * a.2.2.2.1 + 4096 * a.2.2.2.2).toNat
theorem code_inj {ps : List Int} (hp : okPs ps) {a b : Ag} (ha : validA ps a) (hb : validA ps b) (h : codeA a = codeA b) : a = b := by
  obtain ⟨a0, a1, a2, a3, a4⟩ := a
  obtain ⟨b0, b1, b2, b3, b4⟩ := b
  have x0 : 0 ≤ a0 ∧ a0 < 8 := valid_bd hp ha 0 (by omega)
  have x1 : 0 ≤ a1 ∧ a1 < 8 := valid_bd hp ha 1 (by omega)
  have x2 : 0 ≤ a2 ∧ a2 < 8 := valid_bd hp ha 2 (by omega)
  have x3 : 0 ≤ a3 ∧ a3 < 8 := valid_bd hp ha 3 (by omega)
  have x4 : 0 ≤ a4 ∧ a4 < 8 := valid_bd hp ha 4 (by omega)
  have y0 : 0 ≤ b0 ∧ b0 < 8 := valid_bd hp hb 0 (by omega)
  have y1 : 0 ≤ b1 ∧ b1 < 8 := valid_bd hp hb 1 (by omega)
  have y2 : 0 ≤ b2 ∧ b2 < 8 := valid_bd hp hb 2 (by omega)
  have y3 : 0 ≤ b3 ∧ b3 < 8 := valid_bd hp hb 3 (by omega)
  have y4 : 0 ≤ b4 ∧ b4 < 8 := valid_bd hp hb 4 (by omega)
  unfold codeA at h
  dsimp only at h
  have e4 : a4 = b4 := by omega
  have e3 : a3 = b3 := by omega
  have e2 : a2 = b2 := by omega
  have e1 : a1 = b1 := by omega
  have e0 : a0 = b0 := by omega
  subst e0 e1 e2 e3 e4; rfl
theorem code_lt {ps : List Int} (hp : okPs ps) {a : Ag} (ha : validA ps a) : codeA a < 32768 := by
  obtain ⟨a0, a1, a2, a3, a4⟩ := a
  have x0 : 0 ≤ a0 ∧ a0 < 8 := valid_bd hp ha 0 (by omega)
  have x1 : 0 ≤ a1 ∧ a1 < 8 := valid_bd hp ha 1 (by omega)
  have x2 : 0 ≤ a2 ∧ a2 < 8 := valid_bd hp ha 2 (by omega)
  have x3 : 0 ≤ a3 ∧ a3 < 8 := valid_bd hp ha 3 (by omega)
  have x4 : 0 ≤ a4 ∧ a4 < 8 := valid_bd hp ha 4 (by omega)
  unfold codeA
  dsimp only
  omega
theorem map_nodup {α β : Type} {f : α → β} : ∀ {l : List α}, l.Nodup → (∀ x ∈ l, ∀ y ∈ l, f x = f y → x = y) → (l.map f).Nodup
  | [], _, _ => List.nodup_nil
  | a :: l, hn, hi => by
    have hn := List.nodup_cons.1 hn
    rw [List.map_cons, List.nodup_cons]
    refine ⟨fun h => ?_, map_nodup hn.2 fun x hx y hy => hi x (List.mem_cons_of_mem _ hx) y (List.mem_cons_of_mem _ hy)⟩
    obtain ⟨b, hb, he⟩ := List.mem_map.1 h
    have := hi b (List.mem_cons_of_mem _ hb) a (List.mem_cons_self ..) he
    subst this; exact hn.1 hb
theorem valid_len {ps : List Int} (hp : okPs ps) {l : List Ag} (hn : l.Nodup) (hv : ∀ a ∈ l, validA ps a) : l.length ≤ 32768 := by
  have h := len_le_of_sub (m := List.range 32768) (map_nodup (f := codeA) hn fun x hx y hy => code_inj hp (hv x hx) (hv y hy)) fun x hx => by
    obtain ⟨a, ha, rfl⟩ := List.mem_map.1 hx
    exact List.mem_range.2 (code_lt hp (hv a ha))
  simpa using h
theorem sucL_step {ps : List Int} {a : Ag} {r : Nat} (h : r < ps.length) : sucL ps a r = (match nextR ps a r with | some b => [b] | none => []) ++ sucL ps a (r + 1) := by
  unfold sucL
  rw [show ps.length - r = (ps.length - (r + 1)) + 1 by omega, List.range'_succ, List.filterMap_cons]
  cases nextR ps a r <;> rfl
theorem sucL_end {ps : List Int} {a : Ag} {r : Nat} (h : ¬ r < ps.length) : sucL ps a r = [] := by
  unfold sucL
  rw [show ps.length - r = 0 by omega]; rfl
theorem sucL_mem {ps : List Int} {a b : Ag} {r : Nat} : b ∈ sucL ps a r ↔ ∃ k, r ≤ k ∧ k < ps.length ∧ nextR ps a k = some b := by
  unfold sucL
  rw [List.mem_filterMap]
  constructor
  · rintro ⟨k, hk, h⟩
    rw [List.mem_range'_1] at hk
    exact ⟨k, hk.1, by omega, h⟩
  · rintro ⟨k, h1, h2, h⟩
    exact ⟨k, by rw [List.mem_range'_1]; omega, h⟩
theorem sucL_len (ps : List Int) (a : Ag) (r : Nat) : (sucL ps a r).length ≤ ps.length - r := by
  unfold sucL
  refine Nat.le_trans (List.length_filterMap_le ..) ?_
  simp
theorem eqA_iff {a b : Ag} : Lom.eqT P5 a b = true ↔ a = b := by
  show ((a.1 == b.1 && (a.2.1 == b.2.1 && (a.2.2.1 == b.2.2.1 && (a.2.2.2.1 == b.2.2.2.1 && a.2.2.2.2 == b.2.2.2.2)))) = true) ↔ _
  simp only [Bool.and_eq_true, beq_iff_eq]
  constructor
  · rintro ⟨h0, h1, h2, h3, h4⟩
    obtain ⟨a0, a1, a2, a3, a4⟩ := a
    obtain ⟨b0, b1, b2, b3, b4⟩ := b
    simp only at h0 h1 h2 h3 h4
    subst h0 h1 h2 h3 h4; rfl
  · rintro rfl; exact ⟨rfl, rfl, rfl, rfl, rfl⟩
section
variable {β : Type}
theorem tmFind_none {k : Ag} : ∀ {l : List (Ag × β)} {i : Nat}, tmFind P5 k l i = none ↔ k ∉ keysN l
  | [], i => by simp [tmFind, keysN]
  | (x, v) :: l, i => by
    have ih := tmFind_none (k := k) (l := l) (i := i + 1)
    unfold tmFind
    split
    · rename_i h
      have := eqA_iff.1 h
      subst this
      simp [keysN]
    · rename_i h
      have hne : k ≠ x := fun e => h (eqA_iff.2 e)
      rw [ih]
      simp [keysN, hne]
theorem get_none {l : List (Ag × β)} {k : Ag} : tmGet P5 l k = none ↔ k ∉ keysN l := by
  unfold tmGet
  rw [Option.map_eq_none_iff]; exact tmFind_none
theorem get_some {l : List (Ag × β)} {k : Ag} : (tmGet P5 l k).isSome = true ↔ k ∈ keysN l := by
  have := get_none (l := l) (k := k)
  cases h : tmGet P5 l k with
  | none => simp [this.1 h]
  | some v =>
    simp only [Option.isSome_some, true_iff]
    refine Classical.byContradiction fun hn => ?_
    rw [this.2 hn] at h; cases h
theorem tmFind_mem {k : Ag} : ∀ {l : List (Ag × β)} {i : Nat} {r : Nat × β}, tmFind P5 k l i = some r → (k, r.2) ∈ l
  | [], i, r, h => by simp [tmFind] at h
  | (x, v) :: l, i, r, h => by
    unfold tmFind at h
    split at h
    · rename_i he
      injection h with h; subst h
      rw [eqA_iff.1 he]; exact List.mem_cons_self ..
    · exact List.mem_cons_of_mem _ (tmFind_mem h)
theorem get_mem {l : List (Ag × β)} {k : Ag} {v : β} (h : tmGet P5 l k = some v) : (k, v) ∈ l := by
  unfold tmGet at h
  rw [Option.map_eq_some_iff] at h
  obtain ⟨r, hr, rfl⟩ := h
  exact tmFind_mem hr
theorem find_of_mem {k : Ag} {v : β} : ∀ {l : List (Ag × β)} {i : Nat}, (keysN l).Nodup → (k, v) ∈ l → ∃ j, tmFind P5 k l i = some (j, v)
  | [], i, _, h => by simp at h
  | (x, w) :: l, i, hn, h => by
    have hn : x ∉ keysN l ∧ (keysN l).Nodup := List.nodup_cons.1 hn
    unfold tmFind
    rcases List.mem_cons.1 h with h | h
    · injection h with h1 h2; subst h1 h2
      rw [if_pos (eqA_iff.2 rfl)]; exact ⟨_, rfl⟩
    · have hne : k ≠ x := fun e => hn.1 (e ▸ List.mem_map.2 ⟨_, h, rfl⟩)
      rw [if_neg fun e => hne (eqA_iff.1 e)]
      exact find_of_mem hn.2 h
theorem get_of_mem {l : List (Ag × β)} {k : Ag} {v : β} (hn : (keysN l).Nodup) (h : (k, v) ∈ l) : tmGet P5 l k = some v := by
  obtain ⟨j, hj⟩ := find_of_mem (i := 0) hn h
  unfold tmGet; rw [hj]; rfl
theorem put_new {l : List (Ag × β)} {k : Ag} {v : β} (h : k ∉ keysN l) : tmPut P5 l k v = l ++ [(k, v)] := by
  unfold tmPut
  rw [tmFind_none.2 h]
theorem get_app {l : List (Ag × β)} {k a : Ag} {v : β} (h : k ∉ keysN l) : tmGet P5 (l ++ [(k, v)]) a = if a = k then some v else tmGet P5 l a := by
  unfold tmGet
  cases hf : tmFind P5 a l 0 with
  | none =>
    rw [tmFind_app (κ := P5) l _ 0 hf]
    simp only [tmFind]
    by_cases e : a = k
    · rw [if_pos (eqA_iff.2 e), if_pos e]; rfl
    · rw [if_neg fun h => e (eqA_iff.1 h), if_neg e]
  | some r =>
    have hm := tmFind_mem hf
    have hne : a ≠ k := fun e => h (e ▸ List.mem_map.2 ⟨_, hm, rfl⟩)
    rw [if_neg hne]
    have go : ∀ (l : List (Ag × β)) (i : Nat) (r : Nat × β), tmFind P5 a l i = some r → tmFind P5 a (l ++ [(k, v)]) i = some r := by
      intro l
      induction l with
      | nil => intro i r h; simp [tmFind] at h
      | cons p l ih =>
        intro i r h
        obtain ⟨x, w⟩ := p
        simp only [List.cons_append, tmFind] at h ⊢
        split
        · rename_i he; rw [if_pos he] at h; exact h
        · rename_i he; rw [if_neg he] at h; exact ih _ _ h
    rw [go l 0 r hf]
end
end Go.P10
