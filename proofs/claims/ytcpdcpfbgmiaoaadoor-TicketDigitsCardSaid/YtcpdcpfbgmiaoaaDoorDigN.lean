/- Tickets: the law of digits, in plain terms: what is read of a row with up to three digits blotted out. No conditions. -/
import Derived.Test.YtcpdcpfbgmiaoaaDoorDigM
import Derived.Test.YtcpdcpfbgmiaoaaDoorDigS
set_option linter.constructorNameAsVariable false
set_option linter.unusedVariables false
set_option linter.unusedSimpArgs false
set_option maxRecDepth 100000
namespace Go.P3
open Go.Lom Go.Proofs Go

theorem posK_mem {w : List Int} : ∀ (k : Nat) (p : Int), p ∈ posK w k ↔ 0 ≤ p ∧ p < k ∧ w.getD p.toNat 0 = 63
  | 0, p => by simp [posK]; omega
  | k + 1, p => by
    simp only [posK]
    split
    · rename_i h
      rw [List.mem_cons, posK_mem k p]
      constructor
      · rintro (rfl | ⟨a, b, c⟩)
        · exact ⟨by omega, by omega, by rw [show ((k : Int)).toNat = k by omega]; exact h⟩
        · exact ⟨a, by omega, c⟩
      · rintro ⟨a, b, c⟩
        by_cases e : p = k
        · exact .inl e
        · exact .inr ⟨a, by omega, c⟩
    · rename_i h
      rw [posK_mem k p]
      constructor
      · rintro ⟨a, b, c⟩; exact ⟨a, by omega, c⟩
      · rintro ⟨a, b, c⟩
        refine ⟨a, ?_, c⟩
        by_cases e : p = k
        · exfalso; subst e; rw [show ((k : Int)).toNat = k by omega] at c; exact h c
        · omega
theorem posK_desc {w : List Int} : ∀ k : Nat, (posK w k).Pairwise (· > ·)
  | 0 => .nil
  | k + 1 => by
    simp only [posK]
    split
    · exact List.Pairwise.cons (fun p hp => by have := (posK_mem k p).1 hp; omega) (posK_desc k)
    · exact posK_desc k
theorem posK_one {w : List Int} {i : Nat} (hi : i < w.length) : ∀ k : Nat, (posK (w.set i 63) k).length ≤ (posK w k).length + 1
  | 0 => by simp [posK]
  | k + 1 => by
    simp only [posK]
    rw [getD_set hi]
    by_cases e : k = i
    · rw [if_pos e, if_pos rfl, posK_set k (by omega), List.length_cons]
      split
      · simp
      · exact Nat.le_refl _
    · rw [if_neg e]
      have := posK_one hi k
      split
      · simp only [List.length_cons]; omega
      · exact this
theorem blank_some {s : List UInt8} : ∀ (k : Nat) (i : Int) (b : List Int), (∀ j : Int, i ≤ j → j < i + k → cI s j = 63 ∨ (48 ≤ cI s j ∧ cI s j ≤ 57)) → ∃ r, blankK s k i b = some r
  | 0, _, b, _ => ⟨b, rfl⟩
  | k + 1, i, b, h => by
    simp only [blankK]
    split
    · exact blank_some k (i + 1) _ fun j h0 h1 => h j (by omega) (by omega)
    · rename_i h63
      rw [if_neg (by have := h i (by omega) (by omega); omega)]
      exact blank_some k (i + 1) _ fun j h0 h1 => h j (by omega) (by omega)

/-- What is read, in order. -/
def rdK (s : List UInt8) (b : List Int) : Nat → Int → List Int
  | 0, _ => []
  | k + 1, x => (if (numberI (fillS s b x)).2 = 0 then [(numberI (fillS s b x)).1] else []) ++ rdK s b k (x + 1)
theorem readK_rd (s : List UInt8) (b : List Int) : ∀ (k : Nat) (x : Int) (o : List Int), readK s b k x o = o ++ rdK s b k x
  | 0, _, o => by simp [readK, rdK]
  | k + 1, x, o => by
    simp only [readK, rdK]
    rw [readK_rd s b k]
    split <;> simp
theorem rdK_mem {s : List UInt8} {b : List Int} : ∀ (k : Nat) (x r : Int), r ∈ rdK s b k x → ∃ y, x ≤ y ∧ y < x + k ∧ numberI (fillS s b y) = (r, 0)
  | 0, _, r, h => by cases h
  | k + 1, x, r, h => by
    simp only [rdK] at h
    rcases List.mem_append.1 h with h | h
    · split at h
      · rename_i h0
        rw [List.mem_singleton] at h
        exact ⟨x, by omega, by omega, by rw [h, ← h0]⟩
      · cases h
    · obtain ⟨y, a, c, d⟩ := rdK_mem k (x + 1) r h
      exact ⟨y, by omega, by omega, d⟩
theorem rdK_in {s : List UInt8} {b : List Int} {y r : Int} (hr : numberI (fillS s b y) = (r, 0)) : ∀ (k : Nat) (x : Int), x ≤ y → y < x + k → r ∈ rdK s b k x
  | 0, x, h0, h1 => by omega
  | k + 1, x, h0, h1 => by
    simp only [rdK]
    by_cases e : x = y
    · subst e
      rw [hr, if_pos rfl]
      exact List.mem_append.2 (.inl (List.mem_singleton.2 rfl))
    · exact List.mem_append.2 (.inr (rdK_in hr k (x + 1) (by omega) (by omega)))
theorem rdK_sorted {s : List UInt8} {b : List Int} (hm : ∀ x y r q, 0 ≤ x → x < y → numberI (fillS s b x) = (r, 0) → numberI (fillS s b y) = (q, 0) → y < 10 ^ b.length → r < q) : ∀ (k : Nat) (x : Int), 0 ≤ x → x + k ≤ 10 ^ b.length → (rdK s b k x).Pairwise (· < ·)
  | 0, _, _, _ => .nil
  | k + 1, x, h0, h1 => by
    simp only [rdK]
    refine List.pairwise_append.2 ⟨?_, rdK_sorted hm k (x + 1) (by omega) (by omega), fun r hr q hq => ?_⟩
    · split <;> simp
    · split at hr
      · rename_i h2
        rw [List.mem_singleton] at hr
        obtain ⟨y, a, c, d⟩ := rdK_mem k (x + 1) q hq
        exact hm x y r q h0 (by omega) (by rw [hr, ← h2]) d (by omega)
      · cases hr
theorem seekK_hit {l : List Int} {n : Int} : ∀ (k : Nat) (i : Int), 0 ≤ i → (∃ j : Int, i ≤ j ∧ j < i + k ∧ l.getD j.toNat 0 = n) → ∃ r, seekK l n k i = some r ∧ 0 ≤ r
  | 0, i, _, ⟨j, a, c, _⟩ => by omega
  | k + 1, i, h0, ⟨j, a, c, d⟩ => by
    simp only [seekK]
    split
    · exact ⟨i, rfl, h0⟩
    · rename_i hne
      refine seekK_hit k (i + 1) (by omega) ⟨j, ?_, by omega, d⟩
      by_cases e : i = j
      · subst e; exact absurd d hne
      · omega
theorem seekI_hit {l : List Int} {n : Int} (h : n ∈ l) : 0 ≤ seekI l n := by
  obtain ⟨i, hi, he⟩ := List.getElem_of_mem h
  obtain ⟨r, hr, h0⟩ := seekK_hit (l := l) (n := n) l.length 0 (by omega) ⟨i, by omega, by omega, by
    rw [show ((i : Int)).toNat = i by omega, List.getD_eq_getElem?_getD, List.getElem?_eq_getElem hi]; exact he⟩
  unfold seekI
  rw [hr]; exact h0

/-- A code with up to three digits blotted out: what is read. -/
theorem reads_law {N : Int} {M : List Int} (h0 : 1 ≤ N) (h1 : N ≤ 99999999) (hl : M.length = 10) (hM : ∀ i : Nat, i < 10 → M.getD i 0 = 63 ∨ M.getD i 0 = (byI (codeS N)).getD i 0) (hp : (posK M 10).length ≤ 3) :
    ∃ l, readsI (M.map byteI) = (l, 0) ∧ N ∈ l ∧ okE M l := by
  obtain ⟨v1, v2⟩ := code_val (n := N) (by omega) h1
  have hcl : (byI (codeS N)).length = 10 := by rw [byI_len, code_len]
  have hch : ∀ i : Nat, i < 10 → M.getD i 0 = 63 ∨ (48 ≤ M.getD i 0 ∧ M.getD i 0 ≤ 57) := fun i hi => by
    rcases hM i hi with h | h
    · exact .inl h
    · exact .inr (by rw [h]; exact v2 _ (getD_mem (by omega)))
  have hM256 : ∀ c ∈ M, 0 ≤ c ∧ c < 256 := fun c hc => by
    obtain ⟨i, hi, he⟩ := List.getElem_of_mem hc
    have := hch i (by omega)
    rw [List.getD_eq_getElem?_getD, List.getElem?_eq_getElem hi] at this
    simp only [Option.getD_some, he] at this
    omega
  have hbM := byI_map hM256
  generalize hs : M.map byteI = s at hbM
  have hsl : s.length = 10 := by rw [← hs]; simp [hl]
  have hci : ∀ j : Int, 0 ≤ j → cI s j = M.getD j.toNat 0 := fun j hj => by rw [← hbM, byI_getD]; rfl
  obtain ⟨b, hb⟩ := blank_some (s := s) 10 0 [] fun j a c => by rw [hci j a]; exact hch _ (by omega)
  have hrev : b.reverse = posK M 10 := by have := blankK_pos 10 0 [] b hb (by omega) rfl; rw [hbM] at this; exact this
  have hblen : b.length = (posK M 10).length := by rw [← hrev]; simp
  have hfill : ∀ x, fillS s b x = (fillR (posK M 10) x M).map byteI := fun x => by
    unfold fillS
    rw [hbM, fillD_fill b.length x 0 _ (by omega) (by omega), ← hrev]; rfl
  have hpos : ∀ p ∈ posK M 10, 0 ≤ p ∧ p < 10 ∧ M.getD p.toNat 0 = 63 := fun p h => (posK_mem 10 p).1 h
  -- all that is filled in consists of digits
  have hdig : ∀ (ps : List Int) (x : Int) (w : List Int), 0 ≤ x → w.length = 10 → (∀ p ∈ ps, 0 ≤ p ∧ p < 10) → (∀ i : Nat, i < 10 → (i : Int) ∈ ps ∨ (48 ≤ w.getD i 0 ∧ w.getD i 0 ≤ 57)) → ∀ c ∈ fillR ps x w, 48 ≤ c ∧ c ≤ 57 := by
    intro ps
    induction ps with
    | nil =>
      intro x w _ hw _ hc c hcm
      obtain ⟨i, hi, he⟩ := List.getElem_of_mem (l := w) hcm
      have := hc i (by omega)
      rw [List.getD_eq_getElem?_getD, List.getElem?_eq_getElem hi] at this
      simp only [Option.getD_some, he] at this
      rcases this with h | h
      · cases h
      · exact h
    | cons p ps ih =>
      intro x w hx hw hps hc c hcm
      obtain ⟨x1, x2⟩ := tm10 hx
      obtain ⟨p0, p1⟩ := hps p (List.mem_cons_self ..)
      refine ih (x.tdiv 10) (w.set p.toNat (48 + x.tmod 10)) (by omega) (by simp [hw]) (fun q hq => hps q (List.mem_cons_of_mem _ hq)) (fun i hi => ?_) c hcm
      rw [getD_set (by omega)]
      by_cases e : i = p.toNat
      · rw [if_pos e]; exact .inr (by omega)
      · rw [if_neg e]
        rcases hc i hi with h | h
        · rcases List.mem_cons.1 h with h | h
          · exact absurd (by omega) e
          · exact .inl h
        · exact .inr h
  have hdigM : ∀ x, 0 ≤ x → ∀ c ∈ fillR (posK M 10) x M, 48 ≤ c ∧ c ≤ 57 := fun x hx => hdig _ x M hx hl (fun p h => let ⟨a, c, _⟩ := hpos p h; ⟨a, c⟩) fun i hi => by
    rcases hch i hi with h | h
    · exact .inl ((posK_mem 10 _).2 ⟨by omega, by omega, by rw [show ((i : Int)).toNat = i by omega]; exact h⟩)
    · exact .inr h
  -- a row that is read
  have hread : ∀ x r, 0 ≤ x → numberI (fillS s b x) = (r, 0) → (1 ≤ r ∧ r ≤ 99999999) ∧ byI (codeS r) = fillR (posK M 10) x M := fun x r hx hr => by
    obtain ⟨e, a, c⟩ := num_valid hr
    exact ⟨⟨a, c⟩, by rw [← e, hfill x, dig256 (hdigM x hx)]⟩
  have hexp : ((posK M 10).map expo).Pairwise (· < ·) := by
    rw [List.pairwise_map]
    refine (posK_desc (w := M) 10).imp_of_mem fun {p q} hp hq h => ?_
    have a := hpos p hp
    have c := hpos q hq
    unfold expo
    omega
  have hval : ∀ x, 0 ≤ x → val (fillR (posK M 10) x M) = val M - S15 ((posK M 10).map expo) + G ((posK M 10).map expo) x := fun x hx => fill_val _ x M hl hpos (posK_desc 10) hx
  have hmono : ∀ x y r q, 0 ≤ x → x < y → numberI (fillS s b x) = (r, 0) → numberI (fillS s b y) = (q, 0) → y < 10 ^ b.length → r < q := fun x y r q hx hxy hr hq hy => by
    obtain ⟨⟨r0, r1⟩, er⟩ := hread x r hx hr
    obtain ⟨⟨q0, q1⟩, eq⟩ := hread y q (by omega) hq
    have a := (code_val (n := r) (by omega) r1).1
    have c := (code_val (n := q) (by omega) q1).1
    rw [er, hval x hx] at a
    rw [eq, hval y (by omega)] at c
    have g := G_mono ((posK M 10).map expo) 0 x y hexp (fun e _ => Nat.zero_le e) hx hxy (by rw [List.length_map, ← hblen]; exact hy)
    have f1 := fullI_bd (n := r) (by omega) r1
    have f2 := fullI_bd (n := q) (by omega) q1
    have : (10 : Int) ^ 0 = 1 := rfl
    by_cases e : r = q
    · subst e; omega
    · omega
  have hten : tenK b.length = 10 ^ b.length := tenK_eq _
  have hpp := pow_pos10 b.length
  refine ⟨rdK s b (tenK b.length).toNat 0, ?_, ?_, ?_⟩
  · unfold readsI
    rw [if_neg (by omega), hb]
    simp only
    rw [if_neg (by omega), readK_rd]; rfl
  · obtain ⟨x, x0, x1, hx⟩ := fill_hit (posK M 10) M (byI (codeS N)) (by rw [hl, hcl]) (fun p h => by
      obtain ⟨a, c, _⟩ := hpos p h
      have := v2 _ (getD_mem (l := byI (codeS N)) (i := p.toNat) (by omega))
      exact ⟨a, by omega, this.1, this.2⟩) fun i hi => by
        by_cases hlt : i < 10
        · rcases hM i hlt with h | h
          · exact absurd ((posK_mem 10 _).2 ⟨by omega, by omega, by rw [show ((i : Int)).toNat = i by omega]; exact h⟩) hi
          · exact h
        · rw [List.getD_eq_getElem?_getD, List.getD_eq_getElem?_getD, List.getElem?_eq_none (by omega), List.getElem?_eq_none (by omega)]
    refine rdK_in (y := x) ?_ _ 0 x0 (by rw [hten, hblen]; omega)
    rw [hfill x, hx, map_byI, num_code h0 h1]
  · have hsort := rdK_sorted hmono (tenK b.length).toNat 0 (by omega) (by rw [hten]; omega)
    intro i i0 i1
    have hlt : i.toNat < (rdK s b (tenK b.length).toNat 0).length := by omega
    have hmem := getD_mem hlt
    obtain ⟨y, y0, _, hy⟩ := rdK_mem _ _ _ hmem
    obtain ⟨hb1, hb2⟩ := hread y _ y0 hy
    refine ⟨hb1, fun hi => ?_, fun k k0 k1 => ?_⟩
    · have h2 : (i - 1).toNat < (rdK s b (tenK b.length).toNat 0).length := by omega
      have := List.pairwise_iff_getElem.1 hsort (i - 1).toNat i.toNat h2 hlt (by omega)
      rw [List.getD_eq_getElem?_getD, List.getD_eq_getElem?_getD, List.getElem?_eq_getElem h2, List.getElem?_eq_getElem hlt]
      exact this
    · by_cases h63 : M.getD k.toNat 0 = 63
      · exact .inl h63
      · refine .inr ?_
        have : cI (codeS ((rdK s b (tenK b.length).toNat 0).getD i.toNat 0)) k = (byI (codeS ((rdK s b (tenK b.length).toNat 0).getD i.toNat 0))).getD k.toNat 0 := by rw [byI_getD]; rfl
        rw [this, hb2, fillR_off _ _ _ _ (fun p h => by obtain ⟨a, c, _⟩ := hpos p h; exact ⟨a, by omega⟩) fun h => ?_]
        obtain ⟨_, _, c⟩ := hpos _ h
        rw [show ((k.toNat : Nat) : Int).toNat = k.toNat by omega] at c
        exact h63 c
end Go.P3
