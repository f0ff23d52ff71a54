set_option linter.all false
/- Days: balances, what a posting may really have been, explanations: plain laws. No conditions. -/
namespace Go.P8
abbrev Po : Type := Int × Int × Int
abbrev Dy : Type := List Int × List Po × List Int
def addAt (l : List Int) (i x : Int) : List Int := l.set i.toNat (l.getD i.toNat 0 + x)
def moveI (l : List Int) (f t s : Int) : List Int := addAt (addAt l f (-s)) t s
def balI (l : List Int) (ps : List Po) : List Int := ps.foldl (fun l p => moveI l p.1 p.2.1 p.2.2) l
def sumOk (n : Int) : Bool := decide (0 <= n /\ n <= 1073741824)
def poOk (k : Nat) (p : Po) : Bool := decide ((0 <= p.1 /\ p.1 < k) /\ (0 <= p.2.1 /\ p.2.1 < k) /\ p.1 ≠ p.2.1 /\ 1 <= p.2.2 /\ p.2.2 <= 1073741824)
def dayOk (d : Dy) : Bool := decide (2 <= d.1.length /\ d.1.length <= 8 /\ d.2.2.length = d.1.length /\ d.2.1.length <= 16) && d.1.all sumOk && d.2.2.all sumOk && d.2.1.all (poOk d.1.length)
def swI (s ten : Int) : Int := s + (s / ten % 10 - s / (10 * ten) % 10) * 10 * ten + (s / (10 * ten) % 10 - s / ten % 10) * ten
def swK (s : Int) : Nat -> Int -> List Int
 | 0, _ => []
 | k + 1, ten => if 10 * ten <= s then swI s ten :: swK s k (10 * ten) else []
def digN : Nat -> Nat -> List Nat
 | 0, _ => []
 | k + 1, n => if 0 < n then n % 10 :: digN k (n / 10) else []
def valN : List Nat -> Nat
 | [] => 0
 | d :: l => d + 10 * valN l
def swapN : Nat -> List Nat -> List Nat
 | 0, d :: e :: l => e :: d :: l
 | i + 1, d :: l => d :: swapN i l
 | _, l => l
theorem digN_val : ∀ (k n : Nat), n < 10 ^ k -> valN (digN k n) = n
 | 0, n, h => by
  have : n = 0 := by simpa using h
  subst this; rfl
 | k + 1, n, h => by
  unfold digN
  split
  ·show n % 10 + 10 * valN (digN k (n / 10)) = n
   rw [digN_val k (n / 10) (by rw [Nat.pow_succ] at h; omega)]
   omega
  ·show 0 = n; omega
theorem digN_get : ∀ (k n i : Nat), n < 10 ^ k -> i < (digN k n).length -> (digN k n)[i]? = some (n / 10 ^ i % 10)
 | 0, n, i, h, hi => by simp [digN] at hi
 | k + 1, n, i, h, hi => by
  unfold digN at hi ⊢
  split at hi
  ·rename_i h0
   rw [if_pos h0]
   cases i with
   | zero => simp
   | succ j =>
    simp only [List.length_cons] at hi
    rw [List.getElem?_cons_succ, digN_get k (n / 10) j (by rw [Nat.pow_succ] at h; omega) (by omega), Nat.div_div_eq_div_mul, Nat.pow_succ, Nat.mul_comm]
  ·simp at hi
theorem digN_len : ∀ (k n i : Nat), n < 10 ^ k -> (i < (digN k n).length ↔ 10 ^ i <= n)
 | 0, n, i, h => by
  have : n = 0 := by simpa using h
  subst this
  have := Nat.pow_pos (n := i) (show 0 < 10 by decide)
  simp only [digN, List.length_nil]; omega
 | k + 1, n, i, h => by
  unfold digN
  split
  ·rename_i h0
   cases i with
   | zero => simp only [List.length_cons, Nat.pow_zero]; omega
   | succ j =>
    have := digN_len k (n / 10) j (by rw [Nat.pow_succ] at h; omega)
    simp only [List.length_cons]
    rw [Nat.add_lt_add_iff_right, this, Nat.pow_succ, Nat.le_div_iff_mul_le (by decide)]
  ·have := Nat.pow_pos (n := i) (show 0 < 10 by decide)
   simp only [List.length_nil]; omega
theorem valN_swap : ∀ (i : Nat) (l : List Nat) (d e : Nat), l[i]? = some d -> l[i + 1]? = some e -> (valN (swapN i l) : Int) = valN l + ((d : Int) - e) * (10 * 10 ^ i) + ((e : Int) - d) * 10 ^ i
 | 0, x :: y :: l, d, e, h1, h2 => by
  simp only [List.getElem?_cons_zero, Option.some.injEq] at h1
  simp only [Nat.zero_add, List.getElem?_cons_succ, List.getElem?_cons_zero, Option.some.injEq] at h2
  subst h1 h2
  show ((y + 10 * (x + 10 * valN l) : Nat) : Int) = ((x + 10 * (y + 10 * valN l) : Nat) : Int) + _ + _
  simp only [Int.pow_zero, Int.mul_one]
  omega
 | i + 1, x :: l, d, e, h1, h2 => by
  rw [List.getElem?_cons_succ] at h1 h2
  have := valN_swap i l d e h1 h2
  show ((x + 10 * valN (swapN i l) : Nat) : Int) = ((x + 10 * valN l : Nat) : Int) + _ + _
  rw [Int.pow_succ]
  generalize (10 : Int) ^ i = t at *
  have e1 : ((d : Int) - e) * (10 * (t * 10)) = 10 * (((d : Int) - e) * (10 * t)) := by rw [Int.mul_left_comm, Int.mul_comm t 10, Int.mul_left_comm _ 10]
  have e2 : ((e : Int) - d) * (t * 10) = 10 * (((e : Int) - d) * t) := by rw [Int.mul_comm t 10, Int.mul_left_comm]
  rw [e1, e2]
  omega
 | 0, [_], _, _, _, h2 => by simp at h2
 | 0, [], _, _, h1, _ => by simp at h1
 | _ + 1, [], _, _, h1, _ => by simp at h1
theorem swK_eq {n : Nat} (h : n < 10 ^ 12) : ∀ (k i : Nat), (digN 12 n).length <= i + k + 1 -> swK (n : Int) k (10 ^ i : Nat) = (List.range' i ((digN 12 n).length - 1 - i)).map fun j => (valN (swapN j (digN 12 n)) : Int)
 | 0, i, hk => by
  rw [show (digN 12 n).length - 1 - i = 0 by omega]; rfl
 | k + 1, i, hk => by
  unfold swK
  have hl := digN_len 12 n (i + 1) h
  by_cases c : i + 1 < (digN 12 n).length
  ·have hp := hl.1 c
   rw [Nat.pow_succ] at hp
   rw [if_pos (by omega), show (digN 12 n).length - 1 - i = ((digN 12 n).length - 1 - (i + 1)) + 1 by omega, List.range'_succ, List.map_cons]
   congr 1
   ·have g1 := digN_get 12 n i h (by omega)
    have g2 := digN_get 12 n (i + 1) h c
    rw [valN_swap i _ _ _ g1 g2, digN_val 12 n h]
    unfold swI
    have e1 : ((n : Int) / ((10 ^ i : Nat) : Int) % 10) = ((n / 10 ^ i % 10 : Nat) : Int) := by rw [Int.natCast_emod, Int.natCast_ediv]; rfl
    have e2 : ((n : Int) / (10 * ((10 ^ i : Nat) : Int)) % 10) = ((n / 10 ^ (i + 1) % 10 : Nat) : Int) := by
     rw [Nat.pow_succ, Nat.mul_comm, Int.natCast_emod, Int.natCast_ediv, Int.natCast_mul]; rfl
    rw [e1, e2, Int.mul_assoc, Int.natCast_pow]
    rfl
   ·have := swK_eq h k (i + 1) (by omega)
    rw [Nat.pow_succ] at this
    rw [<- this]
    congr 1
    omega
  ·rw [if_neg]
   ·rw [show (digN 12 n).length - 1 - i = 0 by omega]; rfl
   ·intro c2
    refine c (hl.2 ?_)
    rw [Nat.pow_succ]; omega
def insI (x : Int) : List Int -> List Int
 | [] => [x]
 | y :: l => if y < x then y :: insI x l else if y = x then y :: l else x :: y :: l
def swapsI (s : Int) : List Int := swK s 10 1
def realsI (s : Int) : List Int := 0 :: 2 * s :: swapsI s
def stepR (s : Int) (out : List Int) (x : Int) : List Int := if x = s \/ x ∈ out then out else insI x out
def reallyI (s : Int) : List Int := (realsI s).foldl (stepR s) []
abbrev strictI (l : List Int) : Prop := l.Pairwise (· < ·)
theorem insI_mem {x y : Int} : ∀ {l : List Int}, y ∈ insI x l ↔ y = x \/ y ∈ l
 | [] => by simp [insI]
 | z :: l => by
  unfold insI
  split
  ·rw [List.mem_cons, insI_mem, List.mem_cons]
   exact ⟨fun h => by rcases h with h | h | h; exact .inr (.inl h); exact .inl h; exact .inr (.inr h), fun h => by rcases h with h | h | h; exact .inr (.inl h); exact .inl h; exact .inr (.inr h)⟩
  ·split
   ·rename_i h; subst h
    rw [List.mem_cons]; exact ⟨fun h => .inr h, fun h => h.elim (fun e => .inl e) id⟩
   ·rw [List.mem_cons]
theorem insI_strict {x : Int} : ∀ {l : List Int}, strictI l -> strictI (insI x l)
 | [], _ => List.pairwise_singleton _ _
 | z :: l, h => by
  have h1 : ∀ y, y ∈ l -> z < y := fun y hy => List.rel_of_pairwise_cons h hy
  have h2 := h.of_cons
  unfold insI
  split
  ·rename_i c
   refine List.Pairwise.cons (fun y hy => ?_) (insI_strict h2)
   rcases insI_mem.1 hy with e | e
   ·rw [e]; exact c
   ·exact h1 y e
  ·split
   ·exact h
   ·rename_i c1 c2
    refine List.Pairwise.cons (fun y hy => ?_) h
    rcases List.mem_cons.1 hy with e | e
    ·rw [e]; omega
    ·have := h1 y e; omega
theorem stepR_fold {s : Int} : ∀ (l out : List Int), strictI out -> s ∉ out -> strictI (l.foldl (stepR s) out) /\ ∀ y, y ∈ l.foldl (stepR s) out ↔ y ∈ out \/ y ∈ l /\ y ≠ s
 | [], out, h, _ => ⟨h, fun y => by simp⟩
 | x :: l, out, h, hs => by
  have hx : strictI (stepR s out x) /\ s ∉ stepR s out x /\ ∀ y, y ∈ stepR s out x ↔ y ∈ out \/ y = x /\ y ≠ s := by
   unfold stepR
   split
   ·rename_i c
    refine ⟨h, hs, fun y => ⟨.inl, fun e => e.elim id fun ⟨e1, e2⟩ => ?_⟩⟩
    rcases c with c | c
    ·exact absurd (e1.trans c) e2
    ·rw [e1]; exact c
   ·rename_i c
    refine ⟨insI_strict h, fun e => (insI_mem.1 e).elim (fun e => c (.inl e.symm)) hs, fun y => insI_mem.trans ⟨fun e => e.elim (fun e => .inr ⟨e, fun k => c (.inl (e.symm.trans k))⟩) .inl, fun e => e.elim .inr fun e => .inl e.1⟩⟩
  obtain ⟨g1, g2⟩ := stepR_fold l _ hx.1 hx.2.1
  refine ⟨g1, fun y => (g2 y).trans ?_⟩
  rw [hx.2.2 y, List.mem_cons]
  exact ⟨fun e => by rcases e with (e | ⟨e, k⟩) | ⟨e, k⟩; exact .inl e; exact .inr ⟨.inl e, k⟩; exact .inr ⟨.inr e, k⟩, fun e => by rcases e with e | ⟨e | e, k⟩; exact .inl (.inl e); exact .inl (.inr ⟨e, k⟩); exact .inr ⟨e, k⟩⟩
theorem really_strict (s : Int) : strictI (reallyI s) := (stepR_fold (realsI s) [] List.Pairwise.nil (by simp)).1
theorem really_mem {s y : Int} : y ∈ reallyI s ↔ y ∈ realsI s /\ y ≠ s := ((stepR_fold (realsI s) [] List.Pairwise.nil (by simp)).2 y).trans (by simp)
theorem strict_ext : ∀ {a b : List Int}, strictI a -> strictI b -> (∀ x, x ∈ a ↔ x ∈ b) -> a = b
 | [], [], _, _, _ => rfl
 | [], y :: b, _, _, h => absurd ((h y).2 (List.mem_cons_self ..)) (by simp)
 | x :: a, [], _, _, h => absurd ((h x).1 (List.mem_cons_self ..)) (by simp)
 | x :: a, y :: b, ha, hb, h => by
  have a1 : ∀ z, z ∈ a -> x < z := fun z hz => List.rel_of_pairwise_cons ha hz
  have b1 : ∀ z, z ∈ b -> y < z := fun z hz => List.rel_of_pairwise_cons hb hz
  have e : x = y := by
   rcases List.mem_cons.1 ((h x).1 (List.mem_cons_self ..)) with e | e
   ·exact e
   ·rcases List.mem_cons.1 ((h y).2 (List.mem_cons_self ..)) with k | k
    ·exact k.symm
    ·have := a1 y k
     have := b1 x e
     omega
  subst e
  congr 1
  refine strict_ext ha.of_cons hb.of_cons fun z => ⟨fun hz => ?_, fun hz => ?_⟩
  ·rcases List.mem_cons.1 ((h z).1 (List.mem_cons_of_mem _ hz)) with e | e
   ·have := a1 z hz; omega
   ·exact e
  ·rcases List.mem_cons.1 ((h z).2 (List.mem_cons_of_mem _ hz)) with e | e
   ·have := b1 z hz; omega
   ·exact e
theorem swI_bd {s ten : Int} (h0 : 0 < ten) (h : 10 * ten <= s) : - 9 * s <= swI s ten /\ swI s ten <= 10 * s := by
 unfold swI
 have a1 : 0 <= s / ten % 10 := by omega
 have a2 : s / ten % 10 <= 9 := by omega
 have b1 : 0 <= s / (10 * ten) % 10 := by omega
 have b2 : s / (10 * ten) % 10 <= 9 := by omega
 generalize s / ten % 10 = a at *
 generalize s / (10 * ten) % 10 = b at *
 have e : s + (a - b) * 10 * ten + (b - a) * ten = s + 9 * ((a - b) * ten) := by
  rw [Int.sub_mul, Int.sub_mul, Int.sub_mul, Int.mul_assoc, Int.mul_assoc, Int.sub_mul]
  rw [Int.mul_left_comm a 10 ten, Int.mul_left_comm b 10 ten]; omega
 rw [e]
 have c1 : (a - b) * ten <= 9 * ten := Int.mul_le_mul_of_nonneg_right (by omega) (by omega)
 have c2 : (-9) * ten <= (a - b) * ten := Int.mul_le_mul_of_nonneg_right (by omega) (by omega)
 omega
theorem swK_bd {s : Int} : ∀ (k : Nat) (ten : Int), 0 < ten -> ∀ y ∈ swK s k ten, - 9 * s <= y /\ y <= 10 * s
 | 0, ten, _, y, hy => by simp [swK] at hy
 | k + 1, ten, h, y, hy => by
  unfold swK at hy
  split at hy
  ·rename_i c
   rcases List.mem_cons.1 hy with e | e
   ·rw [e]; exact swI_bd h c
   ·exact swK_bd k (10 * ten) (by omega) y e
  ·simp at hy
theorem really_bd {s y : Int} (h0 : 0 <= s) (h : y ∈ reallyI s) : - 9 * s <= y /\ y <= 10 * s := by
 obtain ⟨h, -⟩ := really_mem.1 h
 unfold realsI at h
 rcases List.mem_cons.1 h with e | e
 ·omega
 rcases List.mem_cons.1 e with e | e
 ·omega
 ·exact swK_bd 10 1 (by decide) y e
end Go.P8
