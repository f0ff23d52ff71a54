/- Tickets: the law of digits, in plain terms. No conditions. -/
import Derived.Test.YtcpdcpfbgmiaoaaDoorCodesP
set_option linter.all false
set_option maxRecDepth 100000
namespace Go.P3
open Go.Lom Go.Proofs Go
def val : List Int -> Int
 | [] => 0
 | c :: l => (c - 48) * 10 ^ l.length + val l
theorem val_snoc : ∀ (l : List Int) (c : Int), val (l ++ [c]) = 10 * val l + (c - 48)
 | [], c => by simp [val]
 | a :: l, c => by
  simp only [List.cons_append, val, List.length_append, List.length_singleton]
  rw [val_snoc l c, Int.pow_succ, Int.mul_add, <- Int.mul_assoc, <- Int.mul_assoc, Int.mul_comm ((a - 48) * 10 ^ l.length) 10, <- Int.mul_assoc]
  omega
theorem byteI_nat {c : Int} (h0 : 0 <= c) (h1 : c < 256) : ((byteI c).toNat : Int) = c := by
 unfold byteI
 rw [UInt8.toNat_ofNat']
 omega
theorem byI_app (s t : List UInt8) : byI (s ++ t) = byI s ++ byI t := by simp [byI]
theorem byI_len (s : List UInt8) : (byI s).length = s.length := by simp [byI]
theorem byI_dig : ∀ (k : Nat) (n : Int), byI (dig (k + 1) n) = byI (dig k (n.tdiv 10)) ++ [((byteI (48 + n.tmod 10)).toNat : Int)] := fun k n => by
 simp only [dig, byI_app]; rfl
theorem val_dig : ∀ (k : Nat) (n : Int), 0 <= n -> n < 10 ^ k -> val (byI (dig k n)) = n /\ ∀ c ∈ byI (dig k n), 48 <= c /\ c <= 57
 | 0, n, h0, h1 => ⟨by simp at h1; show (0 : Int) = n; omega, fun c hc => by cases hc⟩
 | k + 1, n, h0, h1 => by
  obtain ⟨e1, e2⟩ := tm10 h0
  rw [Int.pow_succ] at h1
  obtain ⟨g1, g2⟩ := val_dig k (n.tdiv 10) (by rw [e2]; omega) (by rw [e2]; omega)
  have hb : ((byteI (48 + n.tmod 10)).toNat : Int) = 48 + n.tmod 10 := byteI_nat (by omega) (by omega)
  rw [byI_dig, hb, val_snoc, g1]
  refine ⟨by rw [e1, e2]; omega, fun c hc => ?_⟩
  rcases List.mem_append.1 hc with hc | hc
  ·exact g2 c hc
  ·rw [List.mem_singleton.1 hc]; omega
theorem fullI_bd {n : Int} (h0 : 0 <= n) (h1 : n <= 99999999) : 100 * n + 2 <= fullI n /\ fullI n <= 100 * n + 98 /\ fullI n % 97 = 1 := by
 have e : (100 * n).tmod 97 = (100 * n) % 97 := Int.tmod_eq_emod_of_nonneg (by omega)
 unfold fullI
 rw [e]
 omega
theorem code_len (n : Int) : (codeS n).length = 10 := by rw [codeS_dig, dig_len]
theorem code_val {n : Int} (h0 : 0 <= n) (h1 : n <= 99999999) : val (byI (codeS n)) = fullI n /\ ∀ c ∈ byI (codeS n), 48 <= c /\ c <= 57 := by
 obtain ⟨b1, b2, _⟩ := fullI_bd h0 h1
 rw [codeS_dig]
 exact val_dig 10 _ (by omega) (by show _ < (10000000000 : Int); omega)
theorem getD_mem {l : List Int} {i : Nat} (h : i < l.length) : l.getD i 0 ∈ l := by
 rw [List.getD_eq_getElem?_getD, List.getElem?_eq_getElem h]; exact List.getElem_mem h
theorem num_some {s : List UInt8} (hl : s.length = 10) (hd : ∀ c ∈ byI s, 48 <= c /\ c <= 57) : numK s 10 0 0 = some (val (byI s) / 100) := by
 have hc : ∀ i : Int, 0 <= i -> i < 10 -> 48 <= cI s i /\ cI s i <= 57 := fun i h0 h1 => by
  have := hd _ (getD_mem (l := byI s) (i := i.toNat) (by rw [byI_len]; omega))
  rw [byI_getD] at this; exact this
 match s, hl with
 | [c0, c1, c2, c3, c4, c5, c6, c7, c8, c9], _ =>
  have h0 := hc 0 (by omega) (by omega); have h1 := hc 1 (by omega) (by omega); have h2 := hc 2 (by omega) (by omega); have h3 := hc 3 (by omega) (by omega); have h4 := hc 4 (by omega) (by omega)
  have h5 := hc 5 (by omega) (by omega); have h6 := hc 6 (by omega) (by omega); have h7 := hc 7 (by omega) (by omega); have h8 := hc 8 (by omega) (by omega); have h9 := hc 9 (by omega) (by omega)
  simp only [cI] at h0 h1 h2 h3 h4 h5 h6 h7 h8 h9
  change 48 <= (c0.toNat : Int) /\ (c0.toNat : Int) <= 57 at h0
  change 48 <= (c1.toNat : Int) /\ (c1.toNat : Int) <= 57 at h1
  change 48 <= (c2.toNat : Int) /\ (c2.toNat : Int) <= 57 at h2
  change 48 <= (c3.toNat : Int) /\ (c3.toNat : Int) <= 57 at h3
  change 48 <= (c4.toNat : Int) /\ (c4.toNat : Int) <= 57 at h4
  change 48 <= (c5.toNat : Int) /\ (c5.toNat : Int) <= 57 at h5
  change 48 <= (c6.toNat : Int) /\ (c6.toNat : Int) <= 57 at h6
  change 48 <= (c7.toNat : Int) /\ (c7.toNat : Int) <= 57 at h7
  change 48 <= (c8.toNat : Int) /\ (c8.toNat : Int) <= 57 at h8
  change 48 <= (c9.toNat : Int) /\ (c9.toNat : Int) <= 57 at h9
  have e : ∀ (c : UInt8) (k : Nat) (i n : Int), cI [c0, c1, c2, c3, c4, c5, c6, c7, c8, c9] i = (c.toNat : Int) -> 48 <= (c.toNat : Int) /\ (c.toNat : Int) <= 57 ->
    numK [c0, c1, c2, c3, c4, c5, c6, c7, c8, c9] (k + 1) i n = numK [c0, c1, c2, c3, c4, c5, c6, c7, c8, c9] k (i + 1) (if i < 8 then 10 * n + ((c.toNat : Int) - 48) else n) := fun c k i n hi hd => by
   simp only [numK]
   rw [if_neg (by rw [hi]; omega), hi]
  rw [e c0 9 0 _ rfl h0, e c1 8 (0 + 1) _ rfl h1, e c2 7 (0 + 1 + 1) _ rfl h2, e c3 6 (0 + 1 + 1 + 1) _ rfl h3, e c4 5 (0 + 1 + 1 + 1 + 1) _ rfl h4, e c5 4 (0 + 1 + 1 + 1 + 1 + 1) _ rfl h5, e c6 3 (0 + 1 + 1 + 1 + 1 + 1 + 1) _ rfl h6, e c7 2 (0 + 1 + 1 + 1 + 1 + 1 + 1 + 1) _ rfl h7, e c8 1 (0 + 1 + 1 + 1 + 1 + 1 + 1 + 1 + 1) _ rfl h8, e c9 0 (0 + 1 + 1 + 1 + 1 + 1 + 1 + 1 + 1 + 1) _ rfl h9]
  simp only [numK, byI, List.map_cons, List.map_nil, val, List.length_cons, List.length_nil]
  simp
  omega
theorem num_code {n : Int} (h0 : 1 <= n) (h1 : n <= 99999999) : numberI (codeS n) = (n, 0) := by
 obtain ⟨v1, v2⟩ := code_val (n := n) (by omega) h1
 obtain ⟨b1, b2, _⟩ := fullI_bd (n := n) (by omega) h1
 unfold numberI
 rw [if_neg (by rw [code_len]; simp), num_some (code_len n) v2, v1, show fullI n / 100 = n by omega]
 simp only
 rw [if_neg (by rintro (h | h); omega; exact h rfl)]
theorem num_valid {b : List UInt8} {r : Int} (h : numberI b = (r, 0)) : b = codeS r /\ 1 <= r /\ r <= 99999999 := by
 unfold numberI at h
 split at h
 ·cases h
 ·split at h
  ·cases h
  ·rename_i hl n hn
   split at h
   ·cases h
   ·rename_i hc
    simp only [Prod.mk.injEq, and_true] at h
    subst h
    have := numK_bd b 10 0 0 n hn (by omega) (by omega) (by omega) (by decide)
    have e8 : (10 : Int) ^ 8 = 100000000 := by decide
    refine ⟨?_, by omega, by omega⟩
    by_cases e : codeS n = b
    ·exact e.symm
    ·exact absurd (.inr e) hc
end Go.P3
