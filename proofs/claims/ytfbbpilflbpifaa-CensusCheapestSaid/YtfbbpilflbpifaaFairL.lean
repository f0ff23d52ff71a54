/- The rank of the order with a rank: plain. No conditions. -/
import Derived.Test.YtfbbpilflbpifaaRankQ
set_option linter.constructorNameAsVariable false
set_option linter.unusedVariables false
set_option linter.unusedSimpArgs false
set_option maxRecDepth 100000
namespace Go.P10
open Go.Lom Go.Proofs Go

theorem take_perm : ∀ (m : Nat) (s : List Int) (r : Int), s.length = m → 0 ≤ r → r < facI m → (takeR m s r).Perm s
  | 0, s, r, h, _, _ => by rw [List.eq_nil_of_length_eq_zero h]; exact List.Perm.refl _
  | m + 1, s, r, h, h0, h1 => by
    have hf := fac_pos m
    have hq0 : 0 ≤ r / facI m := Int.ediv_nonneg h0 (by omega)
    have hq1 : r / facI m < m + 1 := by
      rw [facI] at h1
      exact Int.ediv_lt_of_lt_mul (by omega) h1
    have r0 := Int.emod_nonneg r (show facI m ≠ 0 by omega)
    have r1 := Int.emod_lt_of_pos r (show 0 < facI m by omega)
    have hlt : (r / facI m).toNat < s.length := by omega
    rw [takeR]
    have ih := take_perm m (s.eraseIdx (r / facI m).toNat) (r % facI m) (by rw [List.length_eraseIdx_of_lt hlt]; omega) r0 r1
    have hat : s[(r / facI m).toNat]? = some (s.getD (r / facI m).toNat 0) := by rw [List.getD_eq_getElem?_getD, List.getElem?_eq_getElem hlt]; rfl
    exact (ih.cons _).trans (perm_at hat)
theorem less_at : ∀ {s : List Int} {c : Nat} {x : Int}, s.Pairwise (· < ·) → s[c]? = some x → lessN x (s.eraseIdx c) = c
  | [], c, x, _, h => by simp at h
  | y :: s, 0, x, hs, h => by
    simp only [List.getElem?_cons_zero, Option.some.injEq] at h
    subst h
    rw [List.pairwise_cons] at hs
    unfold lessN
    rw [List.eraseIdx_cons_zero, List.countP_eq_zero]
    intro z hz
    have := hs.1 z hz
    simp; omega
  | y :: s, c + 1, x, hs, h => by
    rw [List.pairwise_cons] at hs
    have h : s[c]? = some x := by simpa using h
    have hy := hs.1 x (List.mem_of_getElem? h)
    have := lessN_cons x y (s.eraseIdx c)
    rw [if_pos hy, less_at hs.2 h] at this
    rw [List.eraseIdx_cons_succ]; omega
theorem rank_take : ∀ (m : Nat) (s : List Int) (r : Int), s.Pairwise (· < ·) → s.length = m → 0 ≤ r → r < facI m → rankL (takeR m s r) = r
  | 0, s, r, _, _, h0, h1 => by rw [takeR, rankL]; have : r < 1 := h1; omega
  | m + 1, s, r, hs, h, h0, h1 => by
    have hf := fac_pos m
    have hq0 : 0 ≤ r / facI m := Int.ediv_nonneg h0 (by omega)
    have hq1 : r / facI m < m + 1 := by
      rw [facI] at h1
      exact Int.ediv_lt_of_lt_mul (by omega) h1
    have r0 := Int.emod_nonneg r (show facI m ≠ 0 by omega)
    have r1 := Int.emod_lt_of_pos r (show 0 < facI m by omega)
    have hlt : (r / facI m).toNat < s.length := by omega
    have hl : (s.eraseIdx (r / facI m).toNat).length = m := by rw [List.length_eraseIdx_of_lt hlt]; omega
    have hat : s[(r / facI m).toNat]? = some (s.getD (r / facI m).toNat 0) := by rw [List.getD_eq_getElem?_getD, List.getElem?_eq_getElem hlt]; rfl
    have hp := take_perm m (s.eraseIdx (r / facI m).toNat) (r % facI m) hl r0 r1
    have hc : lessN (s.getD (r / facI m).toNat 0) (takeR m (s.eraseIdx (r / facI m).toNat) (r % facI m)) = (r / facI m).toNat := (hp.countP_eq _).trans (less_at hs hat)
    rw [takeR, rankL, hc, takeR_len, rank_take m _ _ (hs.sublist (List.eraseIdx_sublist ..)) hl r0 r1]
    have := Int.mul_ediv_add_emod r (facI m)
    have e : (((r / facI m).toNat : Nat) : Int) = r / facI m := by omega
    rw [e, Int.mul_comm]; exact this
/-- The rank of the order with a rank is this rank. -/
theorem rank_ord {n r : Int} (hn : 1 ≤ n ∧ n ≤ 8) (h0 : 0 ≤ r) (h1 : r < facI n.toNat) : rankV (ordF n r) = (r, 0) := by
  have hp := take_perm n.toNat (upTo n.toNat) r (upTo_len _) h0 h1
  have hl := ordF_len n r
  have hn2 : (((ordF n r).length : Nat) : Int) = n := by rw [hl]; omega
  have hg : goR (ordF n r).length [] (ordF n r) = true := by
    rw [goR_iff]
    refine ⟨fun x hx => ?_, ?_, fun x _ => by simp⟩
    · have := mem_upTo.1 (hp.mem_iff.1 hx)
      omega
    · exact hp.nodup_iff.2 ((upTo_sorted _).imp fun h => by omega)
  rw [rankV, if_pos ⟨⟨by omega, by omega⟩, hg⟩]
  unfold ordF
  rw [rank_take _ _ _ (upTo_sorted _) (upTo_len _) h0 h1]
end Go.P10
