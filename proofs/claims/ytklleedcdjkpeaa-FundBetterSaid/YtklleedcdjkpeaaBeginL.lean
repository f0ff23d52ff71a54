/- Funds: the plain law of starts. No conditions. -/
import Derived.Test.YtklleedcdjkpeaaRunS
import Derived.Test.YtklleedcdjkpeaaRunP
import Derived.Test.YtklleedcdjkpeaaStartsP
set_option linter.constructorNameAsVariable false
set_option linter.unusedVariables false
set_option linter.unusedSimpArgs false
set_option maxRecDepth 100000
namespace Go.P9
open Go.Lom Go.Proofs Go

/-- Passes come to an end. -/
theorem passN_end (ws : List Way) : ∀ (m : Nat) (d : List Int), muD d ≤ m → InvD d → wsOk d.length ws → ∃ k, passD ws (passN ws k d) = passN ws k d
  | m, d, hm, hi, hw => by
    rcases passD_mu ws hi hw with h | h
    · exact ⟨0, h⟩
    · cases m with
      | zero => omega
      | succ m =>
        obtain ⟨k, hk⟩ := passN_end ws m (passD ws d) (by omega) (passD_inv ws hi hw) (by rw [passD_len]; exact hw)
        exact ⟨k + 1, hk⟩
theorem startsL_fix {f : Fd} (h : okF f = true) (l : List Int) : mpass (fWays f) (KD (startsL f l)) = KD (startsL f l) := by
  have hn := okF_n h
  have hw := okF_ws h
  have hi := initD_inv (n := (fGroups f).length) l hn
  have hw' : wsOk (initD (fGroups f).length l).length (fWays f) := by rw [initD_len]; exact hw
  obtain ⟨k, hk⟩ := passN_end (fWays f) _ _ (Nat.le_refl _) hi hw'
  have hv : ∀ w ∈ fWays f, w.2.1.toNat < (fGroups f).length := fun w hm => by have := (hw w hm).2.2.1; have := (hw w hm).2.2.2.1; omega
  have ir := passN_inv (fWays f) k hi hw'
  have kr : KD (passN (fWays f) k (initD (fGroups f).length l)) = mpassN (fWays f) k (KD (initD (fGroups f).length l)) := KD_passN _ k hi hw'
  have fx : mpass (fWays f) (KD (passN (fWays f) k (initD (fGroups f).length l))) = KD (passN (fWays f) k (initD (fGroups f).length l)) := by
    rw [← KD_pass _ ir (by rw [passN_len]; exact hw'), hk]
  have e : KD (startsL f l) = KD (passN (fWays f) k (initD (fGroups f).length l)) := by
    unfold startsL
    rw [KD_passN _ _ hi hw']
    exact bf fx hv _ _ (fun x => by rw [kr]; exact mpassN_le _ k _ x) ⟨k, kr.symm⟩ (fun x hx => by rw [kr]; exact (mpassN_out hv k _ x hx).symm) (by omega)
  rw [e, fx]
theorem KD_at {f : Fd} (h : okF f = true) (l : List Int) {i : Nat} (hi : i < (fGroups f).length) : (0 ≤ (startsL f l).getD i 0 → KD (startsL f l) i = (startsL f l).getD i 0 ∧ (startsL f l).getD i 0 ≤ 96) ∧ ((startsL f l).getD i 0 < 0 → KD (startsL f l) i = 1000) := by
  have hl : i < (startsL f l).length := by rw [startsL_len]; exact hi
  have := (startsL_inv h l).at hl 0
  unfold KD keyD
  rw [getD_any hl (-1) 0]
  constructor
  · intro g; exact ⟨if_neg (by omega), this.2⟩
  · intro g; exact if_pos g
theorem KD_starts {f : Fd} (h : okF f = true) (l : List Int) : KD (startsL f l) = mpassN (fWays f) (fGroups f).length (KD (initD (fGroups f).length l)) :=
  KD_passN _ _ (initD_inv l (okF_n h)) (by rw [initD_len]; exact okF_ws h)

/-! one more -/
end Go.P9
