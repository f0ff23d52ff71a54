/- Tickets: the law of digits, in plain terms. No conditions. -/
import Derived.Test.YtcpdcpfbgmiaoaaDoorCodesP
set_option linter.all false
set_option maxRecDepth 100000
namespace Go.P3
open Go.Lom Go.Proofs Go
def val : List Int -> Int
 | [] => 0
 | c :: l => (c - 48) * 10 ^ l.length + val l
theorem num_valid {b : List UInt8} {r : Int} (h : numberI b = (r, 0)) : b = codeS r /\ 1 <= r /\ r <= 99999999 := by
 unfold numberI at h
 split at h
 ·cases h
 ·split at h
  ·cases h
  ·rename_i hl n hn
   split at h
   ·cases h
   ·rename_i hc
    simp only [Prod.mk.injEq, and_true] at h
    subst h
    have := numK_bd b 10 0 0 n hn (by omega) (by omega) (by omega) (by decide)
    have e8 : (10 : Int) ^ 8 = 100000000 := by decide
    refine ⟨?_, by omega, by omega⟩
    by_cases e : codeS n = b
    ·exact e.symm
    ·exact absurd (.inr e) hc
end Go.P3
