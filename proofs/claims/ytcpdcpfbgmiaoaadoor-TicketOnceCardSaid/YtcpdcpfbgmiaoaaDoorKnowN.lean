/- What is known of calls that only reckon: codes. No conditions. -/
import Derived.Test.YtcpdcpfbgmiaoaaDoorTickP
set_option linter.constructorNameAsVariable false
set_option linter.unusedVariables false
set_option linter.unusedSimpArgs false
set_option maxRecDepth 100000
namespace Go.P3
open Go.Lom Go.Proofs Go

/-- What Number answers. -/
def numA : List AV → Option AV
  | [.str s] => some (.tup [.int .i64 (numberI s).1, .int .i64 (numberI s).2])
  | _ => none
/-- What code answers. -/
def codA : List AV → Option AV
  | [.int .i64 n] => match decide (0 ≤ n ∧ n ≤ 99999999) with
    | true => some (.str (codeS n))
    | false => none
  | _ => none
theorem knowsN : KnowsTrue Tryd.prog ⟨[], [], [(50, codA), (16, numA)]⟩ :=
  ((knows_nil _).pure ok16 numA fun avs r h H nx => by
    unfold numA at h
    split at h
    · injection h with h; subst h
      exact ⟨rfl, rfl, rfl⟩
    · cases h).pure ok50 codA fun avs r h H nx => by
    unfold codA at h
    split at h
    · rename_i n
      split at h
      · rename_i hd
        injection h with h; subst h
        exact ⟨of_decide_eq_true hd, rfl, rfl, rfl⟩
      · cases h
    · cases h
end Go.P3
