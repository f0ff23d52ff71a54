/- Orders: the reference keeps the contracts; CensusDraws returns true. No conditions. -/
import Derived.Test.YtfbbpilflbpifaaOrdS
set_option linter.constructorNameAsVariable false
set_option linter.unusedVariables false
set_option linter.unusedSimpArgs false
set_option maxRecDepth 100000
set_option maxHeartbeats 4000000
namespace Go.P10
open Go.Lom Go.Proofs Go
theorem ne_step {α : Type} [BEq α] [LawfulBEq α] {x y : α} {P Q : Prop} (h : x = y) (hQ : Q) : fork (x != y) P Q := fork_iff.2 ⟨fun c => by rw [h] at c; simp at c, fun _ => hQ⟩
theorem unrank_len {n r : Int} {l : List Int} {e : Int} (h : (l, e) = unrankV n r) : l.length ≤ 8 := by
  unfold unrankV at h
  split at h
  · split at h
    · injection h with h _
      rw [h, ordF_len]; omega
    · injection h with h _
      rw [h]; decide
  · injection h with h _
    rw [h]; decide
theorem draw_len {n m : Int} {l o : List Int} {e : Int} (h : (o, e) = drawV n m l) : o.length ≤ 8 := by
  unfold drawV at h
  split at h
  · split at h
    · injection h with h _
      rw [h, List.length_take, ordF_len]; omega
    · injection h with h _
      rw [h]; decide
  · injection h with h _
    rw [h]; decide
theorem h7 (o : List Int) (n : Int × Int × Int) (l : List Int) (K : dens [.b] → Prop) (h1 : o.length ≤ big) (h2 : inR .i64 n.1 = true) (h3 : l.length ≤ big) (hK : K (true, ())) : xfn1 Try.prog { nm := true, f := [(35, fc35), (36, fc35), (37, fc37), (38, fc37), (39, fc39), (40, fc39), (18, fcSame), (19, fcWorks)] } 5 7 fc7 (o, n, l, ()) K := by
  rw [v7F]
  refine ⟨h1, fun r e hr => ⟨h1, fun r1 e1 hr1 => ?_⟩⟩
  rw [← hr] at hr1
  injection hr1 with g1 g2
  refine ne_step g1.symm (ne_step g2.symm ⟨h2, fun x e hx => ⟨h2, fun y e1 hy => ?_⟩⟩)
  rw [← hx] at hy
  injection hy with g1 g2
  have hl := unrank_len hx
  refine ⟨by omega, fun b hb => fork_not (fun c => ?_) fun _ => ne_step g2.symm ⟨h3, fun x e hx => ⟨h3, fun y e1 hy => ?_⟩⟩⟩
  · rw [c, g1] at hb; simp at hb
  · rw [← hx] at hy
    injection hy with g1 g2
    have hl := draw_len hx
    refine ⟨by omega, fun b hb => fork_iff.2 ⟨fun _ => fork_iff.2 ⟨fun _ => hK, fun c => ?_⟩, fun c => ?_⟩⟩
    · rw [g2] at c; simp at c
    · rw [c, g1] at hb; simp at hb
end Go.P10
