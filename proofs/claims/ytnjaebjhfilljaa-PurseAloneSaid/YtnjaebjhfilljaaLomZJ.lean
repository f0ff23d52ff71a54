/- How long a list of a row is: the form's own reach. No conditions of its own. -/
import Derived.Test.YtnjaebjhfilljaaLomZI
import Derived.SizedLaws
set_option linter.unusedSimpArgs false
set_option linter.unusedVariables false
set_option linter.constructorNameAsVariable false
namespace Go.Lom
open Go.RowKit Go.WideShapes Go.ChangeShapes

section
variable {H : Type} {enc : TypeId × Value → H} {P : Program} {W : World}
theorem len_sized {Z : ZMap} {φ : PMap} {τ : Ty} {xs : List τ.den} {t e : TypeId} {v : Value} {d : DataW H} {p : List MemPlace} {ts : List TypeId} {ds : List (DataW H)} {j : Nat} (hsz : (DataW.weightsEach P ts ds).all (· ≤ reachBytes) = true)
    (ht : ts[j]? = some t) (hd : ds[j]? = some d) (hu : P.underlying t = some (.slice e)) (hT : DataW.Trod enc P W 0 (fun _ => true) true t v d p) (hr : Rep Z φ (Ty.val (.sl τ) xs) v) : xs.length * P.bytesOf e ≤ reachBytes := by
  have hr : Rep Z φ (.rl τ xs) v := hr
  cases hr with
  | rl h =>
  rename_i ao n c
  have hn : xs.length = n := by
    generalize hm : xs.map τ.enc = m at h
    generalize hv : Value.slice ao n c = v at h
    generalize ha : AV.rs m = a at h
    cases h <;> simp at ha hv
    · rename_i hn hc _ _ _ _
      rw [← ha, ← hm] at hn
      simp at hn
      omega
    · rw [ha] at hm
      have : xs = [] := by simpa using hm
      rw [this, hv.2.1]; rfl
  obtain ⟨f, hf⟩ := hT
  rcases DataW.trod_slice hu hf with ⟨hc, hx⟩ | ⟨a, len, cap, elems, rest, m, _, hc, hx, _, _, _, _, hel, _⟩
  · simp [Value.cells] at hc
    rw [hn, hc.2.1]; simp
  · simp [Value.cells] at hc
    injection hx with hx _
    subst hx
    have := sized_slice hsz ht hd hu
    simp at this
    have h2 : xs.length = elems.length := by omega
    rw [h2]
    exact Nat.le_trans (Nat.mul_le_mul_right _ (Nat.le_add_right _ _)) this
end
/-- A law of contents, at one row's contents. -/
theorem law_at {P : Program} {k : FuncId} {τs : List Ty} {spec : Spec (τs.map .v) [.b]} (h : PCok P k (τs.map .v) [.b] spec) {w : World} {us : Array Value} {y : dens τs}
    (hs : ∃ x : densA (τs.map .v), valsA (τs.map .v) x = vals τs y ∧ spec x fun r => r = (true, ())) (hr : Reps (zAll w) noMap (vals τs y) us) : Calls P k us w fun e w' => e = .returned (.bool true) ∧ Below w.heap.size w w' := by
  obtain ⟨x, hx, hsx⟩ := hs
  have := h x _ hsx
  rw [hx] at this
  refine calls_true (this.mono fun e G m he => ?_) hr
  obtain ⟨_, _, r, rfl, rfl⟩ := he
  rfl
end Go.Lom
