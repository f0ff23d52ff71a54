/- 'lombardlaw08.TillKnown' returns true, and what it reads stays as it was. No conditions. -/
import Derived.Test.YtfenogdjhadcoaaRows
import Derived.WalkKit
import Derived.ProofKit
import Derived.OpenShut
import Derived.Test.YtfenogdjhadcoaaLibE
import Derived.Test.YtfenogdjhadcoaaKnoP
set_option linter.all false
namespace Go.Proofs.Ytfenogdjhadcoaa.tillKnown
open Go.ChangeShapes Go.WideShapes Go.ChangeAt Go.RowKit
set_option linter.unusedVariables false      -- a walk need not use every 'w<i>' (that an integer argument fits its kind)
theorem own : ownKnob Try.prog.godebug = none := by kernel_rfl
theorem walk (w : World) : Calls Try.prog 11 #[] w fun e w' => e = .returned (.bool true) /\ Below w.heap.size w w' :=
 Go.Lom.law_of (τs := []) Go.P8.ok11 (fun y _ => ⟨y, rfl, rfl⟩) (y := ()) ⟨rfl, fun i v u h _ => by simp [Go.Lom.vals] at h⟩ trivial (Go.Lom.globOk_none fun _ => rfl)
set_option maxRecDepth 100000 in
theorem lifted (os : Os) (started : os.Started) (H : Type) (enc : TypeId × Value -> H) :
  ReturnsInHanded {} Try.checked os 11 .any (Rows.tillKnownSpec.pre6 enc Try.prog Try.f11 Rows.tillKnownRow.domain false) (Rows.tillKnownSpec.post enc Try.prog Try.f11 false true false false) := by
 refine returnsInHanded_of_change (C := Try.checked) own started (by kernel_rfl) Try.func11
  (ChangeSpec.witness6 (enc := enc) (C := Try.checked) false ⟨#[], #[], []⟩ 8 (by kernel_rfl) (by kernel_rfl) (by kernel_rfl) (by kernel_rfl)) ?_
 intro W base args ds gs before hval0 hW hcnd _
 have hval : ∀ (j : Nat) t v, Try.f11.params[j]? = some t -> args[j]? = some v -> Value.okWide Try.prog W .any base t v := hval0
 have hW' := hW
 obtain ⟨p, q, hA0, hV, rfl, hfz, hnd⟩ := hW
 have hA : DataW.TrodAll enc Try.prog W 0 (fun _ => true) true Try.f11.params.toList args.toList ds p := hA0
 rw [Try.params11] at hA hval
 obtain ⟨rfl, rfl, rfl⟩ := trodAll_none hA
 obtain ⟨rfl, rfl⟩ := trodVars_none hV
 clear hA0 hval0
 simp only [List.append_nil] at hW'
 refine (walk  W).mono fun e W' ⟨he, hg⟩ => ?_
 subst he
 exact ⟨_, rfl, Go.Lom.post_of_below (pa := []) (pv := []) hW' (fun _ _ _ => (trodAll_cons_mk (shut_bool Try.underlying4 _) trodAll_mk0)) (fun sp _ => rfl) (fun _ _ => rfl) rfl
  hg (ok_one (by kernel_rfl) rfl (okWide_bool_mk Try.underlying4 _))⟩
theorem over : Rows.tillKnownRow.holds Try.pinned (OpenSpec.ofChange Rows.tillKnownSpec) :=
 OpenClaim.holds_of_wide 11 Try.f11 rfl rfl rfl rfl rfl rfl rfl ⟨rfl, rfl, rfl, rfl, rfl⟩ rfl rfl rfl rfl rfl (by kernel_rfl) Try.func11 (by kernel_rfl)
  (of_decide_eq_true (by kernel_rfl)) (by unfold Func.isWrapper; first | (rw [if_pos (by decide +kernel)]; kernel_rfl) | (rw [if_neg (by decide +kernel)]; exact ⟨rfl, rfl⟩))
  (fun os started H enc _ => lifted os started H enc)
theorem proved : Rows.TillKnownSaid :=
 over
#print axioms proved
end Go.Proofs.Ytfenogdjhadcoaa.tillKnown
