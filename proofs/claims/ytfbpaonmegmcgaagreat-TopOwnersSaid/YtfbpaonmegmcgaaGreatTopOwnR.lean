/- 'TopOwners' returns true, and what it reads stays as it was. No conditions. -/
import Derived.Test.YtfbpaonmegmcgaaGreatRows
import Derived.WalkKit
import Derived.ProofKit
import Derived.OpenShut
import Derived.SizedLaws
import Derived.Test.YtfbpaonmegmcgaaGreatLibE
import Derived.Test.YtfbpaonmegmcgaaGreatToE
set_option linter.all false
namespace Go.Proofs.YtfbpaonmegmcgaaGreat.topOwners
open Go.ChangeShapes Go.WideShapes Go.ChangeAt Go.RowKit
theorem own : ownKnob Tryz.prog.godebug = none := by kernel_rfl
theorem laidOut : laidOutB Tryz.prog = true := by kernel_rfl
theorem walk {w : World} {us : Array Value} {y : Go.Lom.dens [Go.PT.TFo, Go.PT.L, Go.PT.T3c]} (hr : Go.Lom.Reps (Go.Lom.zAll w) Go.Lom.noMap (Go.Lom.vals [Go.PT.TFo, Go.PT.L, Go.PT.T3c] y) us) (hy : Go.Lom.rngs [Go.PT.TFo, Go.PT.L, Go.PT.T3c] y)  : Calls Tryz.prog 3 us w fun e w' => e = .returned (.bool true) /\ Below w.heap.size w w' :=
 Go.Lom.law_of (τs := [Go.PT.TFo, Go.PT.L, Go.PT.T3c]) Go.PT.ok3' (fun y hy => ⟨y, rfl, ⟨⟨hy.1.2.1.1, hy.1.2.2.1.1, hy.1.2.2.2.1.1, hy.1.2.2.2.2.1.1, hy.1.2.2.2.2.2.1.1, hy.1.2.2.2.2.2.2.1.1⟩, hy.2.1.1, ⟨hy.2.2.1.1.1.1, hy.2.2.1.1.2.1⟩, hy.2.2.1.2.1.1, hy.2.2.1.2.2.1⟩, rfl⟩) hr hy (Go.Lom.globOk_none fun _ => rfl)
set_option maxRecDepth 100000 in
theorem lifted (os : Os) (started : os.Started) (H : Type) (enc : TypeId × Value -> H) :
  ReturnsInHanded {} Tryz.checked os 3 .any (Rows.topOwnersSpec.pre6 enc Tryz.prog Tryz.f3 Rows.topOwnersRow.domain false) (Rows.topOwnersSpec.post enc Tryz.prog Tryz.f3 false true false false) := by
 refine returnsInHanded_of_change_sized (C := Tryz.checked) own started (by kernel_rfl) Tryz.func3
  (ChangeSpec.witness6 (enc := enc) (C := Tryz.checked) false ⟨#[], #[.agg #[.int .i64 0, .slice none 0 0, .slice none 0 0, .slice none 0 0, .slice none 0 0, .slice none 0 0, .slice none 0 0, .int .i64 0, .int .i64 0], .slice none 0 0, .agg #[.slice none 0 0, .slice none 0 0, .slice none 0 0, .slice none 0 0]], []⟩ 8 (by kernel_rfl) (by kernel_rfl) (by kernel_rfl) (by kernel_rfl)) ?_
 intro W base args ds gs before hval0 hW hcnd hsz0 _
 have hval : ∀ (j : Nat) t v, Tryz.f3.params[j]? = some t -> args[j]? = some v -> Value.okWide Tryz.prog W .any base t v := hval0
 have hW' := hW
 have hsz : (DataW.weightsEach Tryz.prog (Tryz.f3.params.toList ++ Rows.topOwnersSpec.plain.varTypes Tryz.prog) (ds ++ gs)).all (· <= reachBytes) = true := hsz0
 obtain ⟨p, q, hA0, hV, rfl, hfz, hnd⟩ := hW
 have hA : DataW.TrodAll enc Tryz.prog W 0 (fun _ => true) true Tryz.f3.params.toList args.toList ds p := hA0
 rw [Tryz.params3] at hA hval hsz
 have hA2 := hA
 obtain ⟨v0, vs0, d0, ds0, p0, q0, hargs, rfl, rfl, h0, r0⟩ := trodAll_cons hA
 obtain ⟨v1, vs1, d1, ds1, p1, q1, rfl, rfl, rfl, h1, r1⟩ := trodAll_cons r0
 obtain ⟨v2, vs2, d2, ds2, p2, q2, rfl, rfl, rfl, h2, r2⟩ := trodAll_cons r1
 obtain ⟨rfl, rfl, rfl⟩ := trodAll_nil r2
 obtain rfl : args = #[v0, v1, v2] := by cases args; simp_all
 obtain ⟨rfl, rfl⟩ := trodVars_none hV
 have hlt := hW'.lt
 simp only [List.append_nil] at hW' hA2 hlt
 obtain ⟨y, hy, hry⟩ := Go.Lom.args_contents (d := 8) (τs := [Go.PT.TFo, Go.PT.L, Go.PT.T3c]) (by kernel_rfl) hA2 fun j t v ht hv => hval j t v (by simpa using ht) (by simpa using hv)
 clear hA0 hval0
 refine (walk hy hry ).mono fun e W' ⟨he, bel⟩ => ?_
 subst he
 exact ⟨_, rfl, Go.Lom.post_of_below (pv := []) hW' (fun _ _ _ => (trodAll_cons_mk (shut_bool Tryz.underlying4 _) trodAll_mk0)) (fun sp hsp => Go.Lom.trodAll_stays laidOut bel (by kernel_rfl) hA2 hlt sp hsp) (fun _ _ => rfl) (by simp)
  bel (ok_one (by kernel_rfl) rfl (okWide_bool_mk Tryz.underlying4 _))⟩
theorem over : Rows.topOwnersRow.holds Tryz.pinned (OpenSpec.ofChange Rows.topOwnersSpec) :=
 OpenClaim.holds_of_wide 3 Tryz.f3 rfl rfl rfl rfl rfl rfl rfl ⟨rfl, rfl, rfl, rfl, rfl⟩ rfl rfl rfl rfl rfl (by kernel_rfl) Tryz.func3 (by kernel_rfl)
  (of_decide_eq_true (by kernel_rfl)) (by unfold Func.isWrapper; first | (rw [if_pos (by decide +kernel)]; kernel_rfl) | (rw [if_neg (by decide +kernel)]; exact ⟨rfl, rfl⟩))
  (fun os started H enc _ => lifted os started H enc)
theorem proved : Rows.TopOwnersSaid := over
#print axioms proved
end Go.Proofs.YtfbpaonmegmcgaaGreat.topOwners
