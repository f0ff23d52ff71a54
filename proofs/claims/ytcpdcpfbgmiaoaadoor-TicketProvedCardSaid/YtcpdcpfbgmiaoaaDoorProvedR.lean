/- 'lombardlaw03.TicketProved' returns true, and what it reads stays as it was; the package variable that it reads is tied to the program's text. No conditions. -/
import Derived.Test.YtcpdcpfbgmiaoaaDoorCards
import Derived.Test.YtcpdcpfbgmiaoaaDoorTie
import Derived.WalkKit
import Derived.ProofKit
import Derived.OpenShut
import Derived.SizedLaws
import Derived.LaidMore
import Derived.Stop.Joined
import Derived.SevenTiedAt
import Derived.Test.YtcpdcpfbgmiaoaaDoorLibE
import Derived.Test.YtcpdcpfbgmiaoaaDoorLaidG
import Derived.Test.YtcpdcpfbgmiaoaaDoorPrvP
import Derived.Test.YtcpdcpfbgmiaoaaDoorWorksX
set_option linter.all false
namespace Go.Proofs.YtcpdcpfbgmiaoaaDoor.ticketProved
open Go Go.ChangeShapes Go.WideShapes Go.ChangeAt Go.RowKit Go.P3
theorem own : ownKnob Tryd.prog.godebug = none := by kernel_rfl
theorem laidOut : laidOutB Tryd.prog = true := by kernel_rfl
theorem walk {w : World} {us : Array Value} {y : Go.Lom.dens [Go.P3.I, Go.P3.LC', (.pr Go.P3.I Go.P3.I)]} (hr : Go.Lom.Reps (Go.Lom.zAll w) Go.Lom.noMap (Go.Lom.vals [Go.P3.I, Go.P3.LC', (.pr Go.P3.I Go.P3.I)] y) us) (gl : Go.Lom.GlobOk (Go.Lom.zAll w)) (hy : Go.Lom.rngs [Go.P3.I, Go.P3.LC', (.pr Go.P3.I Go.P3.I)] y) : Calls Tryd.prog 12 us w fun e w' => e = .returned (.bool true) /\ Below w.heap.size w w' :=
 Go.Lom.law_of (τs := [Go.P3.I, Go.P3.LC', (.pr Go.P3.I Go.P3.I)]) (Go.P3.okProved Go.P3.okWorks) (fun y hy => ⟨y, rfl, ⟨hy.2.1.1, fun c hc => ⟨(hy.2.1.2 c hc).2.2.2.1, (hy.2.1.2 c hc).2.2.2.2.2.1, (hy.2.1.2 c hc).2.2.2.2.2.2.1⟩⟩, rfl⟩) hr hy gl
set_option maxRecDepth 100000 in
theorem lifted (os : Os) (started : os.Started) (H : Type) (enc : TypeId × Value -> H) :
  ReturnsInHanded {} Tryd.checked os 12 .any (fun w args => (Rows.ticketProvedSpec.pre enc Tryd.prog Tryd.f12 [] false w args /\ laidMetH Tryd.prog laidL w) /\ sizedMet enc Tryd.prog Tryd.f12 (OpenSpec.ofChange Rows.ticketProvedSpec) false w args)
   (Rows.ticketProvedSpec.post enc Tryd.prog Tryd.f12 false true false false) := by
 refine returnsInHanded_of_change_and (C := Tryd.checked) (X := fun w _ => laidMetH Tryd.prog laidL w) (fun _ _ _ hh h => h.of_heap hh) own started (by kernel_rfl) Tryd.func12
  (ChangeSpec.witness_shaped (enc := enc) (C := Tryd.checked) (os := os) (X := fun w _ => laidMetH Tryd.prog laidL w) false (World.doorLaid Tryd.prog 49 os) #[.int .i64 0, .slice none 0 0, .agg #[.int .i64 0, .int .i64 0]] 8 rfl (World.shaped_of_RefB (by kernel_rfl) (by kernel_rfl)) (by kernel_rfl) (by kernel_rfl) (by kernel_rfl) (door_met os _)) ?_
 intro W base args ds gs before hval0 hW _ _ hL _
 have hval : ∀ (j : Nat) t v, Tryd.f12.params[j]? = some t -> args[j]? = some v -> Value.okWide Tryd.prog W .any base t v := hval0
 have hW' := hW
 obtain ⟨p, q, hA0, hV, rfl, hfz, hnd⟩ := hW
 have hA : DataW.TrodAll enc Tryd.prog W 0 (fun _ => true) true Tryd.f12.params.toList args.toList ds p := hA0
 rw [Tryd.params12] at hA hval
 have hA2 := hA
 obtain ⟨v0, vs0, d0, ds0, p0, q0, hargs, rfl, rfl, h0, r0⟩ := trodAll_cons hA
 obtain ⟨v1, vs1, d1, ds1, p1, q1, rfl, rfl, rfl, h1, r1⟩ := trodAll_cons r0
 obtain ⟨v2, vs2, d2, ds2, p2, q2, rfl, rfl, rfl, h2, r2⟩ := trodAll_cons r1
 obtain ⟨rfl, rfl, rfl⟩ := trodAll_nil r2
 obtain rfl : args = #[v0, v1, v2] := by cases args; simp_all
 obtain ⟨rfl, rfl⟩ := trodVars_none hV
 have hlt := hW'.lt
 simp only [List.append_nil] at hW' hA2 hlt
 obtain ⟨y, hy, hry⟩ := Go.Lom.args_contents (d := 8) (τs := [Go.P3.I, Go.P3.LC', (.pr Go.P3.I Go.P3.I)]) (by kernel_rfl) hA2 fun j t v ht hv => hval j t v (by simpa using ht) (by simpa using hv)
 clear hA0 hval0
 refine (walk hy (of_laid hL) hry).mono fun e W' ⟨he, bel⟩ => ?_
 subst he
 exact ⟨_, rfl, Go.Lom.post_of_below (pv := []) hW' (fun _ _ _ => (trodAll_cons_mk (shut_bool Tryd.underlying4 _) trodAll_mk0)) (fun sp hsp => Go.Lom.trodAll_stays laidOut bel (by kernel_rfl) hA2 hlt sp hsp) (fun _ _ => rfl) (by simp)
  bel (ok_one (by kernel_rfl) rfl (okWide_bool_mk Tryd.underlying4 _))⟩
theorem over : Rows.TicketProvedSaid :=
 OpenClaim.holds_of_wide 12 Tryd.f12 rfl rfl rfl rfl rfl rfl rfl ⟨rfl, rfl, rfl, rfl, rfl⟩ rfl rfl rfl rfl rfl (by kernel_rfl) Tryd.func12 (by kernel_rfl)
  (of_decide_eq_true (by kernel_rfl)) (by unfold Func.isWrapper; first | (rw [if_pos (by decide +kernel)]; kernel_rfl) | (rw [if_neg (by decide +kernel)]; exact ⟨rfl, rfl⟩))
  (fun os started H enc _ => lifted os started H enc)
theorem proved : Rows.TicketProvedCardSaid :=
 Claim7.holds_tied_plain_at .later [] [.funcs] true (true, "1137f8ced2db801997bc0e60450897fb4b3d853c95abd6b1f5f39e7719957e75") true
  over (fun _ h => by cases h) (by kernel_rfl) (fun _ h => by cases h) ticketProved_row_tie rfl ⟨rfl, rfl⟩ (by kernel_rfl) rfl
  (fun f fn hf hfn => by
   obtain rfl : f = 12 := Option.some.inj ((show Tryd.prog.funcNamed "lombard/lombardlaw03.TicketProved" = some 12 by kernel_rfl).symm.trans hf) |>.symm
   obtain rfl : fn = Tryd.f12 := (Option.some.inj (Tryd.func12.symm.trans hfn)).symm
   exact ⟨by kernel_rfl, fun j t ht => by
    rw [Tryd.params12] at ht
    have hm : t ∈ ([3, 44, 79] : List TypeId) := by simpa using Array.mem_of_getElem? ht
    have hall : (([3, 44, 79] : List TypeId).all fun u => !Tryd.prog.wantsStandIn u) = true := by kernel_rfl
    exact (show Tryd.prog.wantsStandIn t = false by simpa using List.all_eq_true.1 hall t hm)⟩)
  (by kernel_rfl)
#print axioms proved
end Go.Proofs.YtcpdcpfbgmiaoaaDoor.ticketProved
