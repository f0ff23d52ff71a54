/- TillKnown: the code keeps its contract. No conditions. -/
import Derived.Test.YtfenogdjhadcoaaKnoV
import Derived.Test.YtfenogdjhadcoaaScaP2
import Derived.Test.YtfenogdjhadcoaaPayP3
import Derived.Test.YtfenogdjhadcoaaDayP6
import Derived.Test.YtfenogdjhadcoaaWorksT
set_option linter.all false
set_option maxRecDepth 100000
set_option maxHeartbeats 4000000
namespace Go.P8
open Go.Lom Go.Proofs Go
theorem few_big {α : Type} {l : List α} (h : fewB l = true) : l.length <= big := Nat.le_trans (Nat.le_of_ble_eq_true h) (show 100 <= big by decide)
theorem pair_eq {α β : Type} {a : α} {b : β} {x : α × β} (h : (a, b) = x) : x.1 = a /\ x.2 = b := by subst h; exact ⟨rfl, rfl⟩
theorem kk12 : FnOk Try.prog 12 fk12 := fun x K hx => by
 obtain ⟨h, hK⟩ := whenB_iff.1 hx
 rw [Bool.and_eq_true] at h
 exact ok12 x K ⟨⟨few_big h.1, few_big h.2⟩, fun r e he => by rw [(pair_eq he).1, (pair_eq he).2] at hK; exact hK⟩
theorem kk17 : FnOk Try.prog 17 fk17 := fun x K hx => by
 obtain ⟨h, hK⟩ := whenB_iff.1 hx
 rw [Bool.and_eq_true, Bool.and_eq_true] at h
 exact ok17 x K ⟨⟨few_big h.1, few_big h.2.1, few_big h.2.2⟩, fun r e he => by rw [(pair_eq he).1, (pair_eq he).2] at hK; exact hK⟩
theorem kk37 : FnOk Try.prog 37 fk37 := fun x K hx => ok37 x K ⟨trivial, fun r e he => by
 have hK : K ((if 3 <= x.1 /\ x.1 <= 12 then (weighT x.1, (0 : Int)) else ([], 7)).1, (if 3 <= x.1 /\ x.1 <= 12 then (weighT x.1, (0 : Int)) else ([], 7)).2, ()) := hx
 rw [(pair_eq he).1, (pair_eq he).2] at hK; exact hK⟩
theorem kk22 : FnOk Try.prog 22 fk22 := fun x K hx => by
 obtain ⟨h, hK⟩ := whenB_iff.1 hx
 rw [Bool.and_eq_true, Bool.and_eq_true] at h
 exact ok22 x K ⟨⟨few_big h.1, few_big h.2.1, few_big h.2.2⟩, fun r e he => by rw [(pair_eq he).1, (pair_eq he).2] at hK; exact hK⟩
theorem kk19 : FnOk Try.prog 19 fk19 := okWorks
theorem ok11 : FnOk Try.prog 11 fk19 := fn1_of (n := 60) (((((((((good2_nilF _ 1064).addF kk39).addF kk37).addF kk34).addF kk32).addF kk31).addF kk22).addF kk19).addF kk17 |>.addF kk12) fun x K hK => by
 have hK : K (true, ()) := hK
 show xfn1 Try.prog { un := 1064, fz := true, f := [(12, fk12), (17, fk17), (19, fk19), (22, fk22), (31, fk31), (32, fk32), (34, fk34), (37, fk37), (39, fk39)] } 60 11 fk19 () K
 rw [v11K]; exact hK
end Go.P8
