/- TicketProper: Proper, the reference, the law: the code keeps its contracts. No conditions. -/
import Derived.Test.YtcpdcpfbgmiaoaaDoorPropQ
set_option linter.all false
set_option maxRecDepth 100000
set_option maxHeartbeats 4000000
namespace Go.P3
open Go.Lom Go.Proofs Go
theorem run_ok {tk : List Tk} : ∀ (l : List Ev) {s r : RS}, okR s -> runI tk s l = some r -> okR r
 | [], s, r, h, e => by
  have e : some s = some r := e
  injection e with e; subst e; exact h
 | x :: l, s, r, h, e => by
  unfold runI at e
  split at e
  ·exact run_ok l (again_ok (x := x) (tk := tk) h).1 e
  ·cases e
theorem properI_none {w : Int} {tk : List Tk} {l : List Ev} (hw : 0 <= w /\ w <= 1000) (h : runI tk (w, 0, [], []) l = none) : properI w tk l = (false, 0) := by unfold properI; rw [if_neg (fun c => c hw), h]
theorem properI_some {w : Int} {tk : List Tk} {l : List Ev} {r : RS} (hw : 0 <= w /\ w <= 1000) (h : runI tk (w, 0, [], []) l = some r) : properI w tk l = (decide (r.2.2.2 = l) && decide (r.2.2.1 = tk), 0) := by unfold properI; rw [if_neg (fun c => c hw), h]
theorem h42F (w : Int) (tk : List Tk) (l : List Ev) (K : dens [.b, I] -> Prop) (ht : okTk tk) (hr : roomL l) (hK : ∀ (b : Bool) (e : Int), (b, e) = properI w tk l -> K (b, e, ())) :
  xfn1 Tryd.prog { nm := true, f := [(49, fcWith), (80, fcEqE), (81, fcEqK)], f2 := [(30, fcTix)], l2 := [(42, 0, lc42)] } 5 42 fcProp (w, tk, l, ()) K := by
 rw [v42F]
 have hlen := fitsN_big (show fitsN l.length 40 = true from hr)
 simp only [fork_iff, req_iff, decide_eq_true_eq, decide_eq_false_iff_not, seg_all, Nat.zero_add, Nat.le_refl, true_and, List.drop_zero, Bool.not_eq_true', Bool.not_eq_false']
 refine ⟨fun hw => hK _ _ (by unfold properI; rw [if_pos hw]), fun hw => ?_⟩
 have hs := okR_start hw
 refine ⟨⟨hs, ht, hr, Int.le_refl (0 : Int), Int.natCast_nonneg _, Int.le_refl (0 : Int)⟩, fun h => hK _ _ (properI_none hw h).symm, fun w1 d1 ts1 es1 h => ?_⟩
 have ho := run_ok l hs h
 obtain ⟨zs, g1, g2⟩ := run_events l hs h
 have g1 : es1 = [] ++ zs := g1
 have hp : properI w tk l = (decide (es1 = l) && decide (ts1 = tk), 0) := properI_some hw h
 refine ⟨⟨ho.len, fun t hm => edges_ok ho t hm⟩, fun l1 e1 => ⟨by rw [g1, List.nil_append, g2]; omega, fun b eb => ⟨fun hb => ⟨⟨?_, ?_⟩, fun c ec => hK _ _ ?_⟩, fun hb => hK _ _ ?_⟩⟩⟩
 ·intro t hm
  rw [e1] at hm
  exact Nat.le_trans (edges_ok ho t hm) (by decide)
 ·rw [e1]; exact Nat.le_trans ho.len (by decide)
 ·rw [hp, ec, e1, <- eb, hb, Bool.true_and]
 ·rw [hp, <- eb, hb, Bool.false_and]
theorem ok42 : FnOk Tryd.prog 42 fcProp := fn1_of (n := 5) (((((good2_nilN _).addL2 ok42L).addF2 ok30).addF ok81).addF ok80 |>.addF ok49) fun (w, tk, l, ()) K hx => h42F w tk l K hx.1.1 hx.1.2 hx.2
end Go.P3
