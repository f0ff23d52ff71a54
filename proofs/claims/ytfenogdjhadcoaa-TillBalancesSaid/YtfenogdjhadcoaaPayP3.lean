/- Drawers: Check, Pay and Change of the program: the code keeps its contracts. No conditions. -/
import Derived.Test.YtfenogdjhadcoaaPayP
set_option linter.all false
set_option maxRecDepth 100000
set_option maxHeartbeats 4000000
namespace Go.P8
open Go.Lom Go.Proofs Go
theorem haveB_iff {n : Int} : haveB n = true ↔ 0 <= n /\ n <= 50 := by unfold haveB; exact decide_eq_true_iff
theorem haveB_not {n : Int} (h : ¬ (0 <= n /\ n <= 50)) : haveB n = false := decide_eq_false h
theorem h84L (l : List Int) (i : Int) (Q : AX -> St -> Prop) (h0 : 0 <= i) (h1 : i <= l.length) (hl : l.length <= 2000) (hT : (l.drop i.toNat).all haveB = true -> Q (.exit 0) (stS 0 .nil ())) (hF : (l.drop i.toNat).all haveB = false -> Q .ret (stS 0 shR4i (firstBadH (l.drop i.toNat) i, ()))) :
  xloop2 Try.prog {} 5 84 0 lc84 ex84 (fun (l, _, _, i, _) => mL l i) (l, ((), ()), (l.length : Int), i, ()) Q := by
 rw [v84L]
 simp only [fork_iff, req_iff, decide_eq_true_eq, decide_eq_false_iff_not, Bool.not_eq_true', Bool.not_eq_false', ge_iff_le, true_and]
 refine ⟨fun hi => ⟨⟨h0, hi⟩, ?_⟩, fun hi => hT (by rw [drop_end hi]; rfl)⟩
 rw [drop_step 0 h0 hi, List.all_cons] at hT hF
 simp only [firstBadH] at hF
 generalize l.getD i.toNat 0 = x at *
 have bad : ¬ (0 <= x /\ x <= 50) -> Q .ret (stS 0 shR4i (i, ())) := fun h => by
  rw [haveB_not h] at hF
  simpa using hF
 refine ⟨fun hx => ⟨fun hy => bad (by omega), fun hy => ?_⟩, fun hx => bad (by omega)⟩
 have hb : haveB x = true := haveB_iff.2 ⟨hx, hy⟩
 rw [hb, Bool.true_and] at hT hF
 rw [if_pos rfl] at hF
 exact ⟨inR_i64.2 (by omega), mL_lt hi, ⟨⟨show (0 : Int) <= i + 1 by omega, show i + 1 <= (l.length : Int) by omega, hl⟩, hT, hF⟩⟩
theorem getD_in {l : List Int} {i : Nat} (h : i < l.length) : l.getD i 0 ∈ l := by
 rw [List.getD_eq_getElem?_getD, List.getElem?_eq_getElem h]; exact List.getElem_mem _
theorem valueN_nil' : ∀ (l : List Int), valueN l [] = 0
 | [] => rfl
 | _ :: _ => rfl
theorem ok50 : F2Ok Try.prog 50 fc50 := fn2_of (n := 5) (good2_nil _) fun (l, ()) K hx => by
 obtain ⟨g1, hK⟩ := hx
 have g1 : l.length <= 8 := g1
 show xfn2 Try.prog {} 5 50 fc50 (l, ()) K
 rw [v50F]
 simp only [fork_iff, req_iff, decide_eq_true_eq, Nat.zero_add, seg_self, Nat.le_refl, true_and, List.nil_append]
 refine fun b hb => ⟨fun h => ?_, fun h => ⟨fits100 (by omega), hK l rfl⟩⟩
 have : l = [] := List.length_eq_zero_iff.1 (hb h)
 subst this; exact hK [] rfl
end Go.P8
