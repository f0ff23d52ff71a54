/- Payments of the reference, the statement TillPays: the code keeps its contracts. No conditions. -/
import Derived.Test.YtfenogdjhadcoaaRefL8
set_option linter.all false
set_option maxRecDepth 100000
set_option maxHeartbeats 4000000
namespace Go.P8
open Go.Lom Go.Proofs Go
theorem h46L (cs hv : List Int) (s ms : Int) (o : List Int) (i : Int) (Q : AX -> St -> Prop) (g1 : okC cs hv) (i0 : 0 <= i) (i1 : i <= cs.length) (s0 : 0 <= s) (s1 : s <= 2000) (hms : ms = fewI cs hv (i, s)) (hf : ms < 1073741824) (ho : (o.length : Int) <= i)
  (hQ : ∀ r, r = o ++ payL (lst cs hv i) s -> Q (.exit 0) (stS 1 sh46e (r, ()))) :
  xloop2 Try.prog { nm := true, f := [(78, fc78 9)], l2 := [(46, 1, lc46b)] } 5 46 0 lc46 (fun _ => some (sh46e, 1)) (fun (cs, _, _, _, _, i, _) => mL cs i) (cs, hv, s, ms, o, i, ()) Q := by
 rw [v46L]
 have hl := g1.len
 simp only [fork_iff, req_iff, decide_eq_true_eq, decide_eq_false_iff_not, Nat.zero_add, seg_self, Nat.le_refl, true_and]
 refine ⟨fun hi => ?_, fun hi => hQ _ (by rw [lst_end g1 hi]; simp [payL])⟩
 obtain ⟨⟨c1, c2⟩, d1, d2⟩ := coin_at g1 i0 hi
 obtain ⟨n1, n2, n3, n4⟩ := many_bd g1 i0 hi s0
 have hf2 : fewI cs hv (i, s) < 1073741824 := by rw [<- hms]; exact hf
 have hhas := fewI_has g1 i0 hi s0 hf2
 rw [<- hms] at hhas
 have e : min (hv.getD i.toNat 0) (manyI cs hv (i, s) - 1) = manyI cs hv (i, s) - 1 := by omega
 rw [payL_step g1 i0 hi, <- hms] at hQ
 have hsp := topN_spec (n := (manyI cs hv (i, s) - 1).toNat) (by rw [show (((manyI cs hv (i, s) - 1).toNat : Nat) : Int) = manyI cs hv (i, s) - 1 by omega]; exact hhas)
 have hfin := fewL_fin g1 i0 (show few (lst cs hv i) s < 1073741824 from hf2)
 have hms2 : few (lst cs hv i) s = ms := hms.symm
 rw [hms2] at hfin
 have ms0 : 0 <= ms := by rw [<- hms2]; exact few_nonneg _ _
 rw [e]
 refine ⟨inR_i64.2 (by omega), ⟨g1, ⟨show (0 : Int) <= i + 1 by omega, show i + 1 <= (cs.length : Int) by omega, show (cs.length : Int) - (i + 1) < ((9 : Nat) : Int) by omega⟩, s0, s1⟩, fun rs hrs => ⟨⟨i0, by omega⟩, ⟨g1, ⟨i0, hi⟩, ⟨s0, s1⟩, hrs, ⟨hms, hf⟩, ⟨d1, Int.le_refl _⟩, hhas⟩, fun a ha => ⟨fits100 (by omega), fun ys hys => ?_⟩⟩⟩
 have ha : a = topN (few (lst cs hv (i + 1))) (cs.getD i.toNat 0) s ms (manyI cs hv (i, s) - 1).toNat := ha
 rw [<- ha] at hQ hsp
 obtain ⟨a0, a1, a2⟩ := hsp
 have a1' : a <= s.tdiv (cs.getD i.toNat 0) := by omega
 have hab := mul_bd a0 s0 c1 a1'
 have hyl : o.length + 1 = ys.length := by rw [hys]; simp
 have f0 := few_nonneg (lst cs hv (i + 1)) (s - a * cs.getD i.toNat 0)
 rw [seg_exact hyl]
 exact ⟨⟨i0, hi⟩, inR_i64.2 (by omega), inR_i64.2 (by omega), inR_i64.2 (by omega), inR_i64.2 (by omega), by omega, mL_lt hi, ⟨⟨g1, ⟨show (0 : Int) <= i + 1 by omega, show i + 1 <= (cs.length : Int) by omega⟩, ⟨show (0 : Int) <= s - a * cs.getD i.toNat 0 by omega, show s - a * cs.getD i.toNat 0 <= (2000 : Int) by omega⟩, ⟨show ms - a = few (lst cs hv (i + 1)) (s - a * cs.getD i.toNat 0) by omega, show ms - a < (1073741824 : Int) by omega⟩, show (ys.length : Int) <= i + 1 by omega⟩, fun r hr => hQ r (by
  have hr : r = ys ++ payL (lst cs hv (i + 1)) (s - a * cs.getD i.toNat 0) := hr
  rw [hr, hys, List.append_assoc]; rfl)⟩⟩
theorem ok26 : FnOk Try.prog 26 fcFrom := fn1_of (n := 5) (good2_nil _) fun (a, n, b, ()) K hx => by
  have key : ∀ a n b : Int, K (decide (a <= n /\ n <= b), ()) -> xfn1 Try.prog {} 5 26 fcFrom (a, n, b, ()) K := fun a n b hK => by
    rw [v26F]
    simp only [fork_iff, decide_eq_true_eq, decide_eq_false_iff_not, ge_iff_le]
    first
      | exact ⟨fun h => by rw [decide_eq_true_iff.2 (show True from trivial)] at hK; exact hK, fun h => hK⟩
      | (refine ⟨fun h => ?_, fun h => ?_⟩
         · by_cases h2 : n <= b
           · rw [decide_eq_true (show a <= n /\ n <= b from ⟨h, h2⟩)] at hK; rw [decide_eq_true h2]; exact hK
           · rw [decide_eq_false (show ¬ (a <= n /\ n <= b) from fun e => h2 e.2)] at hK; rw [decide_eq_false h2]; exact hK
         · rw [decide_eq_false (show ¬ (a <= n /\ n <= b) from fun e => h e.1)] at hK; exact hK)
  exact key a n b hx
end Go.P8
