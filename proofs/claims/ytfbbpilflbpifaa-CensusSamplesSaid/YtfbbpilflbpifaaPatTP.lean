/- CensusPatrols: the reference and the statement: the code keeps its contracts. No conditions. -/
import Derived.Test.YtfbbpilflbpifaaPatTS
set_option linter.constructorNameAsVariable false
set_option linter.unusedVariables false
set_option linter.unusedSimpArgs false
set_option maxRecDepth 100000
set_option maxHeartbeats 4000000
namespace Go.P10
open Go.Lom Go.Proofs Go

/-- A loop that looks at all numbers with 'ok = ok && ..'. -/
theorem all_round {p : Int → Bool} {l : List Int} {ok : Bool} {i lo hi : Int} {Q : Bool → Prop} {N : Bool → Prop} (h1 : l.length ≤ big) (h2 : 0 ≤ i) (h3 : i ≤ l.length) (hp : ∀ x, p x = (decide (lo ≤ x) && decide (x ≤ hi)))
    (hQ : ∀ r : Bool, r = (ok && (l.drop i.toNat).all p) → Q r) (hN : i < l.length → ∀ b, (∀ r : Bool, r = (b && (l.drop (i + 1).toNat).all p) → Q r) → N b) :
    fork (decide (i < (l.length : Int))) (fork ok (req (decide (0 ≤ i ∧ i < (l.length : Int))) (fork (decide (lo ≤ l.getD i.toNat 0)) (req (inR .i64 (i + 1)) (N (decide (l.getD i.toNat 0 ≤ hi)))) (req (inR .i64 (i + 1)) (N false)))) (req (inR .i64 (i + 1)) (N false))) (Q ok) := by
  unfold big at h1
  refine fork_iff.2 ⟨fun hi => ?_, fun hi => ?_⟩
  · have hi : i < l.length := of_decide_eq_true hi
    rw [drop_step 0 h2 hi, List.all_cons] at hQ
    have hin : inR .i64 (i + 1) = true := inR_i64.2 (by omega)
    refine fork_iff.2 ⟨fun hok => req_iff.2 ⟨decide_eq_true ⟨h2, hi⟩, fork_iff.2 ⟨fun c => req_iff.2 ⟨hin, hN hi _ fun r hr => hQ r ?_⟩, fun c => req_iff.2 ⟨hin, hN hi _ fun r hr => hQ r ?_⟩⟩⟩, fun hok => req_iff.2 ⟨hin, hN hi _ fun r hr => hQ r ?_⟩⟩
    · rw [hr, hok, hp, c, Bool.true_and, Bool.true_and]
    · rw [hr, hok, hp, c]; rfl
    · rw [hr, hok]; rfl
  · have hi : ¬ i < l.length := of_decide_eq_false hi
    rw [drop_end hi] at hQ
    exact hQ ok (by simp)
theorem okWn_and (x : Int) : okWn x = (decide (1 ≤ x) && decide (x ≤ 10000)) := by unfold okWn; rw [Bool.decide_and]
theorem h90L (l : List Int) (ok : Bool) (i : Int) (Q : LQ) (h1 : l.length ≤ big) (h2 : 0 ≤ i) (h3 : i ≤ l.length) (hQ : ∀ r : Bool, r = (ok && (l.drop i.toNat).all okWn) → Q (.exit 0) (stS 0 sh90e (r, ()))) :
    xloop2 Try.prog {} 5 90 0 lc90 (fun _ => some (sh90e, 0)) (fun (l, _, i, _) => mL l i) (l, ok, i, ()) Q := by
  rw [v90L]
  exact all_round (Q := fun r => Q (.exit 0) (stS 0 sh90e (r, ()))) (N := fun b => mL l (i + 1) < mL l i ∧ LC2.spec lc90 (l, b, i + 1, ()) Q) h1 h2 h3 okWn_and hQ fun hi b hb => ⟨mL_lt hi, ⟨h1, show (0 : Int) ≤ i + 1 by omega, show i + 1 ≤ (l.length : Int) by omega⟩, hb⟩
theorem ok90L : Lp2Ok Try.prog 90 0 lc90 := lp2_of (n := 5) (ex := fun _ => some (sh90e, 0)) (m := fun (l, _, i, _) => mL l i) (good2_nil _) fun (l, ok, i, ()) Q hx => by
  obtain ⟨⟨h1, h2, h3⟩, hQ⟩ := hx
  exact h90L l ok i Q h1 h2 h3 hQ
theorem all_okWn {l : List Int} : l.all okWn = true ↔ ∀ n ∈ l, 1 ≤ n ∧ n ≤ 10000 := by simp [okWn, List.all_eq_true]
theorem ok90 : FnOk Try.prog 90 fc89 := fn1_of (n := 5) ((good2_nil _).addL2 ok90L) fun (l, ()) K hx => by
  obtain ⟨h1, hK⟩ := hx
  have h1 : l.length ≤ big := h1
  have hK : ∀ r : Bool, r = decide (okW l) → K (r, ()) := hK
  show xfn1 Try.prog { l2 := [(90, 0, lc90)] } 5 90 fc89 (l, ()) K
  rw [v90F]
  rw [List.drop_zero]
  have pre : l.length ≤ 9223372036854775807 ∧ (0 : Int) ≤ 0 ∧ (0 : Int) ≤ (l.length : Int) := ⟨h1, Int.le_refl 0, by omega⟩
  refine fork_iff.2 ⟨fun a => ⟨pre, fun r hr => hK r ?_⟩, fun a => ⟨pre, fun r hr => hK r ?_⟩⟩
  · have a : (1 : Int) ≤ l.length := of_decide_eq_true a
    rw [hr]
    by_cases b : (l.length : Int) ≤ 6
    · rw [decide_eq_true b, Bool.true_and]
      cases c : l.all okWn with
      | true => exact (decide_eq_true (show okW l from ⟨⟨by omega, by omega⟩, all_okWn.1 c⟩)).symm
      | false => exact (decide_eq_false fun h : okW l => by rw [all_okWn.2 h.2] at c; cases c).symm
    · rw [decide_eq_false b]
      exact (decide_eq_false fun h : okW l => b (by have := h.1.2; omega)).symm
  · rw [hr]
    exact (decide_eq_false fun h : okW l => (of_decide_eq_false a) (by have := h.1.1; omega)).symm
theorem h24L (l : List Int) (n i : Int) (Q : LQ) (h1 : l.length ≤ big) (h2 : 0 ≤ i) (h3 : i ≤ l.length) (h4 : l.length ≤ 6 → l.all inW = true → 0 ≤ n ∧ n ≤ 64 * i) (hQ : ∀ x : Int, (l.length ≤ 6 → l.all inW = true → x = n + (l.drop i.toNat).sum) → Q (.exit 0) (stS 0 sh24e (x, ()))) :
    xloop2 Try.prog { wr := true } 5 24 0 lc24 (fun _ => some (sh24e, 0)) (fun (l, _, i, _) => mL l i) (l, n, i, ()) Q := by
  rw [v24L]
  unfold big at h1
  refine fork_iff.2 ⟨fun hi => ?_, fun hi => ?_⟩
  · have hi : i < l.length := of_decide_eq_true hi
    rw [drop_step 0 h2 hi, List.sum_cons] at hQ
    have e1 : wrapA .i64 (i + 1) = i + 1 := wrapA_in (inR_i64.2 (by omega))
    rw [e1]
    have hm := getD_mem (show i.toNat < l.length by omega) (0 : Int)
    have hw : l.length ≤ 6 → l.all inW = true → (0 ≤ l.getD i.toNat 0 ∧ l.getD i.toNat 0 ≤ 64) ∧ wrapA .i64 (n + l.getD i.toNat 0) = n + l.getD i.toNat 0 := fun a b => by
      have c := inW_iff.1 (List.all_eq_true.1 b _ hm)
      have d := h4 a b
      exact ⟨c, wrapA_in (inR_i64.2 (by omega))⟩
    generalize l.getD i.toNat 0 = v at *
    refine req_iff.2 ⟨decide_eq_true ⟨h2, hi⟩, mL_lt hi, ⟨h1, ⟨show (0 : Int) ≤ i + 1 by omega, show i + 1 ≤ (l.length : Int) by omega⟩, fun a b => ?_⟩, fun x hx => hQ x fun a b => ?_⟩
    · obtain ⟨c, d⟩ := hw a b
      have e := h4 a b
      rw [d]
      exact ⟨show (0 : Int) ≤ n + v by omega, show n + v ≤ 64 * (i + 1) by omega⟩
    · obtain ⟨c, d⟩ := hw a b
      have hx : x = wrapA .i64 (n + v) + (l.drop (i + 1).toNat).sum := hx a b
      rw [hx, d, Int.add_assoc]
  · have hi : ¬ i < l.length := of_decide_eq_false hi
    rw [drop_end hi] at hQ
    exact hQ n fun _ _ => by simp
theorem ok24L : Lp2Ok Try.prog 24 0 lc24 := lp2_of (n := 5) (ex := fun _ => some (sh24e, 0)) (m := fun (l, _, i, _) => mL l i) (good2_nilW _) fun (l, n, i, ()) Q hx => by
  obtain ⟨⟨h1, h2, h3⟩, hQ⟩ := hx
  exact h24L l n i Q h1 h2.1 h2.2 h3 hQ
theorem ok24w : FnOk Try.prog 24 fc24w := fn1_of (n := 5) ((good2_nil _).addL2 ok24L) fun (l, ()) K hx => by
  obtain ⟨h1, hK⟩ := hx
  have hK : ∀ n : Int, (l.length ≤ 6 → l.all inW = true → n = l.sum) → K (n, ()) := hK
  rw [v24F]
  refine ⟨⟨h1, ⟨Int.le_refl 0, show (0 : Int) ≤ (l.length : Int) by omega⟩, fun _ _ => ⟨Int.le_refl 0, Int.le_refl 0⟩⟩, fun (x : Int) hx => hK x fun a b => ?_⟩
  have hx : x = 0 + (l.drop 0).sum := hx a b
  rw [hx, List.drop_zero, Int.zero_add]
end Go.P10
