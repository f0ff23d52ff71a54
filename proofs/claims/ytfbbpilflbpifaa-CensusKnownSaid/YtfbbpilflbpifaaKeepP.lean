/- Turns: Keeps: the code keeps its contract. No conditions. -/
import Derived.Test.YtfbbpilflbpifaaKeepS
set_option linter.constructorNameAsVariable false
set_option linter.unusedVariables false
set_option linter.unusedSimpArgs false
set_option maxRecDepth 100000
set_option maxHeartbeats 4000000
namespace Go.P10
open Go.Lom Go.Proofs Go
theorem fork_room {P Q : Prop} {ps : List Int} {x : Int} (h1 : roomB ps x = true → P) (h2 : roomB ps x = false → Q) : fork (decide (x ≥ 0)) (fork (!decide (x ≤ (ps.length : Int) - 1)) P Q) P := by
  unfold roomB at h1 h2
  refine fork_iff.2 ⟨fun a => fork_iff.2 ⟨fun b => h1 ?_, fun b => h2 ?_⟩, fun a => h1 ?_⟩
  · simp only [Bool.not_eq_true', decide_eq_false_iff_not] at b
    rw [decide_eq_false fun h => b h.2]; rfl
  · have a : x ≥ 0 := of_decide_eq_true a
    simp only [Bool.not_eq_false', decide_eq_true_eq] at b
    rw [decide_eq_true ⟨a, b⟩]; rfl
  · have a : ¬ x ≥ 0 := of_decide_eq_false a
    rw [decide_eq_false fun h => a h.1]; rfl
theorem idx_round2 {k k2 : Nat} {p : Int → Bool} {l : List Int} {i : Int} {Q0 : Prop} {Q1 : Int → Prop} {G : Prop} (h0 : 0 ≤ i) (h1 : i ≤ l.length) (h2 : l.length ≤ big) (q1 : idxF p (l.drop i.toNat) i < 0 → Q0) (q2 : 0 ≤ idxF p (l.drop i.toNat) i → Q1 (idxF p (l.drop i.toNat) i))
    {NX : Prop} (hn : i < l.length → (idxF p (l.drop (i + 1).toNat) (i + 1) < 0 → Q0) → (0 ≤ idxF p (l.drop (i + 1).toNat) (i + 1) → Q1 (idxF p (l.drop (i + 1).toNat) (i + 1))) → NX)
    (hG : (p (l.getD i.toNat 0) = true → Q1 i) → (p (l.getD i.toNat 0) = false → req (inR .i64 (i + 1)) NX) → G) : fork (decide (i < (l.length : Int))) (req (decide (0 ≤ i ∧ i < (l.length : Int))) G) Q0 := by
  refine fork_iff.2 ⟨fun hi => ?_, fun hi => ?_⟩
  · have hi : i < l.length := of_decide_eq_true hi
    rw [drop_step 0 h0 hi, idxF] at q1 q2
    refine req_iff.2 ⟨decide_eq_true ⟨h0, hi⟩, hG (fun e => ?_) fun e => ?_⟩
    · rw [if_pos e] at q2
      exact q2 h0
    · rw [if_neg (by rw [e]; decide)] at q1 q2
      exact req_iff.2 ⟨inR_i64.2 (by unfold big at h2; omega), hn hi q1 q2⟩
  · have hi : ¬ i < l.length := of_decide_eq_false hi
    rw [drop_end hi] at q1
    exact q1 (show (-1 : Int) < 0 by decide)
theorem h96cL (l ps : List Int) (i : Int) (Q : LQ) (h0 : 0 ≤ i) (h1 : i ≤ l.length) (h2 : l.length ≤ big) (h3 : ps.length ≤ 5) (q1 : idxF (roomB ps) (l.drop i.toNat) i < 0 → Q (.exit 0) (stS 1 sh96ce (((), (ps, ())), ()))) (q2 : 0 ≤ idxF (roomB ps) (l.drop i.toNat) i → Q .ret (stS 1 sh96cr (((), (ps, ())), idxF (roomB ps) (l.drop i.toNat) i, ()))) :
    xloop2 Try.prog {} 5 96 0 lc96c ex96c (fun (l, _, m, i, _) => mL l i) (l, ((), (ps, ())), (l.length : Int), i, ()) Q := by
  rw [v96cL]
  exact idx_round2 (k := 0) (k2 := 0) (Q1 := fun j => Q .ret (stS 1 sh96cr (((), (ps, ())), j, ()))) (NX := mL l (i + 1) < mL l i ∧ lc96c.spec (l, ((), (ps, ())), (l.length : Int), i + 1, ()) Q) h0 h1 h2 q1 q2
    (fun hi g1 g2 => ⟨mL_lt hi, ⟨⟨show (0 : Int) ≤ i + 1 by omega, show i + 1 ≤ (l.length : Int) by omega, rfl, h2⟩, h3⟩, g1, g2⟩)
    fun g1 g2 => req_iff.2 ⟨inR_i64.2 (by omega), fork_room g1 g2⟩
theorem ok96cL : Lp2Ok Try.prog 96 0 lc96c := lp2_of (n := 5) (ex := ex96c) (m := fun (l, _, m, i, _) => mL l i) (good2_nil _) fun (l, ((), (ps, ())), m, i, ()) Q hx => by
  obtain ⟨⟨⟨h0, h1, hm, h2⟩, h3⟩, q1, q2⟩ := hx
  have hm : m = (l.length : Int) := hm
  subst hm
  exact h96cL l ps i Q h0 h1 h2 h3 q1 q2
theorem ok96c : F2Ok Try.prog 96 fc96c := fn2_of (n := 5) ((good2_nil _).addL2 ok96cL) fun (l, ((), (ps, ())), ()) K hx => by
  obtain ⟨⟨h1, h3⟩, hK⟩ := hx
  have hK : K ((), ((), (ps, ())), idxF (roomB ps) l 0, ()) := hK
  rw [v96cF]
  refine ⟨⟨⟨Int.le_refl 0, show (0 : Int) ≤ (l.length : Int) by omega, rfl, h1⟩, h3⟩, ?_⟩
  rw [List.drop_zero]
  refine ⟨fun h => ?_, fun _ => hK⟩
  rw [← idxF_neg (roomB ps) l 0 (Int.le_refl 0) h]; exact hK
theorem ok72c : F2Ok Try.prog 72 fc72c := fn2_of (n := 5) ((good2_nil _).addF2 ok96c) fun (l, ((), (ps, ())), ()) K hx => by
  obtain ⟨⟨h1, h3⟩, hK⟩ := hx
  rw [v72cF]
  exact ⟨⟨h1, h3⟩, hK _ idx_any⟩
theorem h42L (ps : List Int) (a : Ag) (l : List Int) (i : Int) (Q : LQ) (h1 : okPs ps) (h2 : validA ps a) (h3 : l.length ≤ 64) (h4 : 0 ≤ i ∧ i ≤ l.length) (h5 : ∀ x ∈ l, 0 ≤ x) (hQ : ∀ r, r = walkB ps a (l.drop i.toNat) → Q (.exit 0) (stS 0 sh42e (r, ()))) :
    xloop2 Try.prog { nm := true, f2 := [(82, fc82)] } 5 42 0 lc42 (fun _ => some (sh42e, 0)) (fun (_, _, _, l, _, i, _) => mL l i) (((ps, ()), ()), a, true, l, (l.length : Int), i, ()) Q := by
  rw [v42L]
  refine fork_iff.2 ⟨fun hi => ?_, fun hi => ?_⟩
  · have hi : i < l.length := of_decide_eq_true hi
    rw [drop_step 0 h4.1 hi, walkB] at hQ
    refine req_iff.2 ⟨decide_eq_true ⟨h4.1, hi⟩, ⟨h1, h2, h5 _ (getD_mem (by omega) 0)⟩, fun b ok hn => ?_⟩
    cases ok with
    | true =>
      rw [if_pos rfl] at hn
      rw [hn] at hQ
      exact fork_iff.2 ⟨fun c => absurd c (by decide), fun _ => req_iff.2 ⟨inR_i64.2 (by omega), mL_lt hi, ⟨h1, nextR_valid h1 h2 hn, rfl, rfl, h3, ⟨show (0 : Int) ≤ i + 1 by omega, show i + 1 ≤ (l.length : Int) by omega⟩, h5⟩, hQ⟩⟩
    | false =>
      rw [if_neg (by decide)] at hn
      rw [hn] at hQ
      exact fork_iff.2 ⟨fun _ => hQ _ rfl, fun c => absurd c (by decide)⟩
  · have hi : ¬ i < l.length := of_decide_eq_false hi
    rw [drop_end hi] at hQ
    exact hQ true rfl
theorem ok42L : Lp2Ok Try.prog 42 0 lc42 := lp2_of (n := 5) (ex := fun _ => some (sh42e, 0)) (m := fun (_, _, _, l, _, i, _) => mL l i) ((good2_nilN _).addF2 ok82) fun (((ps, ()), ()), a, b, l, m, i, ()) Q hx => by
  obtain ⟨⟨h1, h2, hb, hm, h3, h4, h5⟩, hQ⟩ := hx
  have hb : b = true := hb
  have hm : m = (l.length : Int) := hm
  subst hb hm
  exact h42L ps a l i Q h1 h2 h3 h4 h5 hQ
theorem room_range {ps ts : List Int} (h : ts.any (roomB ps) = false) : ∀ x ∈ ts, 0 ≤ x ∧ x < ps.length := fun x hx => by
  have := List.any_eq_false.1 h x hx
  simp only [roomB, Bool.not_eq_true', decide_eq_false_iff_not, Decidable.not_not] at this
  omega
theorem h42 (ps ts : List Int) (K : dens [.b, E] → Prop) (h1 : ps.length ≤ big) (h2 : ts.length ≤ big) (hK : ∀ b e, (b, e) = keepsV ps ts → K (b, e, ())) : xfn1 Try.prog { nm := true, f := [(72, fc72 99 badT)], f2 := [(72, fc72c)], l2 := [(42, 0, lc42)] } 5 42 fc42 (ps, ts, ()) K := by
  rw [v42F]
  have bad : ¬ okTs ps ts → K (false, (105 : Int), ()) := fun h => hK _ _ (by rw [keepsV, if_neg h])
  refine fork_ps h1 (fun hp => bad fun h => hp h.1) fun hp => fork_iff.2 ⟨fun c => bad fun h => ?_, fun c => ⟨⟨h2, hp.1.2⟩, fun b hb => fork_iff.2 ⟨fun d => bad fun h => ?_, fun d => ?_⟩⟩⟩
  · have c : (ts.length : Int) > 64 := of_decide_eq_true c
    have := h.2.1; omega
  · rw [hb, h.2.2] at d; cases d
  · have c : ¬ (ts.length : Int) > 64 := of_decide_eq_false c
    rw [hb] at d
    refine ⟨⟨hp, valid_zero hp, rfl, rfl, by omega, ⟨Int.le_refl 0, show (0 : Int) ≤ (ts.length : Int) by omega⟩, fun x hx => (room_range d x hx).1⟩, fun r hr => hK _ _ ?_⟩
    rw [List.drop_zero] at hr
    rw [keepsV, if_pos ⟨hp, by omega, d⟩, hr]
theorem ok42 : FnOk Try.prog 42 fc42 := fn1_of (n := 5) ((((good2_nilN _).addL2 ok42L).addF2 ok72c).addF ok72F99) fun (ps, ts, ()) K hx => h42 ps ts K hx.1.1 hx.1.2 hx.2
end Go.P10
