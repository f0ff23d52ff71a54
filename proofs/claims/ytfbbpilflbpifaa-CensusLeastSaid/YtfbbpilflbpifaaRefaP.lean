/- Audits: the reference keeps the contracts. No conditions. -/
import Derived.Test.YtfbbpilflbpifaaRefaL
set_option linter.constructorNameAsVariable false
set_option linter.unusedVariables false
set_option linter.unusedSimpArgs false
set_option maxRecDepth 100000
set_option maxHeartbeats 4000000
namespace Go.P10
open Go.Lom Go.Proofs Go

theorem h95L (n k i : Int) (Q : LQ) (h0 : 0 ≤ k) (h1 : k ≤ n) (h2 : n ≤ 8) (h3 : 1 ≤ i) (h4 : i ≤ k + 1) (hQ : ∀ r : Int, r = chs n k → Q (.exit 0) (stS 0 sh95e (r, ()))) :
    xloop2 Try.prog {} 5 95 0 lc95 (fun _ => some (sh95e, 0)) (fun (_, k, _, i, _) => (k + 1 - i).toNat) (n, k, cR n k (i - 1).toNat, i, ()) Q := by
  rw [v95L]
  have b1 := cR_bd (i := (i - 1).toNat) h0 h1 h2 (by omega)
  refine fork_iff.2 ⟨fun c => ?_, fun c => ?_⟩
  · have c : i ≤ k := of_decide_eq_true c
    have b2 := cR_bd (i := (i - 1).toNat + 1) h0 h1 h2 (by omega)
    have e : cR n k ((i - 1).toNat + 1) = Int.tdiv (cR n k (i - 1).toNat * (n - k + i)) i := by
      rw [cR]; congr 2 <;> omega
    rw [← e]
    have m := mul_bd b1.1 b1.2 (show 0 ≤ n - k + i by omega) (show n - k + i ≤ 16 by omega)
    refine req_iff.2 ⟨inR_i64.2 (by omega), req_iff.2 ⟨inR_i64.2 (by omega), req_iff.2 ⟨inR_i64.2 (by omega), req_iff.2 ⟨decide_eq_true (by omega), req_iff.2 ⟨inR_i64.2 (by omega), req_iff.2 ⟨inR_i64.2 (by omega), show (k + 1 - (i + 1)).toNat < (k + 1 - i).toNat by omega, ⟨⟨h0, h1, h2⟩, ⟨show 1 ≤ i + 1 by omega, show i + 1 ≤ k + 1 by omega⟩, ?_⟩, hQ⟩⟩⟩⟩⟩⟩
    rw [show (i + 1 - 1).toNat = (i - 1).toNat + 1 by omega]
  · have c : ¬ i ≤ k := of_decide_eq_false c
    rw [show (i - 1).toNat = k.toNat by omega, cR_end h0 h1 h2]
    exact hQ _ rfl
theorem ok95L : Lp2Ok Try.prog 95 0 lc95 := lp2_of (n := 5) (ex := fun _ => some (sh95e, 0)) (m := fun (_, k, _, i, _) => (k + 1 - i).toNat) (good2_nil _) fun (n, k, x, i, ()) Q hx => by
  obtain ⟨⟨h1, h2, hx⟩, hQ⟩ := hx
  have hx : x = cR n k (i - 1).toNat := hx
  subst hx
  exact h95L n k i Q h1.1 h1.2.1 h1.2.2 h2.1 h2.2 hQ
theorem h95 (n k : Int) (K : dens [I] → Prop) (h1 : 0 ≤ n ∧ n ≤ 8) (h2 : 0 ≤ k ∧ k ≤ 8) (hK : ∀ r : Int, r = chs n k → K (r, ())) : xfn1 Try.prog { l2 := [(95, 0, lc95)] } 5 95 fc95 (n, k, ()) K := by
  rw [v95F]
  refine fork_iff.2 ⟨fun c => absurd (of_decide_eq_true c) (by omega), fun _ => fork_iff.2 ⟨fun c => ?_, fun c => ?_⟩⟩
  · have c : k > n := of_decide_eq_true c
    exact hK 0 (chs_zero h1.1 c h2.2).symm
  · have c : ¬ k > n := of_decide_eq_false c
    exact ⟨⟨⟨h2.1, show k ≤ n by omega, h1.2⟩, ⟨Int.le_refl 1, show 1 ≤ k + 1 by omega⟩, rfl⟩, hK⟩
theorem ok95 : FnOk Try.prog 95 fc95 := fn1_of (n := 5) ((good2_nil _).addL2 ok95L) fun (n, k, ()) K hx => h95 n k K hx.1.1 hx.1.2 hx.2
theorem h70L (sa lo : List Int) (a : Au) (x i : Int) (Q : LQ) (h1 : okSt a.1) (h2 : eachB a.1 sa = true) (h3 : eachB a.1 lo = true) (h4 : 0 ≤ i) (h5 : i ≤ a.1.length) (h6 : 0 ≤ x ∧ x ≤ 70 ^ i.toNat) (hQ : ∀ r : Int, r = x * prodM (a.1.drop i.toNat) (sa.drop i.toNat) (lo.drop i.toNat) → Q (.exit 0) (stS 0 sh70e (r, ()))) :
    xloop2 Try.prog { f := [(95, fc95)] } 5 70 0 lc70 (fun _ => some (sh70e, 0)) (fun (sa, _, _, _, i, _) => mL sa i) (sa, lo, a, x, i, ()) Q := by
  rw [v70L]
  have hl := h1.1
  obtain ⟨s1, s2⟩ := each_at h2
  obtain ⟨l1, l2⟩ := each_at h3
  refine fork_iff.2 ⟨fun hi => ?_, fun hi => ?_⟩
  · have hi : i < sa.length := of_decide_eq_true hi
    have hn : i.toNat < a.1.length := by omega
    have s2 := s2 i.toNat hn
    have l2 := l2 i.toNat hn
    have n2 := h1.2 _ (getD_mem hn 0)
    rw [drop_step 0 h4 (show i < a.1.length by omega), drop_step 0 h4 hi, drop_step 0 h4 (show i < lo.length by omega)] at hQ
    simp only [prodM] at hQ
    have b1 := chs_bd (a.1.getD i.toNat 0 - lo.getD i.toNat 0) (sa.getD i.toNat 0)
    have hp := pow70 h4 (by omega)
    have hp1 : (70 : Int) ^ (i + 1).toNat = 70 ^ i.toNat * 70 := by rw [show (i + 1).toNat = i.toNat + 1 by omega, Int.pow_succ]
    refine req_iff.2 ⟨decide_eq_true ⟨h4, by omega⟩, req_iff.2 ⟨decide_eq_true ⟨h4, by omega⟩, req_iff.2 ⟨inR_i64.2 (by omega), req_iff.2 ⟨decide_eq_true ⟨h4, hi⟩, ⟨⟨show 0 ≤ a.1.getD i.toNat 0 - lo.getD i.toNat 0 by omega, show a.1.getD i.toNat 0 - lo.getD i.toNat 0 ≤ 8 by omega⟩, s2.1, show sa.getD i.toNat 0 ≤ 8 by omega⟩, fun r hr => ?_⟩⟩⟩⟩
    rw [← hr] at hQ b1
    have m1 := mul_bd h6.1 h6.2 b1.1 b1.2
    refine req_iff.2 ⟨inR_i64.2 (by omega), req_iff.2 ⟨inR_i64.2 (by omega), mL_lt hi, ⟨h1, h2, h3, ⟨show (0 : Int) ≤ i + 1 by omega, show i + 1 ≤ (a.1.length : Int) by omega⟩, ?_⟩, fun q hq => hQ q ?_⟩⟩
    · show 0 ≤ x * r ∧ x * r ≤ 70 ^ (i + 1).toNat
      rw [hp1]; exact m1
    · rw [← Int.mul_assoc]; exact hq
  · have hi : ¬ i < sa.length := of_decide_eq_false hi
    rw [drop_end (l := a.1) (by omega), drop_end hi, drop_end (l := lo) (by omega)] at hQ
    exact hQ x (by simp [prodM])
theorem ok70L : Lp2Ok Try.prog 70 0 lc70 := lp2_of (n := 5) (ex := fun _ => some (sh70e, 0)) (m := fun (sa, _, _, _, i, _) => mL sa i) ((good2_nil _).addF ok95) fun (sa, lo, a, x, i, ()) Q hx => by
  obtain ⟨⟨h1, h2, h3, h4, h5⟩, hQ⟩ := hx
  exact h70L sa lo a x i Q h1 h2 h3 h4.1 h4.2 h5 hQ
theorem ok70 : FnOk Try.prog 70 fc70 := fn1_of (n := 5) ((good2_nil _).addL2 ok70L) fun (a, sa, lo, ()) K hx => by
  obtain ⟨⟨h1, h2, h3⟩, hK⟩ := hx
  have hK : ∀ r : Int, r = prodM a.1 sa lo → K (r, ()) := hK
  rw [v70F]
  refine ⟨⟨h1, h2, h3, ⟨Int.le_refl 0, show (0 : Int) ≤ (a.1.length : Int) by omega⟩, show (0 : Int) ≤ 1 by decide, Int.le_refl 1⟩, fun r hr => hK r ?_⟩
  have hr : r = 1 * prodM a.1 sa lo := hr
  rw [hr, Int.one_mul]
theorem h69L (l : List Int) (a : Au) (ok : Bool) (i : Int) (Q : LQ) (h0 : 0 ≤ i) (h1 : l.length ≤ big) (h2 : ok = true → l.length = a.1.length ∧ i ≤ l.length) (hQ : ∀ r : Bool, r = (ok && eachB (a.1.drop i.toNat) (l.drop i.toNat)) → Q (.exit 0) (stS 0 sh69e (r, ()))) :
    xloop2 Try.prog {} 5 69 0 lc69 (fun _ => some (sh69e, 0)) (fun (l, _, _, i, _) => (l.length + 1 - i).toNat) (l, a, ok, i, ()) Q := by
  rw [v69L]
  have hbig : (big : Int) = 9223372036854775807 := rfl
  refine fork_iff.2 ⟨fun ho => ?_, fun ho => hQ ok (by rw [ho]; rfl)⟩
  obtain ⟨o1, o2⟩ := h2 ho
  refine fork_iff.2 ⟨fun hi => ?_, fun hi => ?_⟩
  · have hi : i < l.length := of_decide_eq_true hi
    rw [drop_step 0 h0 (show i < a.1.length by omega), drop_step 0 h0 hi, ho, Bool.true_and] at hQ
    have ms : ((l.length : Int) + 1 - (i + 1)).toNat < ((l.length : Int) + 1 - i).toNat := by omega
    have i1 : inR .i64 (i + 1) = true := inR_i64.2 (by omega)
    have o3 : (0 : Int) ≤ i + 1 := by omega
    have o4 : i + 1 ≤ (l.length : Int) := by omega
    refine req_iff.2 ⟨decide_eq_true ⟨h0, hi⟩, req_iff.2 ⟨decide_eq_true ⟨h0, by omega⟩, fork_iff.2 ⟨fun c => req_iff.2 ⟨i1, ms, ⟨o3, h1, fun _ => ⟨o1, o4⟩⟩, fun r hr => hQ r ?_⟩, fun c => req_iff.2 ⟨i1, ms, ⟨o3, h1, fun _ => ⟨o1, o4⟩⟩, fun r hr => hQ r ?_⟩⟩⟩⟩
    · have c := of_decide_eq_true c
      rw [hr, eachB]
      congr 1
      by_cases d : l.getD i.toNat 0 ≤ a.1.getD i.toNat 0
      · rw [decide_eq_true d, decide_eq_true ⟨c, d⟩]
      · rw [decide_eq_false d, decide_eq_false fun g => d g.2]
    · have c := of_decide_eq_false c
      rw [hr, eachB, Bool.false_and, decide_eq_false fun g => c g.1, Bool.false_and]
  · have hi : ¬ i < l.length := of_decide_eq_false hi
    rw [drop_end (l := a.1) (by omega), drop_end hi] at hQ
    exact hQ ok (by simp [eachB])
theorem ok69L : Lp2Ok Try.prog 69 0 lc69 := lp2_of (n := 5) (ex := fun _ => some (sh69e, 0)) (m := fun (l, _, _, i, _) => (l.length + 1 - i).toNat) (good2_nil _) fun (l, a, ok, i, ()) Q hx => by
  obtain ⟨⟨h0, h1, h2⟩, hQ⟩ := hx
  exact h69L l a ok i Q h0 h1 h2 hQ
theorem ok69 : FnOk Try.prog 69 fc69 := fn1_of (n := 5) ((good2_nil _).addL2 ok69L) fun (a, l, ()) K hx => by
  obtain ⟨h1, hK⟩ := hx
  have h1 : l.length ≤ big := h1
  have hK : ∀ r : Bool, r = eachB a.1 l → K (r, ()) := hK
  rw [v69F]
  have e : ∀ h : ((l.length : Int) == (a.1.length : Int)) = true, l.length = a.1.length := fun h => by
    have : (l.length : Int) = (a.1.length : Int) := by simpa using h
    omega
  refine ⟨⟨Int.le_refl 0, h1, fun h => ⟨e h, show (0 : Int) ≤ (l.length : Int) by omega⟩⟩, fun r hr => hK r ?_⟩
  rw [hr, List.drop_zero, List.drop_zero]
  by_cases h : l.length = a.1.length
  · rw [h]; simp
  · rw [each_len h, Bool.and_false]
/-! Check -/
theorem h29L (a : Au) (ok : Bool) (i : Int) (Q : LQ) (h0 : 0 ≤ i) (h2 : ok = true → a.1.length ≤ 4 ∧ a.2.1.length = a.1.length ∧ i ≤ a.1.length) (hQ : ∀ r : Bool, r = (ok && okB (a.1.drop i.toNat) (a.2.1.drop i.toNat)) → Q (.exit 0) (stS 1 sh29e (a, r, ()))) :
    xloop2 Try.prog {} 5 29 0 lc29 (fun _ => some (sh29e, 1)) (fun (a, _, i, _) => (a.1.length + 1 - i).toNat) (a, ok, i, ()) Q := by
  rw [v29L]
  refine fork_iff.2 ⟨fun ho => ?_, fun ho => hQ ok (by rw [ho]; rfl)⟩
  obtain ⟨o0, o1, o2⟩ := h2 ho
  refine fork_iff.2 ⟨fun hi => ?_, fun hi => ?_⟩
  · have hi : i < a.1.length := of_decide_eq_true hi
    rw [drop_step 0 h0 hi, drop_step 0 h0 (show i < a.2.1.length by omega), ho, Bool.true_and, okB] at hQ
    have ms : ((a.1.length : Int) + 1 - (i + 1)).toNat < ((a.1.length : Int) + 1 - i).toNat := by omega
    have i1 : inR .i64 (i + 1) = true := inR_i64.2 (by omega)
    have nx : ∀ b : Bool, b = (decide (1 ≤ a.1.getD i.toNat 0 ∧ a.1.getD i.toNat 0 ≤ 8) && decide (0 ≤ a.2.1.getD i.toNat 0 ∧ a.2.1.getD i.toNat 0 ≤ 1000)) → req (inR .i64 (i + 1)) (((a.1.length : Int) + 1 - (i + 1)).toNat < ((a.1.length : Int) + 1 - i).toNat ∧ lc29.spec (a, b, i + 1, ()) Q) := fun b hb =>
      req_iff.2 ⟨i1, ms, ⟨show (0 : Int) ≤ i + 1 by omega, fun _ => ⟨o0, o1, show i + 1 ≤ (a.1.length : Int) by omega⟩⟩, fun r hr => hQ r (by rw [hr, hb])⟩
    refine req_iff.2 ⟨decide_eq_true ⟨h0, hi⟩, fork_iff.2 ⟨fun c => fork_iff.2 ⟨fun d => ?_, fun d => nx _ ?_⟩, fun c => nx _ ?_⟩⟩
    · have c := of_decide_eq_true c
      have d := of_decide_eq_true d
      refine req_iff.2 ⟨decide_eq_true ⟨h0, by omega⟩, fork_iff.2 ⟨fun e => nx _ ?_, fun e => nx _ ?_⟩⟩
      · have e := of_decide_eq_true e
        rw [decide_eq_true (p := 1 ≤ a.1.getD i.toNat 0 ∧ a.1.getD i.toNat 0 ≤ 8) ⟨c, d⟩, Bool.true_and]
        by_cases g : a.2.1.getD i.toNat 0 ≤ 1000
        · rw [decide_eq_true g, decide_eq_true (p := 0 ≤ a.2.1.getD i.toNat 0 ∧ a.2.1.getD i.toNat 0 ≤ 1000) ⟨e, g⟩]
        · rw [decide_eq_false g, decide_eq_false (p := 0 ≤ a.2.1.getD i.toNat 0 ∧ a.2.1.getD i.toNat 0 ≤ 1000) fun q => g q.2]
      · have e := of_decide_eq_false e
        rw [decide_eq_false (p := 0 ≤ a.2.1.getD i.toNat 0 ∧ a.2.1.getD i.toNat 0 ≤ 1000) fun q => e q.1, Bool.and_false]
    · have d := of_decide_eq_false d
      rw [decide_eq_false (p := 1 ≤ a.1.getD i.toNat 0 ∧ a.1.getD i.toNat 0 ≤ 8) fun q => d q.2, Bool.false_and]
    · have c := of_decide_eq_false c
      rw [decide_eq_false (p := 1 ≤ a.1.getD i.toNat 0 ∧ a.1.getD i.toNat 0 ≤ 8) fun q => c q.1, Bool.false_and]
  · have hi : ¬ i < a.1.length := of_decide_eq_false hi
    rw [drop_end hi] at hQ
    exact hQ ok (by simp [okB])
theorem ok29L : Lp2Ok Try.prog 29 0 lc29 := lp2_of (n := 5) (ex := fun _ => some (sh29e, 1)) (m := fun (a, _, i, _) => (a.1.length + 1 - i).toNat) (good2_nil _) fun (a, ok, i, ()) Q hx => by
  obtain ⟨⟨h0, h2⟩, hQ⟩ := hx
  exact h29L a ok i Q h0 h2 hQ
theorem okB_iff : ∀ {st cs : List Int}, cs.length = st.length → (okB st cs = true ↔ (∀ n ∈ st, 1 ≤ n ∧ n ≤ 8) ∧ ∀ c ∈ cs, 0 ≤ c ∧ c ≤ 1000)
  | [], [], _ => by simp [okB]
  | [], _ :: _, h => by simp at h
  | _ :: _, [], h => by simp at h
  | n :: st, c :: cs, h => by
    simp only [okB, Bool.and_eq_true, decide_eq_true_eq, okB_iff (st := st) (cs := cs) (by simpa using h), List.mem_cons, forall_eq_or_imp]
    constructor
    · rintro ⟨⟨h1, h2⟩, h3, h4⟩; exact ⟨⟨h1, h3⟩, h2, h4⟩
    · rintro ⟨⟨h1, h3⟩, h2, h4⟩; exact ⟨⟨h1, h2⟩, h3, h4⟩
theorem h29 (a : Au) (K : dens [E] → Prop) (hb : bigs a) (hy : okA a → K ((0 : Int), ())) (hn : ¬ okA a → K ((100 : Int), ())) : xfn1 Try.prog { f := [(24, fc24w)], l2 := [(29, 0, lc29)] } 5 29 fc28 (a, ()) K := by
  rw [v29F]
  have bad : ∀ {P : Prop}, ¬ okA a → ∀ r : Bool, r = (false && okB (a.1.drop 0) (a.2.1.drop 0)) → fork (!r) (K ((100 : Int), ())) P := fun {P} h r hr => by
    rw [Bool.false_and] at hr
    subst hr
    exact fork_iff.2 ⟨fun _ => hn h, fun c => absurd c (by decide)⟩
  have z : (0 : Int) ≤ 0 := Int.le_refl 0
  have no : ∀ {P : Prop}, false = true → P := fun h => by cases h
  refine fork_iff.2 ⟨fun a1 => fork_iff.2 ⟨fun a2 => fork_iff.2 ⟨fun a3 => fork_iff.2 ⟨fun a4 => ?_, fun a4 => ⟨⟨z, no⟩, bad fun h => (of_decide_eq_false a4) h.2.2.2.2.1⟩⟩, fun a3 => ⟨⟨z, no⟩, bad fun h => ?_⟩⟩, fun a2 => ⟨⟨z, no⟩, bad fun h => (of_decide_eq_false a2) (by have := h.1.1.2; omega)⟩⟩, fun a1 => ⟨⟨z, no⟩, bad fun h => (of_decide_eq_false a1) (by have := h.1.1.1; omega)⟩⟩
  · have a1 : (1 : Int) ≤ (a.1.length : Int) := of_decide_eq_true a1
    have a2 : (a.1.length : Int) ≤ 4 := of_decide_eq_true a2
    have a3 : (a.2.1.length : Int) = (a.1.length : Int) := by simpa using a3
    have a4 : 0 ≤ a.2.2.2 := of_decide_eq_true a4
    have hlen : a.2.1.length = a.1.length := by omega
    refine ⟨⟨z, fun _ => ⟨by omega, hlen, show (0 : Int) ≤ (a.1.length : Int) by omega⟩⟩, fun r hr => fork_not (fun c => hn fun h => ?_) fun c => ?_⟩
    · rw [List.drop_zero, List.drop_zero, (okB_iff hlen).2 ⟨h.1.2, h.2.2.1⟩, decide_eq_true h.2.2.2.2.2] at hr
      rw [hr] at c; cases c
    · rw [c] at hr
      have hr := hr.symm
      rw [List.drop_zero, List.drop_zero, Bool.and_eq_true, okB_iff hlen] at hr
      obtain ⟨r1, r2, r3⟩ := hr
      have r1 := of_decide_eq_true r1
      have hw : a.1.all inW = true := by
        rw [List.all_eq_true]
        intro x hx
        have := r2 x hx
        exact inW_iff.2 (by omega)
      refine ⟨hb.1, fun (s : Int) hs => ⟨rfl, ?_⟩⟩
      have hs : s = a.1.sum := hs (by omega) hw
      refine fork_iff.2 ⟨fun c1 => fork_iff.2 ⟨fun c2 => hn fun h => ?_, fun c2 => hy ?_⟩, fun c1 => hn fun h => (of_decide_eq_false c1) h.2.2.2.1.1⟩
      · simp only [Bool.not_eq_true', decide_eq_false_iff_not] at c2
        have := h.2.2.2.1.2; omega
      · simp only [Bool.not_eq_false', decide_eq_true_eq] at c1 c2
        exact ⟨⟨⟨by omega, by omega⟩, r2⟩, hlen, r3, ⟨c1, by omega⟩, a4, r1⟩
  · have := h.2.1
    rw [this] at a3; simp at a3
theorem ok29 : FnOk Try.prog 29 fc28 := fn1_of (n := 5) (((good2_nil _).addL2 ok29L).addF ok24w) fun (a, ()) K hx => by
  obtain ⟨h1, hK⟩ := hx
  exact h29 a K h1 (fun h => hK 0 (fun _ => rfl) fun g => absurd h g) fun h => hK 100 (fun g => absurd g h) fun _ => rfl
theorem ok68 : FnOk Try.prog 68 fc68 := fn1_of (n := 5) (((good2_nil _).addF ok69).addF ok29) fun (a, sa, ()) K hx => by
  obtain ⟨⟨h1, h2⟩, hK⟩ := hx
  have hK : ∀ e : Int, e = askedV a sa → K (e, ()) := hK
  rw [v68F]
  refine ⟨h1, fun e e1 e2 => chk e1 e2 (fun h he => hK _ (by rw [askedV, if_neg h]; exact he)) fun h => ⟨h2, fun r hr => fork_not (fun g => hK _ ?_) fun g => hK _ ?_⟩⟩
  · rw [askedV, if_pos h, if_neg (by rw [← hr, g]; simp)]
  · rw [askedV, if_pos h, if_pos (by rw [← hr, g])]
/-- What is asked of a sample, by the error. -/
theorem asked {a : Au} {sa : List Int} {e : Int} {P Q : Prop} (he : e = askedV a sa) (h1 : ¬ okA a → e = 100 → P) (h2 : okA a → eachB a.1 sa = false → e = 101 → P) (h3 : okA a → eachB a.1 sa = true → Q) : fork (e != 0) P Q := by
  unfold askedV at he
  split at he
  · rename_i h
    split at he
    · rename_i g
      subst he; exact fork_iff.2 ⟨fun c => absurd c (by decide), fun _ => h3 h g⟩
    · rename_i g
      exact fork_iff.2 ⟨fun _ => h2 h (by simpa using g) he, fun c => by rw [he] at c; cases c⟩
  · rename_i h
    exact fork_iff.2 ⟨fun _ => h1 h he, fun c => by rw [he] at c; cases c⟩
theorem mk_ok {n : Nat} (h : n ≤ 4) : decide (0 ≤ (n : Int) ∧ (n : Int) ≤ (n : Int) ∧ 8 * (n : Int) ≤ 281474976710656 ∧ (n : Int) ≤ 281474976710656) = true := decide_eq_true (by omega)
theorem each_rep {st sa : List Int} (hst : ∀ n ∈ st, 1 ≤ n ∧ n ≤ 8) (h : sa.length = st.length) : eachB st (List.replicate sa.length 0) = true := by rw [h]; exact each_none hst
theorem ok27 : FnOk Try.prog 27 fc20 := fn1_of (n := 5) ((((good2_nilN _).addF ok70).addF ok69).addF ok68) fun (a, sa, lo, ()) K hx => by
  obtain ⟨⟨hb, h2, h3⟩, hK⟩ := hx
  have hK : ∀ n m e, (n, m, e) = missF a sa lo → K (n, m, e, ()) := hK
  rw [v27F]
  refine ⟨⟨hb, h2⟩, fun e he => asked he (fun h he => hK _ _ _ (by rw [missF, if_neg h, he])) (fun h g he => hK _ _ _ (by rw [missF, if_pos h, if_neg (by rw [g]; simp), he])) fun h g => ⟨h3, fun r hr => fork_not (fun c => hK _ _ _ ?_) fun c => ?_⟩⟩
  · rw [missF, if_pos h, if_pos g, if_neg (by rw [← hr, c]; simp)]
  · have hl := (each_at g).1
    have h4 := h.1.1.2
    have hz := each_rep h.1.2 hl
    refine req_iff.2 ⟨mk_ok (by omega), ⟨h.1, g, by rw [← hr, c]⟩, fun p hp => ⟨rfl, rfl, ⟨h.1, g, hz⟩, fun q hq => hK _ _ _ ?_⟩⟩
    rw [prodM_none hl.symm rfl] at hq
    rw [missF, if_pos h, if_pos g, if_pos (by rw [← hr, c]), hp, hq]
/-! cost -/
theorem h61L (l : List Int) (a : Au) (i : Int) (Q : LQ) (h1 : okA a) (h2 : eachB a.1 l = true) (h3 : 0 ≤ i) (h4 : i ≤ l.length) (hQ : Q (.exit 0) (stS 1 (S [(5, .v I)]) (costF l a.2.1, ()))) :
    xloop2 Try.prog { nm := true } 5 61 0 lc61 (fun _ => some (S [(5, .v I)], 1)) (fun (l, _, _, i, _) => mL l i) (l, a, costF (l.take i.toNat) a.2.1, i, ()) Q := by
  rw [v61L]
  have hl := (each_at h2).1
  have hl4 := h1.1.1.2
  have hc := h1.2.1
  refine fork_iff.2 ⟨fun hi => ?_, fun hi => ?_⟩
  · have hi : i < l.length := of_decide_eq_true hi
    have b1 := (each_at h2).2 i.toNat (by omega)
    have b2 := h1.2.2.1 _ (getD_mem (show i.toNat < a.2.1.length by omega) 0)
    have b3 := h1.1.2 _ (getD_mem (show i.toNat < a.1.length by omega) 0)
    have hs := cost_step (z := l) (cs := a.2.1) (k := i.toNat) (by omega) (by omega)
    have hb := cost_bd (z := l) (cs := a.2.1) (n := i.toNat) (by omega) (by omega) (fun k hk => by
      have := (each_at h2).2 k (by omega)
      have := h1.1.2 _ (getD_mem (show k < a.1.length by omega) 0)
      omega) fun k hk => h1.2.2.1 _ (getD_mem (by omega) 0)
    rw [show i.toNat + 1 = (i + 1).toNat by omega] at hs
    have hm := mul_bd b1.1 (show l.getD i.toNat 0 ≤ 8 by omega) b2.1 b2.2
    refine req_iff.2 ⟨decide_eq_true ⟨h3, hi⟩, req_iff.2 ⟨decide_eq_true ⟨h3, by omega⟩, req_iff.2 ⟨inR_i64.2 (by omega), req_iff.2 ⟨inR_i64.2 (by omega), req_iff.2 ⟨inR_i64.2 (by omega), mL_lt hi, ⟨h1, h2, ⟨show (0 : Int) ≤ i + 1 by omega, show i + 1 ≤ (l.length : Int) by omega⟩, hs.symm⟩, hQ⟩⟩⟩⟩⟩
  · have hi : ¬ i < l.length := of_decide_eq_false hi
    rw [List.take_of_length_le (by omega)]
    exact hQ
theorem ok61L : Lp2Ok Try.prog 61 0 lc61 := lp2_of (n := 5) (ex := fun _ => some (S [(5, .v I)], 1)) (m := fun (l, _, _, i, _) => mL l i) (good2_nilN _) fun (l, a, n, i, ()) Q hx => by
  obtain ⟨⟨h1, h2, h3, hn⟩, hQ⟩ := hx
  have hn : n = costF (l.take i.toNat) a.2.1 := hn
  subst hn
  exact h61L l a i Q h1 h2 h3.1 h3.2 hQ
theorem ok61 : FnOk Try.prog 61 fc61 := fn1_of (n := 5) ((good2_nil _).addL2 ok61L) fun (a, l, ()) K hx => by
  obtain ⟨⟨h1, h2⟩, hK⟩ := hx
  rw [v61F]
  refine ⟨⟨h1, h2, ⟨Int.le_refl 0, show (0 : Int) ≤ (l.length : Int) by omega⟩, ?_⟩, hK _ rfl⟩
  rw [List.take_zero]
  cases a.2.1 <;> rfl
end Go.P10
