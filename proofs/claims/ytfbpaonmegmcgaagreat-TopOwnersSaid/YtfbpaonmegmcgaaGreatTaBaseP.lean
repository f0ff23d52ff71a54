/- Funds: small functions keep their contracts. No conditions. -/
import Derived.Test.YtfbpaonmegmcgaaGreatTaBaseS
set_option linter.all false
set_option maxRecDepth 100000
namespace Go.P9
open Go.Lom Go.Proofs Go
theorem drop_step {α : Type} (d : α) {l : List α} {i : Int} (h0 : 0 <= i) (h1 : i < l.length) : l.drop i.toNat = l.getD i.toNat d :: l.drop (i + 1).toNat := by
 have h : i.toNat < l.length := by omega
 rw [List.drop_eq_getElem_cons h, show (i + 1).toNat = i.toNat + 1 from by omega]
 simp [List.getD_eq_getElem?_getD, h]
theorem drop_end {α : Type} {l : List α} {i : Int} (h1 : ¬ i < l.length) : l.drop i.toNat = [] := List.drop_eq_nil_of_le (by omega)
theorem mL_lt {α : Type} {l : List α} {i : Int} (h : i < l.length) : mL l (i + 1) < mL l i := by unfold mL; omega
theorem fitS_self {n : Int} {l : List Int} (h : fitS n l) : inR .i64 n = true := by cases l <;> simp only [fitS] at h <;> first | exact h | exact h.1
theorem h71F (n a b : Int) (K : dens [.b] -> Prop) : sFrom a n b (fun r => K (r, ())) -> xfn1 Tryz.prog {} 5 31 fcWith (n, a, b, ()) K := by
 intro h
 unfold sFrom at h
 rw [v71F]
 simp only [fork_iff, decide_eq_true_eq, decide_eq_false_iff_not]
 refine ⟨fun h1 => ?_, fun h1 => ?_⟩
 ·rw [show decide (a <= n /\ n <= b) = decide (n <= b) from by simp [show a <= n from h1]] at h; exact h
 ·rw [show decide (a <= n /\ n <= b) = false from by simp [show ¬ a <= n from h1]] at h; exact h
theorem ok71 : FnOk Tryz.prog 31 fcWith := fn1_of (n := 5) (good2_nil _) fun (n, a, b, ()) K hx => h71F n a b K hx
theorem spanF {s : Int × Int} {h : Int} {K : dens [.b] -> Prop} (hK : K (spanB s h, ())) : Go.Lom.fork (decide (s.1 >= 0)) (Go.Lom.fork (decide (s.1 <= s.2)) (K (decide (s.2 <= h), ())) (K (false, ()))) (K (false, ())) := by
 unfold spanB at hK
 simp only [fork_iff, decide_eq_true_eq, decide_eq_false_iff_not]
 refine ⟨fun h1 => ⟨fun h2 => ?_, fun h2 => ?_⟩, fun h1 => ?_⟩
 ·rw [show decide (0 <= s.1 /\ s.1 <= s.2 /\ s.2 <= h) = decide (s.2 <= h) from by simp [show 0 <= s.1 from h1, h2]] at hK; exact hK
 ·rw [show decide (0 <= s.1 /\ s.1 <= s.2 /\ s.2 <= h) = false from by simp [h2]] at hK; exact hK
 ·rw [show decide (0 <= s.1 /\ s.1 <= s.2 /\ s.2 <= h) = false from by simp [show ¬ 0 <= s.1 from h1]] at hK; exact hK
theorem ok78 : FnOk Tryz.prog 35 fcSpan := fn1_of (n := 5) (good2_nil _) fun (s, h, ()) K hx => by rw [v78F]; exact spanF hx
theorem h67F (l : List Int) (K : dens [L] -> Prop) : (l.length <= 1000000 /\ K (l, ())) -> xfn1 Tryz.prog {} 5 77 fcClone (l, ()) K := by
 intro ⟨h1, h2⟩
 rw [v67F]
 intro b hb
 simp only [fork_iff, req_iff, decide_eq_true_eq]
 refine ⟨fun h => ?_, fun _ => ⟨?_, by simp [seg], ?_⟩⟩
 ·have := List.eq_nil_of_length_eq_zero (hb h); rw [<- this]; exact h2
 ·simp only [fitsN, Bool.and_eq_true, Nat.ble_eq]
  have : maxLen = 9223372036854775807 := rfl
  omega
 ·have e : seg 0 (0 + l.length) (seg 0 0 [] ++ l) = l := by simp [seg]
  rw [e]; exact h2
theorem h27L (l : List Int) (n i : Int) (Q : LQ) : sSumL l n i Q -> xloop2 Tryz.prog {} 5 9 0 lcSum (ex1 (S [(3, .v I)])) (fun x => mL x.1 x.2.2.1) (l, n, i, ()) Q := by
 intro ⟨⟨h0, h1, h2, h3⟩, hQ⟩
 rw [v27L]
 simp only [fork_iff, req_iff, decide_eq_true_eq, decide_eq_false_iff_not]
 refine ⟨fun hi => ?_, fun hi => ?_⟩
 ·rw [drop_step 0 h0 hi] at h3 hQ
  refine ⟨⟨h0, hi⟩, fitS_self h3.2, inR_i64.2 (by omega), mL_lt hi, ⟨by omega, by omega, h2, h3.2⟩, ?_⟩
  rw [List.sum_cons, <- Int.add_assoc] at hQ
  exact hQ
 ·rw [drop_end hi] at hQ
  simpa using hQ
theorem ok27L : Lp2Ok Tryz.prog 9 0 lcSum := lp2_of (n := 5) (ex := ex1 (S [(3, .v I)])) (m := fun x => mL x.1 x.2.2.1) (good2_nil _) fun (l, n, i, ()) Q hx => h27L l n i Q hx
theorem h27F (l : List Int) (K : dens [I] -> Prop) : sSum l (fun r => K (r, ())) -> xfn1 Tryz.prog { l2 := [(9, 0, lcSum)] } 5 9 fcSum (l, ()) K := by
 intro ⟨⟨h1, h2⟩, hK⟩
 rw [v27F]
 exact ⟨⟨by omega, by omega, h1, h2⟩, by simpa using hK⟩
theorem ok27 : FnOk Tryz.prog 9 fcSum := fn1_of (n := 5) ((good2_nil _).addL2 ok27L) fun (l, ()) K hx => h27F l K hx
theorem h74L (n : Int) (l : List Int) (m i : Int) (Q : LQ) : sTotL n l m i Q -> xloop2 Tryz.prog {} 5 32 0 lcTot (ex1 (S [(3, .v I)])) (fun x => mL x.2.1 x.2.2.2.1) (n, l, m, i, ()) Q := by
 intro ⟨⟨h0, h1, hm, h2, h3⟩, hQ⟩
 rw [v74L]
 subst hm
 simp only [fork_iff, req_iff, decide_eq_true_eq, decide_eq_false_iff_not]
 refine ⟨fun hi => ?_, fun hi => ?_⟩
 ·rw [drop_step 0 h0 hi] at h3 hQ
  refine ⟨⟨h0, hi⟩, fitS_self h3.2, inR_i64.2 (by omega), mL_lt hi, ⟨by omega, by omega, rfl, h2, h3.2⟩, ?_⟩
  rw [List.sum_cons, <- Int.add_assoc] at hQ
  exact hQ
 ·rw [drop_end hi] at hQ
  simpa using hQ
theorem ok74L : Lp2Ok Tryz.prog 32 0 lcTot := lp2_of (n := 5) (ex := ex1 (S [(3, .v I)])) (m := fun x => mL x.2.1 x.2.2.2.1) (good2_nil _) fun (n, l, m, i, ()) Q hx => h74L n l m i Q hx
theorem h74F (l : List Int) (K : dens [I] -> Prop) : sSum l (fun r => K (r, ())) -> xfn1 Tryz.prog { l2 := [(32, 0, lcTot)] } 5 32 fcSum (l, ()) K := by
 intro ⟨⟨h1, h2⟩, hK⟩
 rw [v74F]
 exact ⟨⟨by omega, by omega, rfl, h1, h2⟩, by simpa using hK⟩
theorem ok74 : FnOk Tryz.prog 32 fcSum := fn1_of (n := 5) ((good2_nil _).addL2 ok74L) fun (l, ()) K hx => h74F l K hx
end Go.P9
