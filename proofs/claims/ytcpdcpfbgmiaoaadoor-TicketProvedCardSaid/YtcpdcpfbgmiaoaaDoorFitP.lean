/- Tickets: edges and halves: the code keeps its contracts. No conditions. -/
import Derived.Test.YtcpdcpfbgmiaoaaDoorFitS
import Derived.Test.YtcpdcpfbgmiaoaaDoorTickP
set_option linter.all false
set_option maxRecDepth 100000
namespace Go.P3
open Go.Lom Go.Proofs Go
theorem drop_step {α : Type} (d : α) {l : List α} {i : Int} (h0 : 0 <= i) (h1 : i < l.length) : l.drop i.toNat = l.getD i.toNat d :: l.drop (i + 1).toNat := by
 have h : i.toNat < l.length := by omega
 rw [List.drop_eq_getElem_cons h, show (i + 1).toNat = i.toNat + 1 from by omega]
 simp [List.getD_eq_getElem?_getD, h]
theorem drop_end {α : Type} {l : List α} {i : Int} (h1 : ¬ i < l.length) : l.drop i.toNat = [] := List.drop_eq_nil_of_le (by omega)
theorem mL_lt {α : Type} {l : List α} {i : Int} (h : i < l.length) : mL l (i + 1) < mL l i := by unfold mL; omega
theorem allFrom_step {lo : Int} {l : List Int} {i : Int} (h0 : 0 <= i) (h1 : i < l.length) : allFrom lo l i = (decide (lo <= l.getD i.toNat 0 /\ l.getD i.toNat 0 <= 9) && allFrom lo l (i + 1)) := by
 unfold allFrom; rw [drop_step 0 h0 h1, List.all_cons]
theorem allFrom_end {lo : Int} {l : List Int} {i : Int} (h1 : ¬ i < l.length) : allFrom lo l i = true := by
 unfold allFrom; rw [drop_end h1]; rfl
theorem inB_iff {lo : Int} {l : List Int} : inB lo l = true ↔ (8 <= l.length /\ l.length <= 16) /\ allFrom lo l 0 = true := by
 unfold inB; rw [Bool.and_eq_true, decide_eq_true_eq]
theorem h103L (lo : Int) (l : List Int) (m i : Int) (Q : LQ) : s103 lo l m i Q -> xloop2 Tryd.prog { f := [(49, fcWith)] } 5 103 0 lc103 exB4 (fun (_, l, _, i, _) => mL l i) (((), lo, ()), l, m, i, ()) Q := by
 intro ⟨⟨h0, h1, h2, h3⟩, hF, hT⟩
 subst h2
 rw [v103L]
 simp only [fork_iff, req_iff, decide_eq_true_eq, decide_eq_false_iff_not]
 refine ⟨fun hi => ⟨⟨h0, hi⟩, fun hn => hF ?_, fun hn => ⟨inR_i64.2 (by omega), mL_lt hi, ⟨⟨by omega, by omega, rfl, h3⟩, fun hf => hF ?_, fun ht => hT ?_⟩⟩⟩, fun hi => hT (allFrom_end hi)⟩
 ·rw [allFrom_step h0 hi]; simp only [Bool.not_eq_true', decide_eq_false_iff_not] at hn; rw [decide_eq_false hn]; rfl
 ·rw [allFrom_step h0 hi, hf, Bool.and_false]
 ·simp only [Bool.not_eq_false', decide_eq_true_eq] at hn
  rw [allFrom_step h0 hi, ht, Bool.and_true]; exact decide_eq_true hn
theorem ok103L : Lp2Ok Tryd.prog 103 0 lc103 := lp2_of (n := 5) (ex := exB4) (m := fun (_, l, _, i, _) => mL l i) ((good2_nil _).addF ok49) fun (((), lo, ()), l, m, i, ()) Q hx => h103L lo l m i Q hx
theorem ok103 : FnOk Tryd.prog 103 fc103 := fn1_of (n := 5) ((good2_nil _).addL2 ok103L) fun (l, ((), lo, ()), ()) K hx => by
 obtain ⟨h1, hK⟩ := hx
 show xfn1 Tryd.prog { l2 := [(103, 0, lc103)] } 5 103 fc103 (l, ((), lo, ()), ()) K
 rw [v103F]
 refine ⟨⟨by omega, by omega, rfl, h1⟩, fun h => ?_, fun h => ?_⟩
 ·have hK : K (allFrom lo l 0, ()) := hK
  rw [h] at hK; exact hK
 ·have hK : K (allFrom lo l 0, ()) := hK
  rw [h] at hK; exact hK
theorem len816 {l : List Int} : (decide ((8 : Int) <= (l.length : Int) /\ (l.length : Int) <= 16)) = decide (8 <= l.length /\ l.length <= 16) := by
 by_cases h : 8 <= l.length /\ l.length <= 16
 ·rw [decide_eq_true h]; exact decide_eq_true (by omega)
 ·rw [decide_eq_false h]; exact decide_eq_false (by omega)
theorem ok88 : FnOk Tryd.prog 88 fc88 := fn1_of (n := 5) (((good2_nil _).addF ok49).addF ok103) fun (l, lo, ()) K hx => by
 have hK : K (inB lo l, ()) := hx
 show xfn1 Tryd.prog { f := [(103, fc103), (49, fcWith)] } 5 88 fc88 (l, lo, ()) K
 rw [v88F]
 unfold inB at hK
 rw [len816, fork_iff]
 refine ⟨fun h => ?_, fun h => ?_⟩
 ·rw [h, Bool.true_and] at hK
  have h := of_decide_eq_true h
  exact ⟨by omega, hK⟩
 ·rw [h, Bool.false_and] at hK; exact hK
theorem ok57 : FnOk Tryd.prog 57 (fcEdge 0) := fn1_of (n := 5) ((good2_nil _).addF ok88) fun (l, ()) K hx => by
 show xfn1 Tryd.prog { f := [(88, fc88)] } 5 57 (fcEdge 0) (l, ()) K
 rw [v57F]; exact hx
theorem ok58 : FnOk Tryd.prog 58 (fcEdge (-1)) := fn1_of (n := 5) ((good2_nil _).addF ok88) fun (l, ()) K hx => by
 show xfn1 Tryd.prog { f := [(88, fc88)] } 5 58 (fcEdge (-1)) (l, ()) K
 rw [v58F]; exact hx
theorem h59L (e : List Int) (n : Int) (h : List Int) (m i : Int) (Q : LQ) : s59 e n h m i Q -> xloop2 Tryd.prog {} 5 59 0 lc59 ex59 (fun (_, _, h, _, i, _) => mL h i) (e, n, h, m, i, ()) Q := by
 intro ⟨⟨he, h0, h1, h2, h3, h4, h5⟩, hF, hT⟩
 subst h2
 rw [v59L]
 simp only [fork_iff, req_iff, decide_eq_true_eq, decide_eq_false_iff_not]
 have gh : h.getD i.toNat 0 = gI h i := rfl
 have ge : e.getD i.toNat 0 = gI e i := rfl
 rw [gh, ge]
 refine ⟨fun hi => ?_, fun hi => ?_⟩
 ·have ek : h.length - i.toNat = (h.length - (i + 1).toNat) + 1 := by omega
  rw [ek] at hF hT
  refine ⟨⟨h0, hi⟩, fun hm1 => ?_, fun hm1 => ⟨⟨h0, by omega⟩, fun hne => ?_, fun hne => ?_⟩⟩
  ·have hm1 : gI h i = -1 := by simpa using hm1
   refine ⟨inR_i64.2 (by omega), mL_lt hi, ⟨⟨he, by omega, by omega, rfl, h3, by omega, by omega⟩, fun hf => hF ?_, fun r hr => hT r ?_⟩⟩
   ·simp only [fitK]; rw [if_pos hm1]; exact hf
   ·simp only [fitK]; rw [if_pos hm1]; exact hr
  ·have hm1 : ¬ gI h i = -1 := by simpa using hm1
   have hne : gI h i ≠ gI e i := by simpa using hne
   refine hF ?_
   simp only [fitK]; rw [if_neg hm1, if_pos hne]
  ·have hm1 : ¬ gI h i = -1 := by simpa using hm1
   have hne : ¬ gI h i ≠ gI e i := by simpa using hne
   refine ⟨inR_i64.2 (by omega), inR_i64.2 (by omega), mL_lt hi, ⟨⟨he, by omega, by omega, rfl, h3, by omega, by omega⟩, fun hf => hF ?_, fun r hr => hT r ?_⟩⟩
   ·simp only [fitK]; rw [if_neg hm1, if_neg hne]; exact hf
   ·simp only [fitK]; rw [if_neg hm1, if_neg hne]; exact hr
 ·refine hT n ?_
  rw [show h.length - i.toNat = 0 by omega]; rfl
theorem ok59L : Lp2Ok Tryd.prog 59 0 lc59 := lp2_of (n := 5) (ex := ex59) (m := fun (_, _, h, _, i, _) => mL h i) (good2_nil _) fun (e, n, h, m, i, ()) Q hx => h59L e n h m i Q hx
theorem ok59 : FnOk Tryd.prog 59 fc59 := fn1_of (n := 5) ((good2_nil _).addL2 ok59L) fun (e, h, ()) K hx => by
 obtain ⟨hb, hK⟩ := hx
 have hb : e.length <= 9223372036854775807 := hb
 have hK : K ((fitI e h).1, (fitI e h).2, ()) := hK
 show xfn1 Tryd.prog { l2 := [(59, 0, lc59)] } 5 59 fc59 (e, h, ()) K
 rw [v59F, fork_iff]
 unfold fitI at hK
 refine ⟨fun hl => ?_, fun hl => ?_⟩
 ·have hl : e.length ≠ h.length := by
   intro e'; rw [e'] at hl; simp at hl
  rw [if_pos hl] at hK; exact hK
 ·have hl : e.length = h.length := by
   have : ((e.length : Int) != (h.length : Int)) = false := hl
   simp at this; omega
  rw [if_neg (by omega)] at hK
  refine ⟨⟨hl, by omega, by omega, rfl, by omega, by omega, by omega⟩, fun hn => ?_, fun r hr => ?_⟩
  ·rw [Nat.sub_zero] at hn; rw [hn] at hK; exact hK
  ·rw [Nat.sub_zero] at hr; rw [hr] at hK; exact hK
end Go.P3
