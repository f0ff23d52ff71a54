/- The reference's watches: the code keeps its contracts. No conditions. -/
import Derived.Test.YtfenogdjhadcoaaGreatRefZP
set_option linter.constructorNameAsVariable false
set_option linter.unusedVariables false
set_option linter.unusedSimpArgs false
set_option maxRecDepth 100000
set_option maxHeartbeats 4000000
namespace Go.P8
open Go.Lom Go.Proofs Go

theorem h16ZA (ls : List Lk) (o : List Int) (i : Int) (Q : AX → St → Prop) (h0 : 0 ≤ i) (h1 : i ≤ 24) (hl : (o.length : Int) = i) (ho : ∀ k : Nat, (k : Int) < i → o.getD k 0 = k) (hQ : ∀ o1 : List Int, HeadsOk [] o1 → Q (.exit 0) (stS 1 sh16zae (ls, o1, ()))) :
    xloop2 Tryz.prog { nm := true } 5 16 0 lc16za (fun _ => some (sh16zae, 1)) (fun (_, _, i, _) => (24 - i).toNat) (ls, o, i, ()) Q := by
  rw [v16ZA]
  simp only [fork_iff, req_iff, decide_eq_true_eq, decide_eq_false_iff_not, Nat.zero_add, Nat.le_refl, seg_self, true_and]
  refine ⟨fun hi => ⟨fits100 (by omega), fun ys hys => ?_⟩, fun hi => hQ o (heads_nil (by omega) fun k hk => ho k (by omega))⟩
  subst hys
  have e1 : (o ++ [i]).length = o.length + 1 := by simp
  rw [← e1, seg_self]
  refine ⟨inR_i64.2 (by omega), Nat.le_refl _, show (24 - (i + 1)).toNat < (24 - i).toNat by omega, ⟨show (0 : Int) ≤ i + 1 by omega, show i + 1 ≤ (24 : Int) by omega, show ((o ++ [i]).length : Int) = i + 1 by omega, fun k hk => ?_⟩, hQ⟩
  have hk : (k : Int) < i + 1 := hk
  show (o ++ [i]).getD k 0 = (k : Int)
  rw [List.getD_eq_getElem?_getD]
  by_cases e : k < o.length
  · rw [List.getElem?_append_left e, ← List.getD_eq_getElem?_getD]; exact ho k (by omega)
  · have : k = o.length := by omega
    subst this
    rw [List.getElem?_append_right (Nat.le_refl _)]; simp; omega
theorem ok16ZA : Lp2Ok Tryz.prog 16 0 lc16za := lp2_of (n := 5) (ex := fun _ => some (sh16zae, 1)) (m := fun (_, _, i, _) => (24 - i).toNat) (good2_nilN _) fun (ls, o, i, ()) Q hx => h16ZA ls o i Q hx.1.1 hx.1.2.1 hx.1.2.2.1 hx.1.2.2.2 hx.2
theorem h16ZC (ls : List Lk) (o : List Int) (i a b k : Int) (Q : AX → St → Prop) (hl : o.length = 24) (h0 : 0 ≤ k) (h1 : k ≤ 24) (hQ : ∀ o1 : List Int, o1 = o.take k.toNat ++ (o.drop k.toNat).map (joinV a b) → Q (.exit 4) (stS 1 sh16zce (ls, o1, i, ()))) :
    xloop2 Tryz.prog { nm := true } 5 16 2 lc16zc (fun _ => some (sh16zce, 1)) (fun (_, _, _, _, _, k, _) => (24 - k).toNat) (ls, o, i, a, b, k, ()) Q := by
  rw [v16ZC]
  simp only [fork_iff, req_iff, decide_eq_true_eq, decide_eq_false_iff_not, beq_iff_eq, beq_eq_false_iff_ne, ne_eq, Nat.zero_add, Nat.add_zero, Nat.le_refl, seg_self, true_and]
  have emax : (if b > a then b else a) = max a b := by split <;> omega
  have emin : (if b < a then b else a) = min a b := by split <;> omega
  rw [emax, emin]
  refine ⟨fun hk => ⟨⟨h0, by omega⟩, by omega, fun e => ⟨⟨h0, by omega⟩, by omega, fun ys hys => ?_⟩, fun e => ⟨inR_i64.2 (by omega), show (24 - (k + 1)).toNat < (24 - k).toNat by omega, ⟨hl, show (0 : Int) ≤ k + 1 by omega, show k + 1 ≤ (24 : Int) by omega⟩, fun o1 ho1 => hQ o1 ?_⟩⟩, fun hk => hQ o (by rw [show k.toNat = o.length by omega]; simp)⟩
  · subst hys
    have hsl : (o.set k.toNat (min a b)).length = o.length := by simp
    rw [← hsl, seg_self]
    refine ⟨inR_i64.2 (by omega), Nat.le_refl _, show (24 - (k + 1)).toNat < (24 - k).toNat by omega, ⟨by rw [hsl]; exact hl, show (0 : Int) ≤ k + 1 by omega, show k + 1 ≤ (24 : Int) by omega⟩, fun o1 ho1 => hQ o1 ?_⟩
    have ho1 : o1 = (o.set k.toNat (min a b)).take (k + 1).toNat ++ ((o.set k.toNat (min a b)).drop (k + 1).toNat).map (joinV a b) := ho1
    rw [ho1, drop_step 0 h0 (show k < (o.length : Int) by omega), show (k + 1).toNat = k.toNat + 1 by omega, List.drop_set_of_lt (by omega), List.take_succ_eq_append_getElem (by rw [hsl]; omega), List.take_set_of_le (Nat.le_refl _), List.map_cons, e]
    simp [joinV]
  · have ho1 : o1 = o.take (k + 1).toNat ++ (o.drop (k + 1).toNat).map (joinV a b) := ho1
    rw [ho1, drop_step 0 h0 (show k < (o.length : Int) by omega), show (k + 1).toNat = k.toNat + 1 by omega, List.take_succ_eq_append_getElem (by omega), List.map_cons]
    have e2 : o.getD k.toNat 0 = o[k.toNat] := by rw [List.getD_eq_getElem?_getD, List.getElem?_eq_getElem (show k.toNat < o.length by omega)]; rfl
    rw [e2] at e ⊢
    have ej : joinV a b o[k.toNat] = o[k.toNat] := by unfold joinV; rw [if_neg e]
    rw [ej, List.append_assoc]; rfl
theorem ok16ZC : Lp2Ok Tryz.prog 16 2 lc16zc := lp2_of (n := 5) (ex := fun _ => some (sh16zce, 1)) (m := fun (_, _, _, _, _, k, _) => (24 - k).toNat) (good2_nilN _) fun (ls, o, i, a, b, k, ()) Q hx => h16ZC ls o i a b k Q hx.1.1 hx.1.2.1 hx.1.2.2 hx.2
theorem h16ZB (ls : List Lk) (o : List Int) (i : Int) (Q : AX → St → Prop) (g : lksOk ls) (h0 : 0 ≤ i) (h1 : i ≤ ls.length) (p : HeadsOk (ls.take i.toNat) o) (hQ : ∀ o1 : List Int, HeadsOk ls o1 → Q (.exit 2) (stS 1 sh16zbe (o1, ()))) :
    xloop2 Tryz.prog { nm := true, l2 := [(16, 2, lc16zc)] } 5 16 1 lc16zb (fun _ => some (sh16zbe, 1)) (fun (ls, _, i, _) => mL ls i) (ls, o, i, ()) Q := by
  rw [v16ZB]
  simp only [fork_iff, req_iff, decide_eq_true_eq, decide_eq_false_iff_not, beq_iff_eq, beq_eq_false_iff_ne, ne_eq, Nat.zero_add, Nat.add_zero, Nat.le_refl, seg_self, true_and]
  have hl := p.len
  refine ⟨fun hi => ?_, fun hi => hQ o (by rw [List.take_of_length_le (by omega)] at p; exact p)⟩
  have hx := lk_in h0 hi
  have ht : ls.take (i + 1).toNat = ls.take i.toNat ++ [ls.getD i.toNat ((0, 0) : Lk)] := by
    have : ls.getD i.toNat ((0, 0) : Lk) = ls[i.toNat] := by rw [List.getD_eq_getElem?_getD, List.getElem?_eq_getElem (show i.toNat < ls.length by omega)]; rfl
    rw [show (i + 1).toNat = i.toNat + 1 by omega, List.take_succ_eq_append_getElem (by omega), this]
  have h64 := g.1
  generalize ls.getD i.toNat ((0, 0) : Lk) = z at *
  obtain ⟨x, y⟩ := z
  obtain ⟨ix, iy, _⟩ := ok_in g.2 hx
  have hok : ∀ z ∈ ls.take i.toNat, okLink z = true := fun z hz => g.2 z (List.mem_of_mem_take hz)
  have q := heads_add hok ix iy p
  rw [← ht] at q
  have hx0 := ix.1; have hx1 := ix.2; have hy0 := iy.1; have hy1 := iy.2
  refine ⟨⟨h0, hi⟩, ⟨hx0, by omega⟩, by show x.toNat < o.length; omega, ⟨h0, hi⟩, ⟨hy0, by omega⟩, by show y.toNat < o.length; omega, fun e => ⟨inR_i64.2 (by omega), mL_lt hi, ⟨g, show (0 : Int) ≤ i + 1 by omega, show i + 1 ≤ (ls.length : Int) by omega, ?_⟩, hQ⟩, fun e => ⟨⟨hl, Int.le_refl (0 : Int), show (0 : Int) ≤ 24 by decide⟩, fun o1 ho1 => ⟨inR_i64.2 (by omega), mL_lt hi, ⟨g, show (0 : Int) ≤ i + 1 by omega, show i + 1 ≤ (ls.length : Int) by omega, ?_⟩, hQ⟩⟩⟩
  · have e : at' o x = at' o y := e
    have : o.map (joinV (at' o x) (at' o y)) = o := by
      rw [e]
      have : joinV (at' o y) (at' o y) = id := by funext v; unfold joinV; split <;> simp_all
      rw [this, List.map_id]
    rw [this] at q; exact q
  · have ho1 : o1 = o.map (joinV (at' o x) (at' o y)) := ho1
    rw [ho1]; exact q
theorem ok16ZB : Lp2Ok Tryz.prog 16 1 lc16zb := lp2_of (n := 5) (ex := fun _ => some (sh16zbe, 1)) (m := fun (ls, _, i, _) => mL ls i) ((good2_nilN _).addL2 ok16ZC) fun (ls, o, i, ()) Q hx => h16ZB ls o i Q hx.1.1 hx.1.2.1 hx.1.2.2.1 hx.1.2.2.2 hx.2
theorem ok16z : FnOk Tryz.prog 16 fc16z := fn1_of (n := 5) (((good2_nil _).addL2 ok16ZB).addL2 ok16ZA) fun (ls, ()) K hx => by
  obtain ⟨g1, hK⟩ := hx
  rw [v16ZF]
  refine ⟨⟨Int.le_refl (0 : Int), show (0 : Int) ≤ 24 by decide, rfl, fun k hk => absurd (show (k : Int) < 0 from hk) (by omega)⟩, fun o1 ho1 => ?_⟩
  simp only [req_iff, decide_eq_true_eq, Nat.zero_add, Nat.le_refl, seg_self, true_and]
  exact ⟨⟨g1, Int.le_refl (0 : Int), show (0 : Int) ≤ (ls.length : Int) by omega, ho1⟩, fun o2 ho2 => hK o2 ho2⟩
theorem ok5z : FnOk Tryz.prog 5 fcLinked := fn1_of (n := 5) (((good2_nil _).addF ok16z).addF ok15z) fun (ls, ()) K hx => by
  obtain ⟨g1, hK⟩ := hx
  have hK : ∀ r e, (r, e) = linkedR ls → (linkedOk ls = true → HeadsOk ls (headOf ls)) → K (r, e, ()) := hK
  rw [v5ZF]
  refine ⟨g1, fun b hb => ?_⟩
  simp only [fork_iff, Bool.not_eq_true', Bool.not_eq_false']
  refine ⟨fun h => hK [] 83 ?_ fun q => ?_, fun h => ⟨lks_of (by rw [← hb]; exact h), fun r hr => ?_⟩⟩
  · unfold linkedR; rw [← hb, h]; rfl
  · rw [← hb, h] at q; cases q
  · obtain ⟨p1, p2⟩ := headOf_eq hr
    exact hK r 0 (by unfold linkedR; rw [← hb, h, p2]; rfl) fun _ => p1
/-! dealing -/
theorem h22Z (l : List Dl) (ls : List Lk) (w : Wt) (last i : Int) (Q : AX → St → Prop) (hl : l.length ≤ big) (h0 : 0 ≤ i) (h1 : i ≤ l.length) (hT : dlsOk (l.drop i.toNat) last = true → Q (.exit 0) (stS 1 sh22ze (l, ls, w, ()))) (hF : dlsOk (l.drop i.toNat) last = false → Q .ret (stS 0 sh6r (false, ()))) :
    xloop2 Tryz.prog { f := [(28, fcFromZ)] } 5 22 0 lc22z ex22z (fun (l, _, _, _, i, _) => mL l i) (l, ls, w, last, i, ()) Q := by
  rw [v22Z]
  have hl2 : l.length ≤ 9223372036854775807 := hl
  simp only [fork_iff, req_iff, decide_eq_true_eq, decide_eq_false_iff_not, Bool.not_eq_true', Bool.not_eq_false']
  refine ⟨fun hi => ⟨⟨h0, hi⟩, ?_⟩, fun hi => hT (by rw [drop_end hi]; rfl)⟩
  rw [drop_step dl0 h0 hi] at hT hF
  simp only [dlsOk] at hT hF
  rw [show ((0 : Int), (0 : Int), (0 : Int)) = dl0 from rfl]
  generalize l.getD i.toNat dl0 = x at *
  have bad : ¬ ((last ≤ x.1 ∧ x.1 ≤ 36500) ∧ (0 ≤ x.2.1 ∧ x.2.1 ≤ 23) ∧ (1 ≤ x.2.2 ∧ x.2.2 ≤ 1073741824)) → Q .ret (stS 0 sh6r (false, ())) := fun h => hF (by
    have : dlOk last x = false := Bool.eq_false_iff.2 fun q => h (dlOk_iff.1 q)
    rw [this]; rfl)
  refine fun b1 hb1 => ⟨fun z => bad fun y => ?_, fun z1 => ⟨⟨h0, hi⟩, fun b2 hb2 => ⟨fun z => bad fun y => ?_, fun z2 => ⟨⟨h0, hi⟩, fun b3 hb3 => ⟨fun z => bad fun y => ?_, fun z3 => ⟨⟨h0, hi⟩, inR_i64.2 (by omega), mL_lt hi, ?_⟩⟩⟩⟩⟩⟩
  · rw [hb1, decide_eq_true y.1] at z; cases z
  · rw [hb2, decide_eq_true y.2.1] at z; cases z
  · rw [hb3, decide_eq_true y.2.2] at z; cases z
  · rw [hb1, decide_eq_true_eq] at z1
    rw [hb2, decide_eq_true_eq] at z2
    rw [hb3, decide_eq_true_eq] at z3
    have : dlOk last x = true := dlOk_iff.2 ⟨z1, z2, z3⟩
    rw [this, Bool.true_and] at hT hF
    exact ⟨⟨hl, show (0 : Int) ≤ i + 1 by omega, show i + 1 ≤ (l.length : Int) by omega⟩, hT, hF⟩
theorem ok22Z : Lp2Ok Tryz.prog 22 0 lc22z := lp2_of (n := 5) (ex := ex22z) (m := fun (l, _, _, _, i, _) => mL l i) ((good2_nil _).addF ok28z) fun (l, ls, w, last, i, ()) Q hx => h22Z l ls w last i Q hx.1.1 hx.1.2.1 hx.1.2.2 hx.2.1 hx.2.2
end Go.P8
