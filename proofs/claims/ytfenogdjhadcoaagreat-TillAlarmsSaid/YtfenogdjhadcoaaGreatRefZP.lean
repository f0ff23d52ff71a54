/- The reference's links: the code keeps its contracts. No conditions. -/
import Derived.Test.YtfenogdjhadcoaaGreatRefZ
import Derived.Test.YtfenogdjhadcoaaGreatZlarmP
set_option linter.constructorNameAsVariable false
set_option linter.unusedVariables false
set_option linter.unusedSimpArgs false
set_option maxRecDepth 100000
set_option maxHeartbeats 4000000
namespace Go.P8
open Go.Lom Go.Proofs Go

theorem ok28z : FnOk Tryz.prog 28 fcFromZ := fn1_of (n := 5) (good2_nil _) fun (a, n, b, ()) K hx => by
  have hx : ∀ r : Bool, r = decide (a ≤ n ∧ n ≤ b) → K (r, ()) := hx
  rw [v28Z]
  first
    | (simp only [fork_iff, decide_eq_true_eq, decide_eq_false_iff_not]
       refine ⟨fun h => hx _ ?_, fun h => hx _ ?_⟩
       · by_cases g : n ≤ b
         · rw [decide_eq_true g, decide_eq_true ⟨h, g⟩]
         · rw [decide_eq_false g, decide_eq_false fun z => g z.2]
       · rw [decide_eq_false fun z => h z.1])
theorem h15Z (l : List Lk) (i : Int) (Q : AX → St → Prop) (hl : l.length ≤ big) (h0 : 0 ≤ i) (h1 : i ≤ l.length) (hT : (l.drop i.toNat).all okLink = true → Q (.exit 0) (stS 0 sh15ze (l, ()))) (hF : (l.drop i.toNat).all okLink = false → Q .ret (stS 0 sh2r (false, ()))) :
    xloop2 Tryz.prog { f := [(28, fcFromZ)] } 5 15 0 lc15z ex15z (fun (l, i, _) => mL l i) (l, i, ()) Q := by
  rw [v15Z]
  have hl : l.length ≤ 9223372036854775807 := hl
  simp only [fork_iff, req_iff, decide_eq_true_eq, decide_eq_false_iff_not, Bool.not_eq_true', Bool.not_eq_false', beq_iff_eq, beq_eq_false_iff_ne, ne_eq]
  refine ⟨fun hi => ⟨⟨h0, hi⟩, ?_⟩, fun hi => hT (by rw [drop_end hi]; rfl)⟩
  rw [drop_step ((0, 0) : Lk) h0 hi, List.all_cons] at hT hF
  generalize l.getD i.toNat ((0, 0) : Lk) = x at *
  have bad : ¬ ((0 ≤ x.1 ∧ x.1 ≤ 23) ∧ (0 ≤ x.2 ∧ x.2 ≤ 23) ∧ x.1 ≠ x.2) → Q .ret (stS 0 sh2r (false, ())) := fun h => hF (by rw [okLink_not h]; rfl)
  refine fun b hb => ⟨fun z => bad fun y => ?_, fun z => ⟨⟨h0, hi⟩, fun b2 hb2 => ⟨fun z2 => bad fun y => ?_, fun z2 => ⟨⟨h0, hi⟩, ⟨h0, hi⟩, fun z3 => bad fun y => y.2.2 z3, fun z3 => ?_⟩⟩⟩⟩
  · rw [hb, decide_eq_true y.1] at z; cases z
  · rw [hb2, decide_eq_true y.2.1] at z2; cases z2
  · rw [hb, decide_eq_true_eq] at z
    rw [hb2, decide_eq_true_eq] at z2
    have hk : okLink x = true := okLink_iff.2 ⟨z, z2, z3⟩
    rw [hk, Bool.true_and] at hT hF
    exact ⟨inR_i64.2 (by omega), mL_lt hi, ⟨⟨hl, show (0 : Int) ≤ i + 1 by omega, show i + 1 ≤ (l.length : Int) by omega⟩, hT, hF⟩⟩
theorem ok15Z : Lp2Ok Tryz.prog 15 0 lc15z := lp2_of (n := 5) (ex := ex15z) (m := fun (l, i, _) => mL l i) ((good2_nil _).addF ok28z) fun (l, i, ()) Q hx => h15Z l i Q hx.1.1 hx.1.2.1 hx.1.2.2 hx.2.1 hx.2.2
theorem ok15z : FnOk Tryz.prog 15 fc64 := fn1_of (n := 5) ((good2_nil _).addL2 ok15Z) fun (l, ()) K hx => by
  obtain ⟨g1, hK⟩ := hx
  have hK : ∀ b : Bool, b = linkedOk l → K (b, ()) := hK
  rw [v15ZF]
  refine ⟨⟨g1, Int.le_refl (0 : Int), show (0 : Int) ≤ (l.length : Int) by omega⟩, fun h => hK _ ?_, fun h => hK _ ?_⟩
  · have h : l.all okLink = true := h
    unfold linkedOk
    rw [h, Bool.and_true]
    by_cases q : l.length ≤ 64
    · rw [decide_eq_true q, decide_eq_true (show (l.length : Int) ≤ 64 by omega)]
    · rw [decide_eq_false q, decide_eq_false (show ¬ (l.length : Int) ≤ 64 by omega)]
  · have h : l.all okLink = false := h
    unfold linkedOk
    rw [h, Bool.and_false]

/-! linked -/
theorem conn_more {ls : List Lk} {x : Lk} {a b : Int} (h : Conn ls a b) : Conn (ls ++ [x]) a b := by
  induction h with
  | refl => exact .refl _
  | fw _ hm ih => exact .fw ih (List.mem_append_left _ hm)
  | bw _ hm ih => exact .bw ih (List.mem_append_left _ hm)
theorem at_map {o : List Int} (f : Int → Int) {k : Int} (hk : inP k) (hl : o.length = 24) : at' (o.map f) k = f (at' o k) := by
  obtain ⟨a1, a2⟩ := hk
  unfold at'
  rw [List.getD_eq_getElem?_getD, List.getD_eq_getElem?_getD, List.getElem?_map, List.getElem?_eq_getElem (show k.toNat < o.length by omega)]; rfl
theorem heads_nil {o : List Int} (hl : o.length = 24) (h : ∀ k : Nat, (k : Int) < 24 → o.getD k 0 = k) : HeadsOk [] o := by
  have e : ∀ k, inP k → at' o k = k := fun k hk => by
    obtain ⟨a1, a2⟩ := hk
    unfold at'
    rw [h k.toNat (by omega)]; omega
  refine ⟨hl, fun k hk => ?_, fun a b hm => by simp at hm, fun k hk => ?_, fun k hk => ?_⟩
  · rw [e k hk]; exact ⟨hk.1, Int.le_refl _⟩
  · rw [e k hk]; exact .refl _
  · rw [e k hk, e k hk]
theorem heads_add {ls : List Lk} {o : List Int} {x y : Int} (ho : ∀ z ∈ ls, okLink z = true) (hx : inP x) (hy : inP y) (p : HeadsOk ls o) : HeadsOk (ls ++ [(x, y)]) (o.map (joinV (at' o x) (at' o y))) := by
  have hin : ∀ k, inP k → inP (at' o k) := fun k hk => ⟨(p.bd k hk).1, by have := (p.bd k hk).2; have := hk.2; omega⟩
  have hm : ∀ k, inP k → at' (o.map (joinV (at' o x) (at' o y))) k = joinV (at' o x) (at' o y) (at' o k) := fun k hk => at_map _ hk p.len
  have jx : joinV (at' o x) (at' o y) (at' o x) = min (at' o x) (at' o y) := by unfold joinV; split <;> omega
  have jy : joinV (at' o x) (at' o y) (at' o y) = min (at' o x) (at' o y) := by unfold joinV; split <;> omega
  have cx := conn_more (x := (x, y)) (p.conn x hx)
  have cy := conn_more (x := (x, y)) (p.conn y hy)
  have cxy : Conn (ls ++ [(x, y)]) x y := .fw (.refl x) (List.mem_append_right _ (by simp))
  have cab : Conn (ls ++ [(x, y)]) (at' o x) (at' o y) := cx.trans (cxy.trans cy.symm)
  refine ⟨by rw [List.length_map]; exact p.len, fun k hk => ?_, fun a b hab => ?_, fun k hk => ?_, fun k hk => ?_⟩
  · rw [hm k hk]
    have h1 := p.bd k hk
    have h2 := p.bd x hx
    have h3 := p.bd y hy
    unfold joinV; split <;> omega
  · rcases List.mem_append.1 hab with hab | hab
    · obtain ⟨ha, hb, _⟩ := ok_in ho hab
      rw [hm a ha, hm b hb, p.lk a b hab]
    · have hab : a = x ∧ b = y := by simpa using hab
      obtain ⟨rfl, rfl⟩ := hab
      rw [hm a hx, hm b hy, jx, jy]
  · rw [hm k hk]
    have hc := conn_more (x := (x, y)) (p.conn k hk)
    unfold joinV
    split
    · rename_i e
      rw [e] at hc
      rcases Int.le_total (at' o x) (at' o y) with h | h
      · rw [Int.max_eq_right h] at hc; rw [Int.min_eq_left h]; exact cab.trans hc
      · rw [Int.max_eq_left h] at hc; rw [Int.min_eq_right h]; exact cab.symm.trans hc
    · exact hc
  · rw [hm k hk]
    have fx : at' o (at' o x) = at' o x := p.fix x hx
    have fy : at' o (at' o y) = at' o y := p.fix y hy
    by_cases e : at' o k = max (at' o x) (at' o y)
    · have e1 : joinV (at' o x) (at' o y) (at' o k) = min (at' o x) (at' o y) := by unfold joinV; rw [if_pos e]
      rw [e1]
      rcases Int.le_total (at' o x) (at' o y) with h | h
      · rw [Int.min_eq_left h, hm _ (hin x hx), fx, jx, Int.min_eq_left h]
      · rw [Int.min_eq_right h, hm _ (hin y hy), fy, jy, Int.min_eq_right h]
    · have e1 : joinV (at' o x) (at' o y) (at' o k) = at' o k := by unfold joinV; rw [if_neg e]
      rw [e1, hm _ (hin k hk), p.fix k hk, e1]
end Go.P8
