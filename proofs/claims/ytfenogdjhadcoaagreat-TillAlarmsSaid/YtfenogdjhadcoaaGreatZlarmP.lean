/- Alarms: the code keeps its contracts. No conditions. -/
import Derived.Test.YtfenogdjhadcoaaGreatZlarmS
import Derived.Test.YtfenogdjhadcoaaGreatZatP5
set_option linter.constructorNameAsVariable false
set_option linter.unusedVariables false
set_option linter.unusedSimpArgs false
set_option maxRecDepth 100000
set_option maxHeartbeats 4000000
namespace Go.P8
open Go.Lom Go.Proofs Go

theorem h67L (tw : Wt) (l : List Dl) (h : Ar) (p i : Int) (Q : AX → St → Prop) (gw : watP (tw, l, h)) (h0 : 0 ≤ i) (h1 : i ≤ l.length)
    (hQ : ∀ r : Int, r = idxP l (arL 23 h) p (l.length - i.toNat) i → (r = -1 → Q (.exit 0) (stS 2 sh67e (((), ((tw, l, h), p, ())), ()))) ∧ (r ≠ -1 → Q .ret (stS 2 sh67r (((), ((tw, l, h), p, ())), r, ())))) :
    xloop2 Tryz.prog {} 5 18 0 lc67 ex67 (fun (l, _, _, i, _) => mL l i) (l, ((), ((tw, l, h), p, ())), (l.length : Int), i, ()) Q := by
  rw [v67L]
  simp only [fork_iff, req_iff, decide_eq_true_eq, decide_eq_false_iff_not, beq_iff_eq, beq_eq_false_iff_ne, ne_eq]
  have gd : ∀ d ∈ l, dayOk d := gw.2.2
  have h64 : l.length ≤ 64 := gw.2.1
  refine ⟨fun hi => ?_, fun hi => (hQ (-1) (by rw [show l.length - i.toNat = 0 by omega]; rfl)).1 rfl⟩
  have dx : dayOk (l.getD i.toNat ((0, 0, 0) : Dl)) := gd _ (dl_in h0 hi)
  have hs : l.length - i.toNat = (l.length - (i + 1).toNat) + 1 := by omega
  rw [hs] at hQ
  simp only [idxP] at hQ
  rw [show dlAt l i = l.getD i.toNat ((0, 0, 0) : Dl) from rfl] at hQ
  generalize l.getD i.toNat ((0, 0, 0) : Dl) = x at *
  obtain ⟨x1, x2, x3, x4, x5, x6⟩ := dx
  rw [selI_at tw l h x3 (by omega)]
  refine ⟨⟨h0, hi⟩, ⟨x3, by omega⟩, selOk_at tw l h x3 (by omega), fun e => ?_, fun e => ?_⟩
  · rw [if_pos e] at hQ
    exact (hQ i rfl).2 (by omega)
  · rw [if_neg e] at hQ
    exact ⟨inR_i64.2 (by omega), mL_lt hi, ⟨⟨gw, trivial, trivial, show (0 : Int) ≤ i + 1 by omega, show i + 1 ≤ (l.length : Int) by omega⟩, hQ⟩⟩
theorem ok67L : Lp2Ok Tryz.prog 18 0 lc67 := lp2_of (n := 5) (ex := ex67) (m := fun (l, _, _, i, _) => mL l i) (good2_nil _) fun (l0, ((), ((tw, l, h), p, ())), m, i, ()) Q hx => by
  obtain ⟨⟨g1, g2, g3, g4, g5⟩, hQ⟩ := hx
  have g2 : l0 = l := g2
  subst g2
  have g3 : m = (l0.length : Int) := g3
  subst g3
  exact h67L tw l0 h p i Q g1 g4 g5 hQ
theorem idxP_cases (l : List Dl) (h : List Int) (p : Int) : ∀ (n : Nat) (i : Int), 0 ≤ i → (idxP l h p n i = -1 ∧ ∀ j, i ≤ j → j < i + n → at' h (dlAt l j).2.1 ≠ p) ∨ (i ≤ idxP l h p n i ∧ idxP l h p n i < i + n ∧ ∀ j, i ≤ j → j < idxP l h p n i → at' h (dlAt l j).2.1 ≠ p)
  | 0, i, _ => .inl ⟨rfl, fun j a b => by omega⟩
  | n + 1, i, h0 => by
    simp only [idxP]
    split
    · exact .inr ⟨Int.le_refl _, by omega, fun j a b => by omega⟩
    · rename_i hne
      rcases idxP_cases l h p n (i + 1) (by omega) with ⟨a, b⟩ | ⟨a, b, c⟩
      · refine .inl ⟨a, fun j x y => ?_⟩
        by_cases e : j = i
        · subst e; exact hne
        · exact b j (by omega) (by omega)
      · refine .inr ⟨by omega, by omega, fun j x y => ?_⟩
        by_cases e : j = i
        · subst e; exact hne
        · exact c j (by omega) y
theorem ok67 : F2Ok Tryz.prog 18 fc67 := fn2_of (n := 5) ((good2_nil _).addL2 ok67L) fun (l0, ((), ((tw, l, h), p, ())), ()) K hx => by
  obtain ⟨⟨g1, g2⟩, hK⟩ := hx
  have g2 : l0 = l := g2
  subst g2
  show xfn2 Tryz.prog { l2 := [(18, 0, lc67)] } 5 18 fc67 (l0, ((), ((tw, l0, h), p, ())), ()) K
  rw [v67F]
  have hK : ∀ r : Int, r = idxP l0 (arL 23 h) p l0.length 0 → K ((), ((), ((tw, l0, h), p, ())), r, ()) := hK
  refine ⟨⟨g1, rfl, rfl, Int.le_refl (0 : Int), show (0 : Int) ≤ (l0.length : Int) by omega⟩, fun r hr => ⟨fun e => ?_, fun e => hK r hr⟩⟩
  have := hK r hr
  rw [e] at this; exact this
theorem firstRep_bd (w : Wt) (l : List Dl) (h : List Int) (p : Int) : ∀ (n : Nat) (k : Int), k ≤ firstRep w l h p n k ∧ firstRep w l h p n k ≤ k + n
  | 0, k => ⟨Int.le_refl _, by simp [firstRep]⟩
  | n + 1, k => by
    simp only [firstRep]
    have := firstRep_bd w l h p n (k + 1)
    split <;> omega
theorem firstRep_skip (w : Wt) (l : List Dl) (h : List Int) (p : Int) : ∀ (a n : Nat) (k : Int), (∀ j, k ≤ j → j < k + a → repAt w l h p j = false) → firstRep w l h p (a + n) k = firstRep w l h p n (k + a)
  | 0, n, k, _ => by simp
  | a + 1, n, k, hn => by
    rw [show a + 1 + n = (a + n) + 1 by omega]
    simp only [firstRep]
    rw [hn k (Int.le_refl _) (by omega), if_neg (by simp), firstRep_skip w l h p a n (k + 1) fun j x y => hn j (by omega) (by omega)]
    congr 1; omega
theorem repAt_ne {w : Wt} {l : List Dl} {h : List Int} {p j : Int} (e : at' h (dlAt l j).2.1 ≠ p) : repAt w l h p j = false := by
  unfold repAt; rw [decide_eq_false e, Bool.false_and]
theorem h32B (tw : Wt) (l : List Dl) (h : Ar) (o : List Dl) (p k q : Int) (Q : AX → St → Prop) (gw : watP (tw, l, h)) (k0 : -1 ≤ k) (k1 : k ≤ l.length)
    (hQ : ∀ k1 : Int, k1 = (if k < 0 then k else firstRep tw l (arL 23 h) p (l.length - k.toNat) k) → Q (.exit 2) (stS 3 sh32b (l, (tw, l, h), o, p, k1, q, ()))) :
    xloop2 Tryz.prog { f := [(20, fcRep)] } 5 7 1 lc32b (fun _ => some (sh32b, 3)) (fun (l, _, _, _, k, _) => mL l k) (l, (tw, l, h), o, p, k, q, ()) Q := by
  rw [v32B]
  simp only [fork_iff, req_iff, decide_eq_true_eq, decide_eq_false_iff_not, bne_iff_ne, ne_eq, bne_eq_false_iff_eq, Bool.not_eq_true', Bool.not_eq_false', Nat.zero_add, Nat.le_refl, seg_self, true_and, ge_iff_le]
  have gd : ∀ d ∈ l, dayOk d := gw.2.2
  have h64 : l.length ≤ 64 := gw.2.1
  refine ⟨fun a0 => ⟨fun a1 => ?_, fun a1 => hQ k (by rw [if_neg (by omega), show l.length - k.toNat = 0 by omega]; rfl)⟩, fun a0 => hQ k (by rw [if_pos (by omega)])⟩
  have dx : dayOk (l.getD k.toNat ((0, 0, 0) : Dl)) := gd _ (dl_in a0 a1)
  have hs : l.length - k.toNat = (l.length - (k + 1).toNat) + 1 := by omega
  rw [if_neg (show ¬ k < 0 by omega), hs] at hQ
  simp only [firstRep] at hQ
  have hra : repAt tw l (arL 23 h) p k = (decide (at' (arL 23 h) (l.getD k.toNat ((0, 0, 0) : Dl)).2.1 = p) && repB tw l (arL 23 h) k) := rfl
  rw [hra] at hQ
  generalize l.getD k.toNat ((0, 0, 0) : Dl) = x at *
  obtain ⟨x1, x2, x3, x4, x5, x6⟩ := dx
  rw [selI_at tw l h x3 (by omega)]
  have go : (decide (at' (arL 23 h) x.2.1 = p) && repB tw l (arL 23 h) k) = false → inR .i64 (k + 1) = true ∧ mL l (k + 1) < mL l k ∧ (watP (tw, l, h) ∧ (-1 ≤ k + 1 ∧ k + 1 ≤ (l.length : Int))) ∧ ∀ k1 : Int, k1 = (if k + 1 < 0 then k + 1 else firstRep tw l (arL 23 h) p (l.length - (k + 1).toNat) (k + 1)) → Q (.exit 2) (stS 3 sh32b (l, (tw, l, h), o, p, k1, q, ())) := fun e =>
    ⟨inR_i64.2 (by omega), mL_lt a1, ⟨gw, by omega, by omega⟩, fun k1 hk1 => hQ k1 (by rw [e, if_neg (by simp)]; rw [if_neg (show ¬ k + 1 < 0 by omega)] at hk1; exact hk1)⟩
  refine ⟨⟨a0, a1⟩, ⟨x3, by omega⟩, selOk_at tw l h x3 (by omega), fun e => go (by rw [decide_eq_false e, Bool.false_and]), fun e => ⟨⟨gw, a0, a1⟩, fun b hb => ⟨fun z => go (by rw [← hb, z, Bool.and_false]), fun z => hQ k (by rw [decide_eq_true e, ← hb, z, Bool.true_and, if_pos rfl])⟩⟩⟩
theorem ok32B : Lp2Ok Tryz.prog 7 1 lc32b := lp2_of (n := 5) (ex := fun _ => some (sh32b, 3)) (m := fun (l, _, _, _, k, _) => mL l k) ((good2_nil _).addF ok69) fun (l0, (tw, l, h), o, p, k, q, ()) Q hx => by
  obtain ⟨⟨g1, g2, g3, g4⟩, hQ⟩ := hx
  have g2 : l0 = l := g2
  subst g2
  exact h32B tw l0 h o p k q Q g1 g3 g4 hQ
theorem h32A (tw : Wt) (l : List Dl) (h : Ar) (o : List Dl) (p : Int) (Q : AX → St → Prop) (gw : watP (tw, l, h)) (p0 : 0 ≤ p) (p1 : p ≤ 24) (ho : (o.length : Int) ≤ p)
    (hQ : ∀ o1 : List Dl, o1 = o ++ alarmsF tw l (arL 23 h) (24 - p.toNat) p → Q (.exit 0) (stS 2 sh32e (o1, ()))) :
    xloop2 Tryz.prog { nm := true, f := [(21, fcSums)], f2 := [(18, fc67)], l2 := [(7, 1, lc32b)] } 5 7 0 lc32a (fun _ => some (sh32e, 2)) (fun (_, _, _, p, _) => (24 - p).toNat) (l, (tw, l, h), o, p, ()) Q := by
  rw [v32A]
  simp only [fork_iff, req_iff, decide_eq_true_eq, decide_eq_false_iff_not, beq_iff_eq, beq_eq_false_iff_ne, ne_eq, Nat.zero_add, Nat.le_refl, seg_self, true_and, and_true]
  have h64 : l.length ≤ 64 := gw.2.1
  refine ⟨fun hp => ⟨gw, fun r hr => ?_⟩, fun hp => hQ o (by rw [show 24 - p.toNat = 0 by omega]; simp [alarmsF])⟩
  have hc := idxP_cases l (arL 23 h) p l.length 0 (Int.le_refl _)
  rw [← hr] at hc
  have r0 : -1 ≤ r := by rcases hc with ⟨a, _⟩ | ⟨a, _, _⟩ <;> omega
  have r1 : r ≤ l.length := by rcases hc with ⟨a, _⟩ | ⟨_, a, _⟩ <;> omega
  refine ⟨⟨gw, r0, r1⟩, fun k1 hk1 => ?_⟩
  have hk1 : k1 = if r < 0 then r else firstRep tw l (arL 23 h) p (l.length - r.toNat) r := hk1
  rw [show 24 - p.toNat = (24 - (p + 1).toNat) + 1 by omega] at hQ
  simp only [alarmsF] at hQ
  have hk : (k1 < 0 ∧ alarmK tw l (arL 23 h) p = l.length) ∨ (0 ≤ k1 ∧ k1 ≤ l.length ∧ k1 = alarmK tw l (arL 23 h) p) := by
    rcases hc with ⟨a, b⟩ | ⟨a, b, c⟩
    · left
      rw [if_pos (by omega)] at hk1
      refine ⟨by omega, ?_⟩
      have := firstRep_skip tw l (arL 23 h) p l.length 0 0 fun j x y => repAt_ne (b j x (by omega))
      unfold alarmK
      rw [Nat.add_zero] at this
      rw [this]; simp [firstRep]
    · right
      rw [if_neg (by omega)] at hk1
      have hb := firstRep_bd tw l (arL 23 h) p (l.length - r.toNat) r
      refine ⟨by omega, by omega, ?_⟩
      have := firstRep_skip tw l (arL 23 h) p r.toNat (l.length - r.toNat) 0 fun j x y => repAt_ne (c j x (by omega))
      rw [show r.toNat + (l.length - r.toNat) = l.length by omega, show (0 : Int) + (r.toNat : Int) = r by omega] at this
      unfold alarmK
      rw [this, hk1]
  have go : ∀ o' : List Dl, (o'.length : Int) ≤ p + 1 → (∀ o1 : List Dl, o1 = o' ++ alarmsF tw l (arL 23 h) (24 - (p + 1).toNat) (p + 1) → Q (.exit 0) (stS 2 sh32e (o1, ()))) →
      ((24 - (p + 1)).toNat < (24 - p).toNat ∧ (watP (tw, l, h) ∧ (0 ≤ p + 1 ∧ p + 1 ≤ 24 ∧ (o'.length : Int) ≤ p + 1)) ∧ ∀ o1 : List Dl, o1 = o' ++ alarmsF tw l (arL 23 h) (24 - (p + 1).toNat) (p + 1) → Q (.exit 0) (stS 2 sh32e (o1, ()))) := fun o' a b => ⟨by omega, ⟨gw, by omega, by omega, a⟩, b⟩
  have none' : ¬ alarmK tw l (arL 23 h) p < l.length → ∀ o1 : List Dl, o1 = o ++ alarmsF tw l (arL 23 h) (24 - (p + 1).toNat) (p + 1) → Q (.exit 0) (stS 2 sh32e (o1, ())) := fun z o1 ho1 => hQ o1 (by rw [if_neg z]; exact ho1)
  refine ⟨fun a => ⟨inR_i64.2 (by omega), go o (by omega) (none' (by omega))⟩, fun a => ⟨fun b => ⟨inR_i64.2 (by omega), go o (by omega) (none' (by omega))⟩, fun b => ⟨⟨gw, show (0 : Int) ≤ k1 by omega, show k1 < (l.length : Int) by omega⟩, fun a1 s1 n1 e1 e2 e3 => ⟨fits100 (by omega), fun ys hys => ?_⟩⟩⟩⟩
  subst hys
  have e4 : (o ++ [((p, k1, n1) : Dl)]).length = o.length + 1 := by simp
  rw [← e4, seg_self]
  have hke : k1 = alarmK tw l (arL 23 h) p := by omega
  exact ⟨inR_i64.2 (by omega), Nat.le_refl _, go (o ++ [((p, k1, n1) : Dl)]) (by omega) fun o1 ho1 => hQ o1 (by
    rw [if_pos (by omega), ← hke, ← e3, ho1]; simp)⟩
theorem ok32A : Lp2Ok Tryz.prog 7 0 lc32a := lp2_of (n := 5) (ex := fun _ => some (sh32e, 2)) (m := fun (_, _, _, p, _) => (24 - p).toNat) ((((good2_nilN _).addL2 ok32B).addF2 ok67).addF ok70) fun (l0, (tw, l, h), o, p, ()) Q hx => by
  obtain ⟨⟨g1, g2, g3, g4, g5⟩, hQ⟩ := hx
  have g2 : l0 = l := g2
  subst g2
  exact h32A tw l0 h o p Q g1 g3 g4 g5 hQ
theorem ok32 : FnOk Tryz.prog 7 fcAlarms := fn1_of (n := 5) (((good2_nil _).addL2 ok32A).addF ok66) fun (l, ls, w, ()) K hx => by
  obtain ⟨⟨g1, g2⟩, hK⟩ := hx
  have hK : ∀ (r : List Dl) (e : Int), (r, e) = alarmsR l ls w → K (r, e, ()) := hK
  rw [v32F]
  refine ⟨⟨g1, g2⟩, fun hw h e1 e2 => ⟨⟨watP_of h hw, rfl, Int.le_refl (0 : Int), show (0 : Int) ≤ 24 by decide, Int.le_refl (0 : Int)⟩, fun o1 ho1 => ?_⟩, fun hw => hK _ _ (by unfold alarmsR; rw [hw]; rfl)⟩
  simp only [req_iff, decide_eq_true_eq, Nat.zero_add, Nat.le_refl, seg_self, true_and]
  refine hK _ _ ?_
  unfold alarmsR
  rw [if_pos hw, ho1, e1]; rfl
end Go.P8
