/- TillAlarms: the law holds. No conditions. -/
import Derived.Test.YtfenogdjhadcoaaGreatLawZ
import Derived.Test.YtfenogdjhadcoaaGreatRefZV
import Derived.Test.YtfenogdjhadcoaaGreatZorksT
set_option linter.constructorNameAsVariable false
set_option linter.unusedVariables false
set_option linter.unusedSimpArgs false
set_option maxRecDepth 100000
set_option maxHeartbeats 4000000
namespace Go.P8
open Go.Lom Go.Proofs Go

theorem same_step {a b : List Int} {i : Int} (h0 : 0 ≤ i) (h1 : i < a.length) (h2 : i < b.length) : decide (a.drop i.toNat = b.drop i.toNat) = ((a.getD i.toNat 0 == b.getD i.toNat 0) && decide (a.drop (i + 1).toNat = b.drop (i + 1).toNat)) := by
  rw [drop_step 0 h0 h1, drop_step 0 h0 h2]
  by_cases h : a.getD i.toNat 0 = b.getD i.toNat 0
  · rw [h, beq_self_eq_true, Bool.true_and]
    exact decide_eq_decide.2 ⟨fun e => (List.cons.inj e).2, fun e => by rw [e]⟩
  · rw [decide_eq_false (fun e => h (List.cons.inj e).1)]
    rw [show (a.getD i.toNat 0 == b.getD i.toNat 0) = false from beq_eq_false_iff_ne.2 h]; rfl
theorem h14L (a b : List Int) (ok : Bool) (i : Int) (Q : AX → St → Prop) (h0 : 0 ≤ i) (hb : a.length ≤ big) (ho : ok = true → a.length = b.length ∧ i ≤ a.length) (hQ : ∀ r : Bool, r = (ok && decide (a.drop i.toNat = b.drop i.toNat)) → Q (.exit 0) (stS 0 sh14e (r, ()))) :
    xloop2 Tryz.prog {} 5 6 0 lc14 (fun _ => some (sh14e, 0)) (fun (a, _, _, i, _) => (a.length + 1 - i).toNat) (a, b, ok, i, ()) Q := by
  rw [v14L]
  have hbig : (big : Int) = 9223372036854775807 := rfl
  simp only [fork_iff, req_iff, decide_eq_true_eq, decide_eq_false_iff_not]
  refine ⟨fun hk => ?_, fun hk => hQ ok (by rw [hk]; rfl)⟩
  obtain ⟨o1, o2⟩ := ho hk
  refine ⟨fun hi => ⟨⟨h0, hi⟩, ⟨h0, by omega⟩, inR_i64.2 (by omega), ?_, ⟨⟨show (0 : Int) ≤ i + 1 by omega, hb, fun _ => ⟨o1, show i + 1 ≤ (a.length : Int) by omega⟩⟩, fun r hr => hQ r ?_⟩⟩, fun hi => hQ ok (by rw [drop_end hi, drop_end (l := b) (by omega)]; simp)⟩
  · show ((a.length : Int) + 1 - (i + 1)).toNat < ((a.length : Int) + 1 - i).toNat
    omega
  · rw [hk, Bool.true_and, same_step h0 hi (by omega)]; exact hr
theorem ok14L : Lp2Ok Tryz.prog 6 0 lc14 := lp2_of (n := 5) (ex := fun _ => some (sh14e, 0)) (m := fun (a, _, _, i, _) => (a.length + 1 - i).toNat) (good2_nil _) fun (a, b, ok, i, ()) Q hx => by
  obtain ⟨⟨g1, g2, g3⟩, hQ⟩ := hx
  exact h14L a b ok i Q g1 g2 g3 hQ
theorem ok14 : FnOk Tryz.prog 6 fcSame := fn1_of (n := 5) ((good2_nil _).addL2 ok14L) fun (a, b, ()) K hx => by
  obtain ⟨g1, hK⟩ := hx
  show xfn1 Tryz.prog { l2 := [(6, 0, lc14)] } 5 6 fcSame (a, b, ()) K
  rw [v14F]
  refine ⟨⟨Int.le_refl (0 : Int), g1, fun h => ?_⟩, fun r hr => hK r ?_⟩
  · have h : (a.length : Int) = b.length := by simpa using h
    exact ⟨by omega, Int.natCast_nonneg _⟩
  · rw [hr]
    simp only [List.drop_zero]
    show _ = decide (a = b)
    by_cases h : a = b
    · subst h; simp
    · rw [decide_eq_false h, Bool.and_false]

theorem pickF_len (l : List Dl) (s : Int) : ∀ (is : List Int) (r : Nat) (n : Int), (pickF l s is r n).length ≤ is.length
  | [], _, _ => Nat.le_refl _
  | a :: is, r, n => by
    simp only [pickF]
    have h1 := pickF_len l s is (r - 1) (n + amt l a)
    have h2 := pickF_len l s is r n
    split
    · exact Nat.zero_le _
    · split <;> (try simp) <;> omega
theorem reas_len {l : List Dl} {ls : List Lk} {w : Wt} {k : Int} {r : List Int} {e : Int} (h : (r, e) = reasonsF l ls w k) : r.length ≤ 64 := by
  have hr : r = (reasonsF l ls w k).1 := by rw [← h]
  rw [hr]
  unfold reasonsF
  split
  · rename_i hw
    split
    · rename_i hk
      have hA : (allI w l (headOf ls) k).length ≤ 64 := (ix_all (h := headOf ls) (dlP_of hw) hk.1 (by omega)).2.2.1
      split
      · split
        · show ((smallI w l (headOf ls) k).take w.2.2.2.toNat).length ≤ 64
          have h1 : (smallI w l (headOf ls) k).length ≤ (allI w l (headOf ls) k).length := List.length_filter_le _ _
          rw [List.length_take]; omega
        · exact Nat.le_trans (pickF_len _ _ _ _ _) hA
      · exact Nat.zero_le _
    · exact Nat.zero_le _
  · exact Nat.zero_le _
theorem okWorksZ : FnOk Tryz.prog 11 fcWorks := okWorks
theorem h3Z (k : Int) (l : List Dl) (ls : List Lk) (w : Wt) (a : List Dl) (i : Int) (Q : AX → St → Prop) (hl : a.length ≤ 64) (h0 : 0 ≤ i) (h1 : i ≤ a.length) (hQ : Q (.exit 0) (stS 1 sh3ze (k, (l, ls, w), ()))) :
    xloop2 Tryz.prog {} 5 3 0 lc3z (fun _ => some (sh3ze, 1)) (fun (_, _, a, _, i, _) => mL a i) (k, (l, ls, w), a, a, i, ()) Q := by
  rw [v3Z]
  simp only [fork_iff, req_iff, decide_eq_true_eq, decide_eq_false_iff_not, beq_self_eq_true, Bool.and_self, Bool.not_true]
  exact ⟨fun hi => ⟨⟨h0, hi⟩, ⟨h0, hi⟩, (fun z => by cases z), fun _ => ⟨inR_i64.2 (by omega), mL_lt hi, ⟨trivial, hl, show (0 : Int) ≤ i + 1 by omega, show i + 1 ≤ (a.length : Int) by omega⟩, hQ⟩⟩, fun _ => hQ⟩
theorem ok3Z : Lp2Ok Tryz.prog 3 0 lc3z := lp2_of (n := 5) (ex := fun _ => some (sh3ze, 1)) (m := fun (_, _, a, _, i, _) => mL a i) (good2_nil _) fun (k, (l, ls, w), a, b, i, ()) Q hx => by
  obtain ⟨⟨g1, g2, g3, g4⟩, hQ⟩ := hx
  have g1 : a = b := g1
  subst g1
  exact h3Z k l ls w a i Q g2 g3 g4 hQ
theorem fkz {b : Bool} {P Q : Prop} (h1 : b = true → P) (h2 : b = false → Q) : fork b P Q := fork_iff.2 ⟨h1, h2⟩
theorem h3ZF (l : List Dl) (ls : List Lk) (w : Wt) (k : Int) (K : dens [.b] → Prop) (g1 : l.length ≤ big) (g2 : ls.length ≤ big) (hK : K (true, ())) :
    xfn1 Tryz.prog { f := [(4, fcLinked), (5, fcLinked), (6, fcSame), (7, fcAlarms), (8, fcAlarms), (9, fcReas), (10, fcReas), (11, fcWorks)], l2 := [(3, 0, lc3z)] } 5 3 fc3z ((l, ls, w), k, ()) K := by
  rw [v3ZF]
  refine ⟨g2, fun r e hr ho => ⟨g2, fun r1 e1 hr1 _ => ⟨?_, fun b hb => ?_⟩⟩⟩
  · have : r.length ≤ 24 := by
      unfold linkedR at hr
      by_cases z : linkedOk ls = true
      · rw [if_pos z] at hr
        have : r = headOf ls := congrArg Prod.fst hr
        rw [this, (ho z).len]; exact Nat.le_refl _
      · rw [if_neg z] at hr
        have : r = [] := congrArg Prod.fst hr
        rw [this]; exact Nat.zero_le _
    exact Nat.le_trans this (by decide)
  have h1 : (r, e) = (r1, e1) := hr.trans hr1.symm
  have h2 : r = r1 := congrArg Prod.fst h1
  have h3 : e = e1 := congrArg Prod.snd h1
  subst h2; subst h3
  refine fkz (fun z => by rw [hb, decide_eq_true rfl] at z; cases z) fun _ => fkz (fun z => by simp at z) fun _ => ⟨⟨g1, g2⟩, fun a ea ha => ⟨⟨g1, g2⟩, fun a1 ea1 ha1 => ?_⟩⟩
  have h4 : (a, ea) = (a1, ea1) := ha.trans ha1.symm
  have h5 : a = a1 := congrArg Prod.fst h4
  have h6 : ea = ea1 := congrArg Prod.snd h4
  subst h5; subst h6
  have hal : a.length ≤ 64 := by
    unfold alarmsR at ha
    split at ha
    · have : a = alarmsF w l (headOf ls) 24 0 := congrArg Prod.fst ha
      have hl : ∀ (n : Nat) (p : Int), (alarmsF w l (headOf ls) n p).length ≤ n := fun n => by
        induction n with
        | zero => intro p; exact Nat.le_refl _
        | succ n ih =>
          intro p
          simp only [alarmsF]
          have := ih (p + 1)
          split <;> (try simp) <;> omega
      rw [this]; exact Nat.le_trans (hl 24 0) (by decide)
    · have : a = [] := congrArg Prod.fst ha
      rw [this]; exact Nat.zero_le _
  refine fkz (fun z => by simp at z) fun _ => fkz (fun z => by simp at z) fun _ => ⟨⟨rfl, hal, Int.le_refl (0 : Int), show (0 : Int) ≤ (a.length : Int) by omega⟩, ⟨g1, g2⟩, fun s es hs => ⟨⟨g1, g2⟩, fun s1 es1 hs1 => ⟨?_, fun b5 hb5 => ?_⟩⟩⟩
  · have : s.length ≤ 64 := reas_len hs
    exact Nat.le_trans this (by decide)
  have h7 : (s, es) = (s1, es1) := hs.trans hs1.symm
  have h8 : s = s1 := congrArg Prod.fst h7
  have h9 : es = es1 := congrArg Prod.snd h7
  subst h8; subst h9
  exact fkz (fun _ => fkz (fun _ => hK) fun z => by simp at z) fun z => by rw [hb5, decide_eq_true rfl] at z; cases z
theorem ok3z : FnOk Tryz.prog 3 fc3z := fn1_of (n := 5) (((((((((good2_nil _).addL2 ok3Z).addF okWorksZ).addF ok10z).addF ok34).addF ok8z).addF ok32).addF ok14).addF ok5z |>.addF ok31) fun ((l, ls, w), k, ()) K hx => h3ZF l ls w k K hx.1.1 hx.1.2 hx.2
end Go.P8
