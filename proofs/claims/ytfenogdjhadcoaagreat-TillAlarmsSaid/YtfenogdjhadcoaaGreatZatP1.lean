/- Links and heads: the code keeps its contracts. No conditions. -/
import Derived.Test.YtfenogdjhadcoaaGreatZatS1
import Derived.Test.YtfenogdjhadcoaaGreatZBase
set_option linter.constructorNameAsVariable false
set_option linter.unusedVariables false
set_option linter.unusedSimpArgs false
set_option maxRecDepth 100000
set_option maxHeartbeats 4000000
namespace Go.P8
open Go.Lom Go.Proofs Go

/-! are these links? -/
theorem okLink_iff {x : Lk} : okLink x = true ↔ (0 ≤ x.1 ∧ x.1 ≤ 23) ∧ (0 ≤ x.2 ∧ x.2 ≤ 23) ∧ x.1 ≠ x.2 := by
  simp only [okLink, Bool.and_eq_true, decide_eq_true_eq, and_assoc]
theorem okLink_not {x : Lk} (h : ¬ ((0 ≤ x.1 ∧ x.1 ≤ 23) ∧ (0 ≤ x.2 ∧ x.2 ≤ 23) ∧ x.1 ≠ x.2)) : okLink x = false := Bool.eq_false_iff.2 fun e => h (okLink_iff.1 e)
theorem badLk_ge : ∀ (l : List Lk) (i : Int), 0 ≤ i → firstBadLk l i = -1 ∨ i ≤ firstBadLk l i
  | [], _, _ => .inl rfl
  | x :: l, i, h => by
    simp only [firstBadLk]
    split
    · rcases badLk_ge l (i + 1) (by omega) with h | h
      · exact .inl h
      · exact .inr (by omega)
    · exact .inr (Int.le_refl _)
theorem badLk_all : ∀ (l : List Lk) (i : Int), 0 ≤ i → (firstBadLk l i = -1 ↔ l.all okLink = true)
  | [], _, _ => by simp [firstBadLk]
  | x :: l, i, h => by
    simp only [firstBadLk, List.all_cons, Bool.and_eq_true]
    split
    · rename_i hx; rw [badLk_all l (i + 1) (by omega)]; simp [hx]
    · rename_i hx; simp [hx]; omega
theorem h110L (l : List Lk) (i : Int) (Q : AX → St → Prop) (h0 : 0 ≤ i) (h1 : i ≤ l.length) (hl : l.length ≤ 2000) (hT : firstBadLk (l.drop i.toNat) i = -1 → Q (.exit 0) (stS 0 .nil ())) (hF : firstBadLk (l.drop i.toNat) i ≠ -1 → Q .ret (stS 0 shR4i (firstBadLk (l.drop i.toNat) i, ()))) :
    xloop2 Tryz.prog {} 5 64 0 lc110 ex84 (fun (l, _, _, i, _) => mL l i) (l, ((), ()), (l.length : Int), i, ()) Q := by
  rw [v110L]
  simp only [fork_iff, req_iff, decide_eq_true_eq, decide_eq_false_iff_not, Bool.not_eq_true', Bool.not_eq_false', ge_iff_le, true_and, beq_iff_eq, beq_eq_false_iff_ne, ne_eq]
  refine ⟨fun hi => ⟨⟨h0, hi⟩, ?_⟩, fun hi => hT (by rw [drop_end hi]; rfl)⟩
  rw [drop_step ((0, 0) : Lk) h0 hi] at hT hF
  simp only [firstBadLk] at hT hF
  generalize l.getD i.toNat ((0, 0) : Lk) = x at *
  have bad : ¬ ((0 ≤ x.1 ∧ x.1 ≤ 23) ∧ (0 ≤ x.2 ∧ x.2 ≤ 23) ∧ x.1 ≠ x.2) → Q .ret (stS 0 shR4i (i, ())) := fun h => by
    rw [okLink_not h] at hF
    simp only [Bool.false_eq_true, if_false] at hF
    exact hF (by omega)
  refine ⟨fun a => ⟨fun b => bad (by omega), fun b => ⟨fun c => ⟨fun d => bad (by omega), fun d => ⟨fun e => bad (by omega), fun e => ?_⟩⟩, fun c => bad (by omega)⟩⟩, fun a => bad (by omega)⟩
  have hb : okLink x = true := okLink_iff.2 ⟨⟨a, b⟩, ⟨c, d⟩, e⟩
  rw [hb, if_pos rfl] at hT hF
  exact ⟨inR_i64.2 (by omega), mL_lt hi, ⟨⟨show (0 : Int) ≤ i + 1 by omega, show i + 1 ≤ (l.length : Int) by omega, hl⟩, hT, hF⟩⟩
theorem ok110L : Lp2Ok Tryz.prog 64 0 lc110 := lp2_of (n := 5) (ex := ex84) (m := fun (l, _, _, i, _) => mL l i) (good2_nil _) fun (l, ((), ()), m, i, ()) Q hx => by
  obtain ⟨⟨g1, g2, g3, g4⟩, hT, hF⟩ := hx
  have g3 : m = (l.length : Int) := g3
  subst g3
  exact h110L l i Q g1 g2 g4 hT hF
theorem ok110 : FnOk Tryz.prog 64 fc110 := fn1_of (n := 5) ((good2_nil _).addL2 ok110L) fun (l, ((), ()), ()) K hx => by
  obtain ⟨g1, hK⟩ := hx
  have g1 : l.length ≤ 2000 := g1
  rw [v110F]
  refine ⟨⟨Int.le_refl (0 : Int), show (0 : Int) ≤ (l.length : Int) by omega, rfl, g1⟩, fun h => ?_, fun h => hK⟩
  have h : firstBadLk l 0 = -1 := h
  have hK : K (firstBadLk l 0, ()) := hK
  rw [h] at hK; exact hK
theorem ok64 : FnOk Tryz.prog 12 fc64 := fn1_of (n := 5) ((good2_nil _).addF ok110) fun (l, ()) K hx => by
  obtain ⟨g1, hK⟩ := hx
  rw [v64F]
  simp only [fork_iff, decide_eq_true_eq, decide_eq_false_iff_not]
  refine ⟨fun h => ⟨by omega, ?_⟩, fun h => hK _ ?_⟩
  · refine hK _ ?_
    show _ = linkedOk l
    unfold linkedOk
    rw [decide_eq_true (show l.length ≤ 64 by omega), Bool.true_and]
    rcases badLk_ge l 0 (Int.le_refl _) with e | e
    · rw [(badLk_all l 0 (Int.le_refl _)).1 e, e]; rfl
    · have : l.all okLink = false := Bool.eq_false_iff.2 fun h => by have := (badLk_all l 0 (Int.le_refl _)).2 h; omega
      rw [this, decide_eq_true (show firstBadLk l 0 ≥ 0 from e)]; rfl
  · show false = linkedOk l
    unfold linkedOk
    rw [decide_eq_false (show ¬ l.length ≤ 64 by omega), Bool.false_and]
theorem lks_of {l : List Lk} (h : linkedOk l = true) : lksOk l := by
  unfold linkedOk at h
  simp only [Bool.and_eq_true, decide_eq_true_eq, List.all_eq_true] at h
  exact h

/-! joining -/
theorem lk_in {ls : List Lk} {p : Int} (h0 : 0 ≤ p) (h1 : p < ls.length) : ls.getD p.toNat ((0, 0) : Lk) ∈ ls := by
  rw [List.getD_eq_getElem?_getD, List.getElem?_eq_getElem (show p.toNat < ls.length by omega)]
  exact List.getElem_mem _
theorem h95L (c : Nat) (i h : Int) (o : List Int) (ls : List Lk) (p : Int) (Q : AX → St → Prop) (g1 : lksOk ls) (p0 : 0 ≤ p) (p1 : p ≤ ls.length) (hl : o.length = 24) (hi : inP i) (hh : 0 ≤ h) (hoi : 0 ≤ at' o i) (hn : neg o < c)
    (hQ : ∀ o1 : List Int, Grew ls o i h o1 → closedBut ls o o1 (fun _ => False) → neg o1 ≤ neg o → (∀ x ∈ ls.drop p.toNat, (x.1 = i → 0 ≤ at' o1 x.2) ∧ (x.2 = i → 0 ≤ at' o1 x.1)) → Q (.exit 0) (stS 3 sh95e (o1, ls, ((), (), (), (), ()), ()))) :
    xloop2 Tryz.prog { nm := true, f2 := [(45, fc95 c)] } 5 45 0 (lc95 c) (fun _ => some (sh95e, 3)) (fun (_, _, _, _, _, l, _, p, _) => mL l p) (i, h, o, ls, ((), (), (), (), ()), ls, (ls.length : Int), p, ()) Q := by
  rw [v95L]
  simp only [fork_iff, req_iff, decide_eq_true_eq, decide_eq_false_iff_not, beq_iff_eq, beq_eq_false_iff_ne, ne_eq]
  refine ⟨fun hp => ⟨⟨p0, hp⟩, ?_⟩, fun hp => ?_⟩
  · have hx := lk_in p0 hp
    rw [drop_step ((0, 0) : Lk) p0 hp] at hQ
    generalize ls.getD p.toNat ((0, 0) : Lk) = x at *
    obtain ⟨x1, x2⟩ := x
    obtain ⟨in1, in2, hne⟩ := ok_in g1.2 hx
    -- what has come about with this link
    have rest : ∀ o1 : List Int, Ext ls o i h o1 → (x1 = i → 0 ≤ at' o1 x2) → (x2 = i → 0 ≤ at' o1 x1) → (∀ o2 : List Int, Ext ls o1 i h o2 → (∀ x ∈ ls.drop (p + 1).toNat, (x.1 = i → 0 ≤ at' o2 x.2) ∧ (x.2 = i → 0 ≤ at' o2 x.1)) → Q (.exit 0) (stS 3 sh95e (o2, ls, ((), (), (), (), ()), ()))) := fun o1 e1 hs1 hs2 o2 e2 h2 => by
      have e := e1.trans g1.2 e2
      refine hQ o2 e.grew e.closed e.neg fun y hy => ?_
      rcases List.mem_cons.1 hy with rfl | hy
      · exact ⟨fun q => e2.mono in2 (hs1 q), fun q => e2.mono in1 (hs2 q)⟩
      · exact h2 y hy
    have go : ∀ o1 : List Int, Ext ls o i h o1 → (x1 = i → 0 ≤ at' o1 x2) → (x2 = i → 0 ≤ at' o1 x1) → inR .i64 (p + 1) = true ∧ mL ls (p + 1) < mL ls p ∧ (lksOk ls ∧ True ∧ True ∧ (0 ≤ p + 1 ∧ p + 1 ≤ (ls.length : Int)) ∧ o1.length = 24 ∧ inP i ∧ 0 ≤ h ∧ 0 ≤ at' o1 i ∧ neg o1 < c) ∧ ∀ o2 : List Int, Grew ls o1 i h o2 → closedBut ls o1 o2 (fun _ => False) → neg o2 ≤ neg o1 → (∀ x ∈ ls.drop (p + 1).toNat, (x.1 = i → 0 ≤ at' o2 x.2) ∧ (x.2 = i → 0 ≤ at' o2 x.1)) → Q (.exit 0) (stS 3 sh95e (o2, ls, ((), (), (), (), ()), ())) := fun o1 e hs1 hs2 =>
      ⟨inR_i64.2 (by have := g1.1; omega), mL_lt hp, ⟨g1, trivial, trivial, ⟨show (0 : Int) ≤ p + 1 by omega, show p + 1 ≤ (ls.length : Int) by omega⟩, e.grew.len, hi, hh, e.mono hi hoi, Nat.lt_of_le_of_lt e.neg hn⟩, fun o2 a1 a2 a3 a4 => rest o1 e hs1 hs2 o2 ⟨a1, a2, a3⟩ a4⟩
    have e0 : Ext ls o i h o := Ext.refl i h hl
    refine ⟨fun q1 => ⟨⟨g1, hl, in2, hh, hn⟩, fun o1 j1 => ?_⟩, fun q1 => ⟨fun q2 => ⟨⟨g1, hl, in1, hh, hn⟩, fun o1 j1 => ?_⟩, fun q2 => go o e0 (fun q => absurd q q1) (fun q => absurd q q2)⟩⟩
    · have q1 : x1 = i := q1
      have e1 := Joined.ext j1 (Conn.fw (Conn.refl i) (q1 ▸ hx))
      refine ⟨fun q2 => absurd (q1.trans (Eq.symm q2)) hne, fun q2 => go o1 e1 (fun _ => j1.self) (fun q => absurd q q2)⟩
    · have q2 : x2 = i := q2
      have e1 := Joined.ext j1 (Conn.bw (Conn.refl i) (q2 ▸ hx))
      exact go o1 e1 (fun q => absurd q q1) (fun _ => j1.self)
  · have e0 : Ext ls o i h o := Ext.refl i h hl
    exact hQ o e0.grew e0.closed e0.neg (by rw [drop_end hp]; simp)
theorem ok95L (c : Nat) (h : F2Ok Tryz.prog 45 (fc95 c)) : Lp2Ok Tryz.prog 45 0 (lc95 c) := lp2_of (n := 5) (ex := fun _ => some (sh95e, 3)) (m := fun (_, _, _, _, _, l, _, p, _) => mL l p) ((good2_nilN _).addF2 h) fun (i, h, o, ls, u, l, m, p, ()) Q hx => by
  obtain ⟨⟨g1, g2, g3, ⟨g4, g5⟩, g6, g7, g8, g9, g10⟩, hQ⟩ := hx
  have g2 : l = ls := g2
  have g3 : m = (ls.length : Int) := g3
  subst g2; subst g3
  exact h95L c i h o l p Q g1 g4 g5 g6 g7 g8 g9 g10 hQ
theorem h95F (c : Nat) (i h : Int) (o : List Int) (ls : List Lk) (K : post95.den → Prop) (g1 : lksOk ls) (hl : o.length = 24) (hi : inP i) (hh : 0 ≤ h) (hn : neg o < c + 1) (hK : ∀ o1 : List Int, Joined ls o i h o1 → K ((), (), o1, ls, ((), (), (), (), ()), ())) :
    xfn2 Tryz.prog { nm := true, l2 := [(45, 0, lc95 c)] } 5 45 (fc95 (c + 1)) (i, h, o, ls, ((), (), (), (), ()), ()) K := by
  rw [v95F]
  simp only [fork_iff, req_iff, decide_eq_true_eq, decide_eq_false_iff_not, Nat.zero_add, ge_iff_le]
  have hb := hi.1
  have hb2 := hi.2
  have hb3 : i.toNat < o.length := by omega
  refine ⟨⟨hb, hb2⟩, hb3, fun h0 => hK o (joined_refl h hl h0), fun h0 => ⟨⟨hb, hb2⟩, hb3, fun ys hys => ?_⟩⟩
  subst hys
  have hneg : at' o i < 0 := by show o.getD i.toNat 0 < 0; omega
  have hset := neg_set o i.toNat h hb3 hneg hh
  exact ⟨⟨g1, trivial, trivial, ⟨Int.le_refl (0 : Int), show (0 : Int) ≤ (ls.length : Int) by omega⟩, by simpa using hl, hi, hh, by rw [at_set hi hi hl, if_pos rfl]; exact hh, by omega⟩, fun o1 a1 a2 a3 a4 => hK o1 (joined_of hi hl hh hneg a1 a2 a3 a4)⟩
theorem ok95 : ∀ c, F2Ok Tryz.prog 45 (fc95 c)
  | 0 => fn2_of (n := 5) (T := {}) (good2_nil _) fun x K hx => by
      obtain ⟨i, h, o, ls, u, v⟩ := x
      exact absurd hx.1.2.2.2.2 (Nat.not_lt_zero _)
  | c + 1 => fn2_of (n := 5) ((good2_nilN _).addL2 (ok95L c (ok95 c))) fun (i, h, o, ls, u, ()) K hx => by
    obtain ⟨⟨g1, g2, g3, g4, g5⟩, hK⟩ := hx
    exact h95F c i h o ls K g1 g2 g3 g4 g5 hK

/-! the heads -/
theorem h65A (ls : List Lk) (o : List Int) (n : Int) (Q : AX → St → Prop) (hl : o.length = 24) (h0 : 0 ≤ n) (h1 : n ≤ 24) (hQ : ∀ o1 : List Int, o1 = o.take n.toNat ++ List.replicate (24 - n.toNat) (-1) → Q (.exit 0) (stS 2 sh65ae (ls, o1, ()))) :
    xloop2 Tryz.prog {} 5 13 0 lc65a (fun _ => some (sh65ae, 2)) (fun (_, _, n, _) => (24 - n).toNat) (ls, o, n, ()) Q := by
  rw [v65A]
  simp only [fork_iff, req_iff, decide_eq_true_eq, decide_eq_false_iff_not, Nat.zero_add]
  refine ⟨fun h => ⟨⟨h0, h⟩, by omega, inR_i64.2 (by omega), show (24 - (n + 1)).toNat < (24 - n).toNat by omega, ⟨by simpa using hl, show (0 : Int) ≤ n + 1 by omega, show n + 1 ≤ (24 : Int) by omega⟩, fun o1 ho1 => hQ o1 ?_⟩, fun h => hQ o ?_⟩
  · have ho1 : o1 = (o.set n.toNat (-1)).take (n + 1).toNat ++ List.replicate (24 - (n + 1).toNat) (-1) := ho1
    rw [ho1, show (n + 1).toNat = n.toNat + 1 by omega, show 24 - n.toNat = (24 - (n.toNat + 1)) + 1 by omega, List.replicate_succ, List.take_succ_eq_append_getElem (by simp; omega)]
    simp [List.take_set_of_le]
  · rw [show n.toNat = o.length by omega, List.take_length, hl]; simp
theorem ok65A : Lp2Ok Tryz.prog 13 0 lc65a := lp2_of (n := 5) (ex := fun _ => some (sh65ae, 2)) (m := fun (_, _, n, _) => (24 - n).toNat) (good2_nil _) fun (ls, o, n, ()) Q hx => by
  obtain ⟨⟨g1, g2, g3⟩, hQ⟩ := hx
  exact h65A ls o n Q g1 g2 g3 hQ
theorem neg_le (o : List Int) : neg o ≤ o.length := List.countP_le_length
theorem h65B (ls : List Lk) (o : List Int) (n : Int) (Q : AX → St → Prop) (g1 : lksOk ls) (t : TopInv ls o n) (h0 : 0 ≤ n) (h1 : n ≤ 24) (hQ : ∀ o1 : List Int, HeadsOk ls o1 → Q (.exit 2) (stS 2 sh65ae (ls, o1, ()))) :
    xloop2 Tryz.prog { f2 := [(45, fc95 25)] } 5 13 1 lc65b (fun _ => some (sh65ae, 2)) (fun (_, _, _, n, _) => (24 - n).toNat) (ls, o, ((), (), (), (), ()), n, ()) Q := by
  rw [v65B]
  simp only [fork_iff, req_iff, decide_eq_true_eq, decide_eq_false_iff_not]
  have hng := neg_le o
  have hl := t.len
  refine ⟨fun h => ⟨⟨g1, hl, ⟨h0, h⟩, h0, by omega⟩, fun o1 j => ⟨inR_i64.2 (by omega), show (24 - (n + 1)).toNat < (24 - n).toNat by omega, ⟨g1, t.step g1.2 ⟨h0, h⟩ j, show (0 : Int) ≤ n + 1 by omega, show n + 1 ≤ (24 : Int) by omega⟩, hQ⟩⟩, fun h => hQ o ?_⟩
  have : n = 24 := by omega
  subst this; exact t.heads g1.2
theorem ok65B : Lp2Ok Tryz.prog 13 1 lc65b := lp2_of (n := 5) (ex := fun _ => some (sh65ae, 2)) (m := fun (_, _, _, n, _) => (24 - n).toNat) ((good2_nil _).addF2 (ok95 25)) fun (ls, o, u, n, ()) Q hx => by
  obtain ⟨⟨g1, g2, g3, g4⟩, hQ⟩ := hx
  exact h65B ls o n Q g1 g2 g3 g4 hQ
theorem ok65 : FnOk Tryz.prog 13 fc65 := fn1_of (n := 5) (((good2_nil _).addL2 ok65B).addL2 ok65A) fun (ls, ()) K hx => by
  obtain ⟨g1, hK⟩ := hx
  rw [v65F]
  simp only [req_iff, decide_eq_true_eq, true_and]
  refine ⟨⟨Int.le_refl (0 : Int), show (0 : Int) ≤ 24 by decide⟩, fun o1 ho1 => ?_⟩
  have ho1 : o1 = List.replicate 24 (-1) := ho1
  subst ho1
  refine ⟨⟨g1, TopInv.start ls, Int.le_refl (0 : Int), show (0 : Int) ≤ 24 by decide⟩, fun h hh => ⟨hh.len, hh.len, hh.len, hh.len, hK h hh⟩⟩
end Go.P8
