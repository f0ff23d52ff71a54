/- Days: valid days, balances, explanations: the code keeps its contracts. No conditions. -/
import Derived.Test.YtfenogdjhadcoaaDayS2
import Derived.Test.YtfenogdjhadcoaaDayP2
import Derived.Test.YtfenogdjhadcoaaPayP3
set_option linter.all false
set_option maxRecDepth 100000
set_option maxHeartbeats 4000000
namespace Go.P8
open Go.Lom Go.Proofs Go
theorem h84S (l : List Int) (i : Int) (Q : AX -> St -> Prop) (i0 : 0 <= i) (i1 : i <= l.length) (hl : l.length <= big) (hA : (l.drop i.toNat).all sumOk = true -> Q (.exit 0) (stS 0 .nil ())) (hB : (l.drop i.toNat).all sumOk = false -> ∀ r : Int, 0 <= r -> Q .ret (stS 0 shR4i (r, ()))) :
  xloop2 Try.prog {} 5 84 0 (lc84v 80 sumOk) ex84 (fun (l, _, _, i, _) => mL l i) (l, ((), ()), l.length, i, ()) Q := by
 replace hl : l.length <= 9223372036854775807 := hl
 rw [v84S]
 simp only [fork_iff, req_iff, decide_eq_true_eq, decide_eq_false_iff_not, true_and, ge_iff_le, Bool.not_eq_true', Bool.not_eq_false']
 refine ⟨fun hi => ⟨⟨i0, hi⟩, fun h1 => ⟨fun h2 => ?_, fun h2 => ⟨inR_i64.2 (by omega), mL_dec hi, ⟨⟨show (0 : Int) <= i + 1 by omega, show i + 1 <= (l.length : Int) by omega, hl⟩, fun h => ?_, fun h => ?_⟩⟩⟩, fun h1 => ?_⟩, fun hi => ?_⟩
 ·rw [drop_at i0 hi, List.all_cons] at hB
  exact hB (by rw [show sumOk (l.getD i.toNat 0) = false from decide_eq_false (fun c => h2 c.2), Bool.false_and]) i i0
 ·rw [drop_at i0 hi, List.all_cons, show sumOk (l.getD i.toNat 0) = true from decide_eq_true ⟨h1, h2⟩, Bool.true_and] at hA
  exact hA h
 ·rw [drop_at i0 hi, List.all_cons, show sumOk (l.getD i.toNat 0) = true from decide_eq_true ⟨h1, h2⟩, Bool.true_and] at hB
  exact hB h
 ·rw [drop_at i0 hi, List.all_cons] at hB
  exact hB (by rw [show sumOk (l.getD i.toNat 0) = false from decide_eq_false (fun c => h1 c.1), Bool.false_and]) i i0
 ·rw [drop_no hi] at hA
  exact hA rfl
theorem ok84S : Lp2Ok Try.prog 84 0 (lc84v 80 sumOk) := lp2_of (n := 5) (ex := ex84) (m := fun (l, _, _, i, _) => mL l i) (good2_nil _) fun (l, ((), ()), m, i, ()) Q hx => by
 obtain ⟨⟨g1, g2, g3, g4⟩, hA, hB⟩ := hx
 have g3 : m = (l.length : Int) := g3
 subst g3
 exact h84S l i Q g1 g2 g4 hA hB
theorem ok84SF : FnOk Try.prog 84 (fc84v 80 sumOk) := fn1_of (n := 5) ((good2_nil _).addL2 ok84S) fun (l, ((), ()), ()) K hx => by
 obtain ⟨g1, hK⟩ := hx
 have g1 : l.length <= big := g1
 show xfn1 Try.prog { l2 := [(84, 0, lc84v 80 sumOk)] } 5 84 (fc84v 80 sumOk) (l, ((), ()), ()) K
 rw [v84SF]
 simp only [List.drop_zero]
 exact ⟨⟨Int.le_refl (0 : Int), Int.natCast_nonneg _, trivial, g1⟩, fun h => hK (-1) (by show decide ((0 : Int) <= -1) = !l.all sumOk; rw [h]; rfl), fun h r hr => hK r (by show decide ((0 : Int) <= r) = !l.all sumOk; rw [h, decide_eq_true hr]; rfl)⟩
theorem h84Z (l : List Int) (i : Int) (Q : AX -> St -> Prop) (i0 : 0 <= i) (i1 : i <= l.length) (hl : l.length <= big) (hA : (l.drop i.toNat).all zeroO = true -> Q (.exit 0) (stS 0 .nil ())) (hB : (l.drop i.toNat).all zeroO = false -> ∀ r : Int, 0 <= r -> Q .ret (stS 0 shR4i (r, ()))) :
  xloop2 Try.prog {} 5 84 0 (lc84v 59 zeroO) ex84 (fun (l, _, _, i, _) => mL l i) (l, ((), ()), l.length, i, ()) Q := by
 replace hl : l.length <= 9223372036854775807 := hl
 rw [v84Z]
 simp only [fork_iff, req_iff, decide_eq_true_eq, decide_eq_false_iff_not, true_and, bne_iff_ne, ne_eq, bne_eq_false_iff_eq]
 refine ⟨fun hi => ⟨⟨i0, hi⟩, fun h2 => ?_, fun h2 => ⟨inR_i64.2 (by omega), mL_dec hi, ⟨⟨show (0 : Int) <= i + 1 by omega, show i + 1 <= (l.length : Int) by omega, hl⟩, fun h => ?_, fun h => ?_⟩⟩⟩, fun hi => ?_⟩
 ·rw [drop_at i0 hi, List.all_cons] at hB
  exact hB (by rw [show zeroO (l.getD i.toNat 0) = false from decide_eq_false h2, Bool.false_and]) i i0
 ·rw [drop_at i0 hi, List.all_cons, show zeroO (l.getD i.toNat 0) = true from decide_eq_true h2, Bool.true_and] at hA
  exact hA h
 ·rw [drop_at i0 hi, List.all_cons, show zeroO (l.getD i.toNat 0) = true from decide_eq_true h2, Bool.true_and] at hB
  exact hB h
 ·rw [drop_no hi] at hA
  exact hA rfl
theorem ok84Z : Lp2Ok Try.prog 84 0 (lc84v 59 zeroO) := lp2_of (n := 5) (ex := ex84) (m := fun (l, _, _, i, _) => mL l i) (good2_nil _) fun (l, ((), ()), m, i, ()) Q hx => by
 obtain ⟨⟨g1, g2, g3, g4⟩, hA, hB⟩ := hx
 have g3 : m = (l.length : Int) := g3
 subst g3
 exact h84Z l i Q g1 g2 g4 hA hB
theorem ok84ZF : FnOk Try.prog 84 (fc84v 59 zeroO) := fn1_of (n := 5) ((good2_nil _).addL2 ok84Z) fun (l, ((), ()), ()) K hx => by
 obtain ⟨g1, hK⟩ := hx
 have g1 : l.length <= big := g1
 show xfn1 Try.prog { l2 := [(84, 0, lc84v 59 zeroO)] } 5 84 (fc84v 59 zeroO) (l, ((), ()), ()) K
 rw [v84ZF]
 simp only [List.drop_zero]
 exact ⟨⟨Int.le_refl (0 : Int), Int.natCast_nonneg _, trivial, g1⟩, fun h => hK (-1) (by show decide ((0 : Int) <= -1) = !l.all zeroO; rw [h]; rfl), fun h r hr => hK r (by show decide ((0 : Int) <= r) = !l.all zeroO; rw [h, decide_eq_true hr]; rfl)⟩
theorem ok58z : FnOk Try.prog 58 fc58z := fn1_of (n := 5) ((good2_nil _).addF ok84ZF) fun (l, ((), ()), ()) K hx => by
 obtain ⟨g1, hK⟩ := hx
 have g1 : l.length <= big := g1
 show xfn1 Try.prog { f := [(84, fc84v 59 zeroO)] } 5 58 fc58z (l, ((), ()), ()) K
 rw [v58Z]
 refine ⟨g1, fun r hr => hK _ ?_⟩
 exact hr
theorem po_drop {l : List Po} {i : Int} (h0 : 0 <= i) (h1 : i < l.length) : l.drop i.toNat = l.getD i.toNat (0, 0, 0) :: l.drop (i + 1).toNat := by
 rw [show (i + 1).toNat = i.toNat + 1 by omega, List.drop_eq_getElem_cons (show i.toNat < l.length by omega), List.getD_eq_getElem?_getD, List.getElem?_eq_getElem (show i.toNat < l.length by omega)]; rfl
theorem po_no {l : List Po} {i : Int} (h1 : ¬ i < l.length) : l.drop i.toNat = [] := List.drop_eq_nil_of_le (by omega)
theorem h106L (l : List Po) (o c : List Int) (ps : List Po) (i : Int) (Q : AX -> St -> Prop) (i0 : 0 <= i) (i1 : i <= l.length) (hl : l.length <= big) (o2 : 2 <= o.length) (o8 : o.length <= 8)
  (hA : (l.drop i.toNat).all (poOk o.length) = true -> Q (.exit 0) (stS 1 (S [(1, cl82)]) (((), (o, ps, c), ()), ()))) (hB : (l.drop i.toNat).all (poOk o.length) = false -> ∀ r : Int, 0 <= r -> Q .ret (stS 1 (S [(1, cl82), (4, .v I)]) (((), (o, ps, c), ()), r, ()))) :
  xloop2 Try.prog {} 5 106 0 lc106 ex106 (fun (l, _, _, i, _) => mL l i) (l, ((), ((o, ps, c), ())), l.length, i, ()) Q := by
 replace hl : l.length <= 9223372036854775807 := hl
 rw [v106L]
 simp only [fork_iff, req_iff, decide_eq_true_eq, decide_eq_false_iff_not, true_and, ge_iff_le, Bool.not_eq_true', Bool.not_eq_false', beq_iff_eq, beq_eq_false_iff_ne, ne_eq]
 refine ⟨fun hi => ?_, fun hi => ?_⟩
 ·rw [po_drop i0 hi, List.all_cons] at hA hB
  have hk : poOk o.length (l.getD i.toNat (0, 0, 0)) = decide ((0 <= (l.getD i.toNat (0, 0, 0)).1 /\ (l.getD i.toNat (0, 0, 0)).1 < o.length) /\ (0 <= (l.getD i.toNat (0, 0, 0)).2.1 /\ (l.getD i.toNat (0, 0, 0)).2.1 < o.length) /\ (l.getD i.toNat (0, 0, 0)).1 ≠ (l.getD i.toNat (0, 0, 0)).2.1 /\ 1 <= (l.getD i.toNat (0, 0, 0)).2.2 /\ (l.getD i.toNat (0, 0, 0)).2.2 <= 1073741824) := rfl
  rw [hk] at hA hB
  have out : ¬ ((0 <= (l.getD i.toNat (0, 0, 0)).1 /\ (l.getD i.toNat (0, 0, 0)).1 < o.length) /\ (0 <= (l.getD i.toNat (0, 0, 0)).2.1 /\ (l.getD i.toNat (0, 0, 0)).2.1 < o.length) /\ (l.getD i.toNat (0, 0, 0)).1 ≠ (l.getD i.toNat (0, 0, 0)).2.1 /\ 1 <= (l.getD i.toNat (0, 0, 0)).2.2 /\ (l.getD i.toNat (0, 0, 0)).2.2 <= 1073741824) -> Q .ret (stS 1 (S [(1, cl82), (4, .v I)]) (((), (o, ps, c), ()), i, ())) := fun h =>
   hB (by rw [decide_eq_false h, Bool.false_and]) i i0
  have hr : inR .i64 ((o.length : Int) - 1) = true := inR_i64.2 (by omega)
  refine ⟨⟨i0, hi⟩, hr, fun a1 => ⟨fun a2 => out (by omega), fun a2 => ⟨hr, fun b1 => ⟨fun b2 => out (by omega), fun b2 => ⟨fun c1 => out (by omega), fun c1 => ⟨fun d1 => ⟨fun d2 => out (by omega), fun d2 => ⟨inR_i64.2 (by omega), mL_dec hi, ⟨⟨show (0 : Int) <= i + 1 by omega, show i + 1 <= (l.length : Int) by omega, hl, o2, o8⟩, fun h => ?_, fun h => ?_⟩⟩⟩, fun d1 => out (by omega)⟩⟩⟩, fun b1 => out (by omega)⟩⟩, fun a1 => out (by omega)⟩
  ·exact hA (by rw [decide_eq_true (by omega), Bool.true_and]; exact h)
  ·exact hB (by rw [decide_eq_true (by omega), Bool.true_and]; exact h)
 ·rw [po_no hi] at hA
  exact hA rfl
theorem ok106L : Lp2Ok Try.prog 106 0 lc106 := lp2_of (n := 5) (ex := ex106) (m := fun (l, _, _, i, _) => mL l i) (good2_nil _) fun (l, ((), ((o, ps, c), ())), m, i, ()) Q hx => by
 obtain ⟨⟨g1, g2, g3, g4, g5, g6⟩, hA, hB⟩ := hx
 have g3 : m = (l.length : Int) := g3
 subst g3
 exact h106L l o c ps i Q g1 g2 g4 g5 g6 hA hB
theorem ok106 : F2Ok Try.prog 106 fc106 := fn2_of (n := 5) ((good2_nil _).addL2 ok106L) fun (l, ((), ((o, ps, c), ())), ()) K hx => by
 obtain ⟨⟨g1, g2, g3⟩, hK⟩ := hx
 have g1 : l.length <= big := g1
 show xfn2 Try.prog { l2 := [(106, 0, lc106)] } 5 106 fc106 (l, ((), ((o, ps, c), ())), ()) K
 rw [v106F]
 simp only [List.drop_zero]
 exact ⟨⟨Int.le_refl (0 : Int), Int.natCast_nonneg _, trivial, g1, g2, g3⟩, fun h => hK (-1) (by show decide ((0 : Int) <= -1) = !l.all (poOk o.length); rw [h]; rfl), fun h r hr => hK r (by show decide ((0 : Int) <= r) = !l.all (poOk o.length); rw [h, decide_eq_true hr]; rfl)⟩
theorem h52F (o c : List Int) (ps : List Po) (K : dens [.b] -> Prop) (hb : bigD (o, ps, c)) (hK : ∀ b : Bool, b = dayOk (o, ps, c) -> K (b, ())) :
  xfn1 Try.prog { f := [(84, fc84v 80 sumOk)], f2 := [(106, fc106)] } 5 52 fc52 ((o, ps, c), ()) K := by
 rw [v52F]
 obtain ⟨h1, h2, h3⟩ := hb
 have h1 : o.length <= big := h1
 have h2 : ps.length <= big := h2
 have h3 : c.length <= big := h3
 have hd : dayOk (o, ps, c) = (decide (2 <= o.length /\ o.length <= 8 /\ c.length = o.length /\ ps.length <= 16) && o.all sumOk && c.all sumOk && ps.all (poOk o.length)) := rfl
 rw [hd] at hK
 have out1 : ¬ (2 <= o.length /\ o.length <= 8 /\ c.length = o.length /\ ps.length <= 16) -> K (false, ()) := fun h => hK false (by rw [decide_eq_false h]; rfl)
 simp only [fork_iff, req_iff, decide_eq_true_eq, decide_eq_false_iff_not, true_and, ge_iff_le, gt_iff_lt, Bool.not_eq_true', Bool.not_eq_false', bne_iff_ne, ne_eq, bne_eq_false_iff_eq]
 refine ⟨fun a1 => ⟨fun a2 => out1 (by omega), fun a2 => ⟨fun a3 => out1 (by omega), fun a3 => ⟨h1, fun r hr => ⟨fun r0 => hK false ?_, fun r0 => ⟨h3, fun q hq => ⟨fun q0 => hK false ?_, fun q0 => ⟨fun a4 => out1 (by omega), fun a4 => ⟨⟨h2, by omega, by omega⟩, fun t ht => hK _ ?_⟩⟩⟩⟩⟩⟩⟩⟩, fun a1 => out1 (by omega)⟩
 ·rw [decide_eq_true r0] at hr
  rw [show o.all sumOk = false by simpa using hr.symm]
  simp
 ·rw [decide_eq_true q0] at hq
  rw [show c.all sumOk = false by simpa using hq.symm]
  simp
 ·rw [decide_eq_false r0] at hr
  rw [decide_eq_false q0] at hq
  rw [show o.all sumOk = true by simpa using hr.symm, show c.all sumOk = true by simpa using hq.symm, decide_eq_true (show 2 <= o.length /\ o.length <= 8 /\ c.length = o.length /\ ps.length <= 16 by omega), ht]
  simp
theorem ok52 : FnOk Try.prog 52 fc52 := fn1_of (n := 5) (((good2_nil _).addF2 ok106).addF ok84SF) fun ((o, ps, c), ()) K hx => h52F o c ps K hx.1 hx.2
theorem poOk_iff {k : Nat} {p : Po} : poOk k p = true ↔ (0 <= p.1 /\ p.1 < k) /\ (0 <= p.2.1 /\ p.2.1 < k) /\ p.1 ≠ p.2.1 /\ 1 <= p.2.2 /\ p.2.2 <= 1073741824 := decide_eq_true_iff
theorem po_mem {l : List Po} {i : Int} (h0 : 0 <= i) (h1 : i < l.length) : l.getD i.toNat (0, 0, 0) ∈ l := by
 rw [List.getD_eq_getElem?_getD, List.getElem?_eq_getElem (show i.toNat < l.length by omega)]; exact List.getElem_mem _
theorem moveI_len (l : List Int) (f t s : Int) : (moveI l f t s).length = l.length := by unfold moveI; rw [addAt_len, addAt_len]
theorem h53L (o : List Int) (ps : List Po) (i : Int) (Q : AX -> St -> Prop) (i0 : 0 <= i) (i1 : i <= ps.length) (hl : ps.length <= 16) (hp : ∀ p ∈ ps, poOk o.length p = true) (hb : offB ((1 + 2 * i) * 1073741824) o)
  (hQ : Q (.exit 0) (stS 1 sh53e (balI o (ps.drop i.toNat), ()))) :
  xloop2 Try.prog { nm := true } 5 53 0 lc53 (fun _ => some (sh53e, 1)) (fun (_, ps, _, i, _) => mL ps i) (o, ps, ps.length, i, ()) Q := by
 rw [v53L]
 simp only [fork_iff, req_iff, decide_eq_true_eq, decide_eq_false_iff_not, true_and, Nat.add_zero, Nat.zero_add, Nat.le_refl, seg_all]
 refine ⟨fun hi => ?_, fun hi => ?_⟩
 ·rw [po_drop i0 hi] at hQ
  have hpi := poOk_iff.1 (hp _ (po_mem i0 hi))
  generalize ps.getD i.toNat (0, 0, 0) = p at *
  obtain ⟨p1, p2, p3⟩ := p
  dsimp only at hpi ⊢
  obtain ⟨a1, a2, a3, a4, a5⟩ := hpi
  have g1 := offB_get hb (by omega) p1.toNat
  refine ⟨⟨i0, hi⟩, a1, by omega, inR_i64.2 (by omega), a1, by omega, fun ys hy => ?_⟩
  have hy : ys = addAt o p1 (-p3) := by rw [hy]; rfl
  have hyl : ys.length = o.length := by rw [hy, addAt_len]
  have hyb : offB ((1 + 2 * i) * 1073741824 + 1073741824) ys := by rw [hy]; exact offB_add hb (by omega) (by omega)
  have g2 := offB_get hyb (by omega) p2.toNat
  refine ⟨a2, by omega, inR_i64.2 (by omega), a2, by omega, fun zs hz => ?_⟩
  have hz : zs = addAt ys p2 p3 := hz
  have hzl : zs.length = o.length := by rw [hz, addAt_len, hyl]
  have hzb : offB ((1 + 2 * i) * 1073741824 + 1073741824 + 1073741824) zs := by rw [hz]; exact offB_add hyb (by omega) (by omega)
  rw [<- hzl, seg_all]
  refine ⟨inR_i64.2 (by omega), Nat.le_refl _, mL_dec hi, ⟨⟨show (0 : Int) <= i + 1 by omega, show i + 1 <= (ps.length : Int) by omega, hl, fun p hm => by rw [hzl]; exact hp p hm, ?_⟩, ?_⟩⟩
  ·show offB ((1 + 2 * (i + 1)) * 1073741824) zs
   rw [show (1 + 2 * (i + 1)) * 1073741824 = (1 + 2 * i) * 1073741824 + 1073741824 + 1073741824 by omega]; exact hzb
  ·have e : zs = moveI o p1 p2 p3 := by rw [hz, hy]; rfl
   rw [e]; exact hQ
 ·rw [po_no hi] at hQ
  exact hQ
theorem ok53L : Lp2Ok Try.prog 53 0 lc53 := lp2_of (n := 5) (ex := fun _ => some (sh53e, 1)) (m := fun (_, ps, _, i, _) => mL ps i) (good2_nilN _) fun (o, ps, m, i, ()) Q hx => by
 obtain ⟨⟨g1, g2, g3, g4, g5, g6⟩, hQ⟩ := hx
 have g3 : m = (ps.length : Int) := g3
 subst g3
 exact h53L o ps i Q g1 g2 g4 g5 g6 hQ
structure okY (d : Dy) : Prop where
 len : 2 <= d.1.length /\ d.1.length <= 8 /\ d.2.2.length = d.1.length /\ d.2.1.length <= 16
 opn : ∀ n ∈ d.1, 0 <= n /\ n <= 1073741824
 cnt : ∀ n ∈ d.2.2, 0 <= n /\ n <= 1073741824
 pos : ∀ p ∈ d.2.1, poOk d.1.length p = true
theorem dayOk_iff {d : Dy} : dayOk d = true ↔ okY d := by
 unfold dayOk
 simp only [Bool.and_eq_true, decide_eq_true_eq, List.all_eq_true]
 exact ⟨fun ⟨⟨⟨a, b⟩, c⟩, e⟩ => ⟨a, fun n hn => of_decide_eq_true (b n hn), fun n hn => of_decide_eq_true (c n hn), e⟩, fun ⟨a, b, c, e⟩ => ⟨⟨⟨a, fun n hn => decide_eq_true (b n hn)⟩, fun n hn => decide_eq_true (c n hn)⟩, e⟩⟩
theorem ok53 : F2Ok Try.prog 53 fc53 := fn2_of (n := 5) (((good2_nilN _).addL2 ok53L).addF2 ok50) fun ((o, ps, c), ()) K hx => by
 obtain ⟨hd, hK⟩ := hx
 have hy := dayOk_iff.1 hd
 have hl : 2 <= o.length /\ o.length <= 8 /\ c.length = o.length /\ ps.length <= 16 := hy.len
 have hpos : ∀ p ∈ ps, poOk o.length p = true := hy.pos
 have hop : ∀ n ∈ o, 0 <= n /\ n <= 1073741824 := hy.opn
 show xfn2 Try.prog { nm := true, f2 := [(50, fc50)], l2 := [(53, 0, lc53)] } 5 53 fc53 ((o, ps, c), ()) K
 rw [v53F]
 simp only [req_iff, decide_eq_true_eq, true_and, Nat.zero_add, Nat.le_refl, seg_all, List.drop_zero]
 refine ⟨hl.2.1, fun r hr => ?_⟩
 subst hr
 exact ⟨⟨Int.le_refl (0 : Int), Int.natCast_nonneg _, hl.2.2.2, hpos, fun x hx => by
  have h2 : (0 : Int) <= x /\ x <= 1073741824 := hop x hx
  show -(1073741824 : Int) <= x /\ x <= 1073741824
  omega⟩, hK _ rfl⟩
end Go.P8
