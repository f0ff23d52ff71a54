/- Drawers: Check, Pay and Change of the program: the code keeps its contracts. No conditions. -/
import Derived.Test.YtfenogdjhadcoaaPayP2
set_option linter.all false
set_option maxRecDepth 100000
set_option maxHeartbeats 4000000
namespace Go.P8
open Go.Lom Go.Proofs Go
theorem haveB_iff {n : Int} : haveB n = true ↔ 0 <= n /\ n <= 50 := by unfold haveB; exact decide_eq_true_iff
theorem haveB_not {n : Int} (h : ¬ (0 <= n /\ n <= 50)) : haveB n = false := decide_eq_false h
theorem h84L (l : List Int) (i : Int) (Q : AX -> St -> Prop) (h0 : 0 <= i) (h1 : i <= l.length) (hl : l.length <= 2000) (hT : (l.drop i.toNat).all haveB = true -> Q (.exit 0) (stS 0 .nil ())) (hF : (l.drop i.toNat).all haveB = false -> Q .ret (stS 0 shR4i (firstBadH (l.drop i.toNat) i, ()))) :
  xloop2 Try.prog {} 5 84 0 lc84 ex84 (fun (l, _, _, i, _) => mL l i) (l, ((), ()), (l.length : Int), i, ()) Q := by
 rw [v84L]
 simp only [fork_iff, req_iff, decide_eq_true_eq, decide_eq_false_iff_not, Bool.not_eq_true', Bool.not_eq_false', ge_iff_le, true_and]
 refine ⟨fun hi => ⟨⟨h0, hi⟩, ?_⟩, fun hi => hT (by rw [drop_end hi]; rfl)⟩
 rw [drop_step 0 h0 hi, List.all_cons] at hT hF
 simp only [firstBadH] at hF
 generalize l.getD i.toNat 0 = x at *
 have bad : ¬ (0 <= x /\ x <= 50) -> Q .ret (stS 0 shR4i (i, ())) := fun h => by
  rw [haveB_not h] at hF
  simpa using hF
 refine ⟨fun hx => ⟨fun hy => bad (by omega), fun hy => ?_⟩, fun hx => bad (by omega)⟩
 have hb : haveB x = true := haveB_iff.2 ⟨hx, hy⟩
 rw [hb, Bool.true_and] at hT hF
 rw [if_pos rfl] at hF
 exact ⟨inR_i64.2 (by omega), mL_lt hi, ⟨⟨show (0 : Int) <= i + 1 by omega, show i + 1 <= (l.length : Int) by omega, hl⟩, hT, hF⟩⟩
theorem ok84L : Lp2Ok Try.prog 84 0 lc84 := lp2_of (n := 5) (ex := ex84) (m := fun (l, _, _, i, _) => mL l i) (good2_nil _) fun (l, ((), ()), m, i, ()) Q hx => by
 obtain ⟨⟨g1, g2, g3, g4⟩, hT, hF⟩ := hx
 have g3 : m = (l.length : Int) := g3
 subst g3
 exact h84L l i Q g1 g2 g4 hT hF
theorem firstBadH_all : ∀ (l : List Int) (i : Int), 0 <= i -> (l.all haveB = true -> firstBadH l i = -1) /\ (l.all haveB = false -> 0 <= firstBadH l i)
 | [], i, _ => ⟨fun _ => rfl, fun h => by simp at h⟩
 | x :: l, i, h => by
  obtain ⟨h1, h2⟩ := firstBadH_all l (i + 1) (by omega)
  simp only [firstBadH, List.all_cons]
  by_cases hp : haveB x = true
  ·rw [if_pos hp, hp, Bool.true_and]; exact ⟨h1, h2⟩
  ·rw [if_neg hp]; simp only [Bool.not_eq_true] at hp; rw [hp, Bool.false_and]; simp [h]
theorem ok84 : FnOk Try.prog 84 fc84 := fn1_of (n := 5) ((good2_nil _).addL2 ok84L) fun (l, ((), ()), ()) K hx => by
 obtain ⟨g1, hK⟩ := hx
 show xfn1 Try.prog { l2 := [(84, 0, lc84)] } 5 84 fc84 (l, ((), ()), ()) K
 rw [v84F]
 simp only [List.drop_zero, true_and]
 exact ⟨⟨Int.le_refl (0 : Int), Int.natCast_nonneg _, g1⟩, fun h => by rw [<- (firstBadH_all l 0 (by omega)).1 h]; exact hK, fun h => hK⟩
theorem ok47 : FnOk Try.prog 47 fc47 := fn1_of (n := 5) ((good2_nil _).addF ok84) fun (d, l, ()) K hx => by
 obtain ⟨g1, hK⟩ := hx
 have g1 : d.1.length <= 8 := g1
 show xfn1 Try.prog { f := [(84, fc84)] } 5 47 fc47 (d, l, ()) K
 rw [v47F]
 simp only [fork_iff, beq_iff_eq, beq_eq_false_iff_ne, ne_eq]
 refine ⟨fun h => ⟨by omega, ?_⟩, fun h => ?_⟩
 ·have e : haveOk d l = !decide (firstBadH l 0 >= 0) := by
   unfold haveOk
   rw [decide_eq_true (show l.length = d.1.length by omega), Bool.true_and]
   cases ha : l.all haveB with
   | true => rw [(firstBadH_all l 0 (by omega)).1 ha]; rfl
   | false => rw [decide_eq_true ((firstBadH_all l 0 (by omega)).2 ha)]; rfl
  rw [<- e]; exact hK
 ·have e : haveOk d l = false := by
   unfold haveOk
   rw [decide_eq_false (show ¬ l.length = d.1.length by omega), Bool.false_and]
  rw [<- e]; exact hK
theorem ok47' : FnOk Try.prog 47 fc47' := fun x K hx => ok47 x K ⟨hx.1, hx.2 _ rfl⟩
theorem range_step {i n : Nat} (h : i < n) : List.range' i (n - i) = i :: List.range' (i + 1) (n - (i + 1)) := by
 rw [show n - i = (n - (i + 1)) + 1 by omega, List.range'_succ]
theorem coinsOk_step {l : List Int} {i : Nat} (h : i < l.length) : coinsOk l i = (coinB l i && coinsOk l (i + 1)) := by
 unfold coinsOk; rw [range_step h, List.all_cons]
theorem coinsOk_end {l : List Int} {i : Nat} (h : ¬ i < l.length) : coinsOk l i = true := by
 unfold coinsOk; rw [show l.length - i = 0 by omega]; rfl
theorem h15L (d : Dr) (i : Int) (Q : AX -> St -> Prop) (h0 : 0 <= i) (h1 : i <= d.1.length) (hl : d.1.length <= 8) (hT : coinsOk d.1 i.toNat = true -> Q (.exit 0) (stS 0 .nil ())) (hF : coinsOk d.1 i.toNat = false -> Q .ret (stS 0 shR2 (80, ()))) :
  xloop2 Try.prog {} 5 15 0 lc15 ex15 (fun (_, l, _, i, _) => mL l i) (d, d.1, (d.1.length : Int), i, ()) Q := by
 rw [v15L]
 simp only [fork_iff, req_iff, decide_eq_true_eq, decide_eq_false_iff_not, Bool.not_eq_true', Bool.not_eq_false', ge_iff_le, gt_iff_lt, true_and]
 refine ⟨fun hi => ⟨⟨h0, hi⟩, ?_⟩, fun hi => hT (coinsOk_end (by omega))⟩
 have hlt : i.toNat < d.1.length := by omega
 rw [coinsOk_step hlt] at hT hF
 have e1 : (i - 1).toNat = i.toNat - 1 := by omega
 have e2 : (i + 1).toNat = i.toNat + 1 := by omega
 have cb : coinB d.1 i.toNat = (decide (1 <= d.1.getD i.toNat 0 /\ d.1.getD i.toNat 0 <= 50000) && (decide (i.toNat = 0) || decide (d.1.getD i.toNat 0 < d.1.getD (i.toNat - 1) 0))) := rfl
 rw [e1]
 generalize d.1.getD i.toNat 0 = x at *
 generalize d.1.getD (i.toNat - 1) 0 = y at *
 have bad : coinB d.1 i.toNat = false -> Q .ret (stS 0 shR2 (80, ())) := fun h => hF (by rw [h, Bool.false_and])
 have go : coinB d.1 i.toNat = true -> inR .i64 (i + 1) = true /\ mL d.1 (i + 1) < mL d.1 i /\ (0 <= i + 1 /\ i + 1 <= (d.1.length : Int) /\ d.1.length <= 8) /\ (coinsOk d.1 (i + 1).toNat = true -> Q (.exit 0) (stS 0 .nil ())) /\ (coinsOk d.1 (i + 1).toNat = false -> Q .ret (stS 0 shR2 (80, ()))) := fun h => by
  rw [h, Bool.true_and] at hT hF
  rw [e2]
  exact ⟨inR_i64.2 (by omega), mL_lt hi, ⟨by omega, by omega, hl⟩, hT, hF⟩
 exact ⟨fun hx => ⟨fun hy => bad (by rw [cb, decide_eq_false (by omega)]; rfl), fun hy => ⟨fun hz => ⟨inR_i64.2 (by omega), ⟨by omega, by omega⟩, fun hc => bad (by rw [cb, decide_eq_true ⟨hx, hy⟩, decide_eq_false (show ¬ i.toNat = 0 by omega), decide_eq_false (show ¬ x < y by omega)]; rfl), fun hc => go (by rw [cb, decide_eq_true ⟨hx, hy⟩, decide_eq_false (show ¬ i.toNat = 0 by omega), decide_eq_true (show x < y by omega)]; rfl)⟩, fun hz => go (by rw [cb, decide_eq_true ⟨hx, hy⟩, decide_eq_true (show i.toNat = 0 by omega)]; rfl)⟩⟩, fun hx => bad (by rw [cb, decide_eq_false (by omega)]; rfl)⟩
theorem ok15L : Lp2Ok Try.prog 15 0 lc15 := lp2_of (n := 5) (ex := ex15) (m := fun (_, l, _, i, _) => mL l i) (good2_nil _) fun (d, l, m, i, ()) Q hx => by
 obtain ⟨⟨g1, g2, g3, g4, g5⟩, hT, hF⟩ := hx
 have g4 : l = d.1 := g4
 subst g4
 have g3 : m = (d.1.length : Int) := g3
 subst g3
 exact h15L d i Q g1 g2 g5 hT hF
theorem ok15 : FnOk Try.prog 15 fcCheck := fn1_of (n := 5) (((good2_nil _).addL2 ok15L).addF ok47) fun (d, ()) K hx => by
 obtain ⟨-, hK⟩ := hx
 show xfn1 Try.prog { f := [(47, fc47)], l2 := [(15, 0, lc15)] } 5 15 fcCheck (d, ()) K
 have hK : K (checkE d, ()) := hK
 rw [v15F]
 simp only [fork_iff, req_iff, decide_eq_true_eq, decide_eq_false_iff_not, Bool.not_eq_true', Bool.not_eq_false', ge_iff_le, true_and]
 have bad : ¬ (decide (1 <= d.1.length /\ d.1.length <= 8) = true /\ haveOk d d.2 = true /\ coinsOk d.1 0 = true) -> K (80, ()) := fun h => by
  have : checkE d = 80 := by unfold checkE; rw [if_neg h]
  rw [<- this]; exact hK
 refine ⟨fun h1 => ⟨fun h2 => bad fun e => by have := of_decide_eq_true e.1; omega, fun h2 => ⟨by omega, fun h3 => bad fun e => (by rw [e.2.1] at h3; cases h3), fun h3 => ⟨⟨Int.le_refl (0 : Int), Int.natCast_nonneg _, by omega⟩, fun h4 => ?_, fun h4 => bad fun e => (by rw [e.2.2] at h4; cases h4)⟩⟩⟩, fun h1 => bad fun e => by have := of_decide_eq_true e.1; omega⟩
 have : checkE d = 0 := by unfold checkE; rw [if_pos ⟨decide_eq_true (by omega), h3, h4⟩]
 rw [<- this]; exact hK
theorem ok15' : FnOk Try.prog 15 fcCheck' := fun x K hx => ok15 x K ⟨hx.1, hx.2 _ rfl⟩
theorem coinsOk_at {l : List Int} (h : coinsOk l 0 = true) {i : Nat} (hi : i < l.length) : coinB l i = true := by
 unfold coinsOk at h
 exact List.all_eq_true.1 h i (by rw [List.mem_range']; exact ⟨i, by omega, by omega⟩)
theorem coins_dec {l : List Int} (h : coinsOk l 0 = true) : ∀ (n i : Nat), i + (n + 1) < l.length -> l.getD (i + (n + 1)) 0 < l.getD i 0
 | 0, i, hi => by
  have := coinsOk_at h hi
  unfold coinB at this
  simp only [Bool.and_eq_true, Bool.or_eq_true, decide_eq_true_eq] at this
  rcases this.2 with e | e
  ·omega
  ·simpa using e
 | n + 1, i, hi => by
  have h1 := coins_dec h n i (by omega)
  have := coinsOk_at h hi
  unfold coinB at this
  simp only [Bool.and_eq_true, Bool.or_eq_true, decide_eq_true_eq] at this
  rcases this.2 with e | e
  ·omega
  ·rw [show i + (n + 1 + 1) - 1 = i + (n + 1) by omega] at e; omega
theorem getD_in {l : List Int} {i : Nat} (h : i < l.length) : l.getD i 0 ∈ l := by
 rw [List.getD_eq_getElem?_getD, List.getElem?_eq_getElem h]; exact List.getElem_mem _
theorem check0 {d : Dr} (h : checkE d = 0) : okC d.1 d.2 /\ 1 <= d.1.length /\ ∀ x ∈ d.2, 0 <= x /\ x <= 50 := by
 unfold checkE at h
 split at h
 rotate_left
 ·cases h
 rename_i hc
 obtain ⟨h1, h2, h3⟩ := hc
 have h1 := of_decide_eq_true h1
 unfold haveOk at h2
 simp only [Bool.and_eq_true, decide_eq_true_eq, List.all_eq_true, haveB_iff] at h2
 refine ⟨⟨⟨h2.1, h1.2⟩, fun c hc => ?_, fun x hx => by have := h2.2 x hx; omega, fun i j hij hj => ?_⟩, h1.1, h2.2⟩
 ·obtain ⟨i, hi, rfl⟩ := List.mem_iff_getElem.1 hc
  have := coinsOk_at h3 hi
  unfold coinB at this
  simp only [Bool.and_eq_true, decide_eq_true_eq] at this
  rw [List.getD_eq_getElem?_getD, List.getElem?_eq_getElem hi] at this
  exact this.1
 ·obtain ⟨n, rfl⟩ : ∃ n, j = i + (n + 1) := ⟨j - i - 1, by omega⟩
  exact coins_dec h3 n i hj
theorem ok12 : FnOk Try.prog 12 fcPayE := fn1_of (n := 5) (((good2_nil _).addF ok45).addF ok15') fun (d, sum, ()) K hx => by
 obtain ⟨g1, hK⟩ := hx
 have key : ∀ sum : Int, (∀ r e, (r, e) = payE d sum -> K (r, e, ())) -> xfn1 Try.prog { f := [(15, fcCheck'), (45, fcPayI)] } 5 12 fcPayE (d, sum, ()) K := fun sum hK => by
  rw [v12F]
  simp only [fork_iff, decide_eq_true_eq, decide_eq_false_iff_not, bne_iff_ne, bne_eq_false_iff_eq, ne_eq, Bool.not_eq_true', Bool.not_eq_false', ge_iff_le]
  refine ⟨g1, fun e he => ⟨fun h => hK _ _ (by unfold payE; rw [if_pos (by rw [<- he]; exact h), he]), fun h => ?_⟩⟩
  have hc : checkE d = 0 := by rw [<- he]; exact h
  have hn : ¬ checkE d ≠ 0 := fun e => e hc
  refine ⟨fun h1 => ⟨fun h2 => hK _ _ (by unfold payE; rw [if_neg hn, if_neg (by omega)]), fun h2 => ⟨⟨(check0 hc).1, h1, h2⟩, fun r e hr => hK r e (by unfold payE; rw [if_neg hn, if_pos ⟨h1, h2⟩]; exact hr)⟩⟩, fun h1 => hK _ _ (by unfold payE; rw [if_neg hn, if_neg (by omega)])⟩
 exact key sum hK
theorem valueN_nil (l : List Int) : valueN [] l = 0 := by unfold valueN; rfl
theorem valueN_nil' : ∀ (l : List Int), valueN l [] = 0
 | [] => rfl
 | _ :: _ => rfl
theorem valueN_bd : ∀ {cs l : List Int}, (∀ c ∈ cs, 1 <= c /\ c <= 50000) -> (∀ x ∈ l, 0 <= x /\ x <= 50) -> 0 <= valueN cs l /\ valueN cs l <= l.length * 2500000
 | [], l, _, _ => by rw [valueN_nil]; exact ⟨Int.le_refl _, by omega⟩
 | c :: cs, [], _, _ => by rw [valueN_nil']; simp
 | c :: cs, x :: l, hc, hx => by
  have h1 := hc c List.mem_cons_self
  have h2 := hx x List.mem_cons_self
  have ih := valueN_bd (cs := cs) (l := l) (fun y hy => hc y (List.mem_cons_of_mem _ hy)) fun y hy => hx y (List.mem_cons_of_mem _ hy)
  have hm0 : 0 <= x * c := Int.mul_nonneg h2.1 (by omega)
  have hm1 : x * c <= 50 * 50000 := Int.mul_le_mul h2.2 h1.2 (by omega) (by decide)
  simp only [valueN, List.length_cons]
  push_cast
  omega
theorem h48L (d : Dr) (n : Int) (l : List Int) (i : Int) (Q : AX -> St -> Prop) (h0 : 0 <= i) (h1 : i <= l.length) (hl : l.length = d.1.length) (h8 : l.length <= 8) (hx : ∀ x ∈ l, 0 <= x /\ x <= 50) (hc : ∀ c ∈ d.1, 1 <= c /\ c <= 50000) (n0 : 0 <= n) (n1 : n <= i * 2500000)
  (hQ : ∀ r, r = n + valueN (d.1.drop i.toNat) (l.drop i.toNat) -> Q (.exit 0) (stS 1 sh48e (((), (d, ())), r, ()))) :
  xloop2 Try.prog {} 5 48 0 lc48 (fun _ => some (sh48e, 1)) (fun (_, _, l, _, i, _) => mL l i) (((), (d, ())), n, l, (l.length : Int), i, ()) Q := by
 rw [v48L]
 simp only [fork_iff, req_iff, decide_eq_true_eq, decide_eq_false_iff_not, true_and]
 refine ⟨fun hi => ⟨⟨h0, hi⟩, ⟨h0, by omega⟩, ?_⟩, fun hi => hQ _ (by rw [drop_end hi, valueN_nil']; omega)⟩
 rw [drop_step 0 h0 hi, drop_step 0 (l := d.1) h0 (by omega)] at hQ
 simp only [valueN] at hQ
 have hxi := hx _ (getD_in (show i.toNat < l.length by omega))
 have hci := hc _ (getD_in (show i.toNat < d.1.length by omega))
 generalize l.getD i.toNat 0 = x at *
 generalize d.1.getD i.toNat 0 = c at *
 have hm0 : 0 <= x * c := Int.mul_nonneg hxi.1 (by omega)
 have hm1 : x * c <= 50 * 50000 := Int.mul_le_mul hxi.2 hci.2 (by omega) (by decide)
 exact ⟨inR_i64.2 (by omega), inR_i64.2 (by omega), inR_i64.2 (by omega), mL_lt hi, ⟨⟨show (0 : Int) <= i + 1 by omega, show i + 1 <= (l.length : Int) by omega, hl, h8, hx, hc, show (0 : Int) <= n + x * c by omega, show n + x * c <= (i + 1) * 2500000 by omega⟩, fun r hr => hQ r (hr.trans (Int.add_assoc _ _ _))⟩⟩
theorem ok48L : Lp2Ok Try.prog 48 0 lc48 := lp2_of (n := 5) (ex := fun _ => some (sh48e, 1)) (m := fun (_, _, l, _, i, _) => mL l i) (good2_nil _) fun (((), (d, ())), n, l, m, i, ()) Q hx => by
 obtain ⟨⟨g1, g2, g3, g4, g5, g6, g7, g8, g9⟩, hQ⟩ := hx
 have g3 : m = (l.length : Int) := g3
 subst g3
 exact h48L d n l i Q g1 g2 g4 g5 g6 g7 g8 g9 hQ
theorem ok48 : F2Ok Try.prog 48 fc48 := fn2_of (n := 5) ((good2_nil _).addL2 ok48L) fun (l, ((), (d, ())), ()) K hx => by
 obtain ⟨⟨g1, g2, g3, g4⟩, hK⟩ := hx
 show xfn2 Try.prog { l2 := [(48, 0, lc48)] } 5 48 fc48 (l, ((), (d, ())), ()) K
 rw [v48F]
 simp only [List.drop_zero, Int.zero_add, true_and]
 exact ⟨⟨Int.le_refl (0 : Int), Int.natCast_nonneg _, g1, g2, g3, g4, Int.le_refl (0 : Int), by decide⟩, fun r hr => hK r hr⟩
theorem ok50 : F2Ok Try.prog 50 fc50 := fn2_of (n := 5) (good2_nil _) fun (l, ()) K hx => by
 obtain ⟨g1, hK⟩ := hx
 have g1 : l.length <= 8 := g1
 show xfn2 Try.prog {} 5 50 fc50 (l, ()) K
 rw [v50F]
 simp only [fork_iff, req_iff, decide_eq_true_eq, Nat.zero_add, seg_self, Nat.le_refl, true_and, List.nil_append]
 refine fun b hb => ⟨fun h => ?_, fun h => ⟨fits100 (by omega), hK l rfl⟩⟩
 have : l = [] := List.length_eq_zero_iff.1 (hb h)
 subst this; exact hK [] rfl
theorem addL_step {b l : List Int} {i : Int} (h0 : 0 <= i) (h1 : i < l.length) (h2 : i < b.length) : addL (b.drop i.toNat) (l.drop i.toNat) = (b.getD i.toNat 0 + l.getD i.toNat 0) :: addL (b.drop (i + 1).toNat) (l.drop (i + 1).toNat) := by
 unfold addL
 rw [drop_step 0 h0 h1, drop_step 0 h0 h2]; rfl
theorem h17L (d : Dr) (p s : Int) (b l : List Int) (i : Int) (Q : AX -> St -> Prop) (h0 : 0 <= i) (h1 : i <= l.length) (hb : b.length = l.length) (hl : l.length <= 8) (hx : ∀ x ∈ l, 0 <= x /\ x <= 50) (hy : ∀ x ∈ b, 0 <= x /\ x <= 100) (hz : ∀ j : Nat, i <= j -> j < b.length -> b.getD j 0 <= 50)
  (hQ : ∀ r : List Int, r = b.take i.toNat ++ addL (b.drop i.toNat) (l.drop i.toNat) -> Q (.exit 1) (stS 2 sh17e (d, p, s, r, ()))) :
  xloop2 Try.prog { nm := true } 5 17 0 lc17 (fun _ => some (sh17e, 2)) (fun (_, _, _, _, l, _, i, _) => mL l i) (d, p, s, b, l, (l.length : Int), i, ()) Q := by
 rw [v17L]
 simp only [fork_iff, req_iff, decide_eq_true_eq, decide_eq_false_iff_not, Nat.zero_add, Nat.add_zero, seg_self, Nat.le_refl, true_and]
 refine ⟨fun hi => ⟨⟨h0, hi⟩, ⟨h0, by omega⟩, by omega, ?_⟩, fun hi => hQ _ (by rw [drop_end hi, List.take_of_length_le (by omega)]; unfold addL; simp)⟩
 have hlt : i.toNat < b.length := by omega
 have hxi := hx _ (getD_in (show i.toNat < l.length by omega))
 have hyi := hy _ (getD_in hlt)
 have hzi := hz i.toNat (by omega) hlt
 rw [addL_step h0 hi (by omega)] at hQ
 have htk : ∀ x, (b.set i.toNat x).take (i + 1).toNat = b.take i.toNat ++ [x] := fun x => by
  rw [show (i + 1).toNat = i.toNat + 1 by omega, List.take_add_one, List.getElem?_set_self hlt, List.take_set_of_le (Nat.le_refl _)]; rfl
 refine ⟨inR_i64.2 (by omega), ⟨h0, by omega⟩, hlt, fun ys hys => ?_⟩
 have hyl : ys.length = b.length := by rw [hys, List.length_set]
 rw [seg_exact hyl.symm]
 refine ⟨inR_i64.2 (by omega), by omega, mL_lt hi, ⟨⟨show (0 : Int) <= i + 1 by omega, show i + 1 <= (l.length : Int) by omega, show ys.length = l.length by omega, hl, hx, ?_, ?_⟩, fun r hr => hQ r ?_⟩⟩
 ·show ∀ x ∈ ys, 0 <= x /\ x <= 100
  rw [hys]
  intro x h
  rcases List.mem_or_eq_of_mem_set h with h | rfl
  ·exact hy x h
  ·exact (show (0 : Int) <= b.getD i.toNat 0 + l.getD i.toNat 0 /\ b.getD i.toNat 0 + l.getD i.toNat 0 <= 100 by omega)
 ·show ∀ j : Nat, i + 1 <= (j : Int) -> j < ys.length -> ys.getD j 0 <= 50
  intro j hj1 hj2
  rw [hys, List.getD_eq_getElem?_getD, List.getElem?_set_ne (by omega), <- List.getD_eq_getElem?_getD]
  exact hz j (by omega) (by omega)
 ·have hr : r = ys.take (i + 1).toNat ++ addL (ys.drop (i + 1).toNat) (l.drop (i + 1).toNat) := hr
  rw [hr, hys, htk, List.drop_set_of_lt (by omega), List.append_assoc]; rfl
theorem ok17L : Lp2Ok Try.prog 17 0 lc17 := lp2_of (n := 5) (ex := fun _ => some (sh17e, 2)) (m := fun (_, _, _, _, l, _, i, _) => mL l i) (good2_nilN _) fun (d, p, s, b, l, m, i, ()) Q hx => by
 obtain ⟨⟨g1, g2, g3, g4, g5, g6, g7, g8⟩, hQ⟩ := hx
 have g3 : m = (l.length : Int) := g3
 subst g3
 exact h17L d p s b l i Q g1 g2 g4 g5 g6 g7 g8 hQ
theorem okC_add {d : Dr} {g : List Int} (h : checkE d = 0) (hg : haveOk d g = true) : okC d.1 (addL d.2 g) := by
 obtain ⟨h1, h2, h3⟩ := check0 h
 unfold haveOk at hg
 simp only [Bool.and_eq_true, decide_eq_true_eq, List.all_eq_true, haveB_iff] at hg
 refine ⟨⟨by unfold addL; rw [List.length_zipWith, h1.len.1, hg.1]; omega, h1.len.2⟩, h1.coins, fun x hx => ?_, h1.dec⟩
 unfold addL at hx
 obtain ⟨i, hi, rfl⟩ := List.mem_iff_getElem.1 hx
 rw [List.getElem_zipWith]
 rw [List.length_zipWith] at hi
 have a := h3 _ (List.getElem_mem (show i < d.2.length by omega))
 have b := hg.2 _ (List.getElem_mem (show i < g.length by omega))
 omega
theorem ok17 : FnOk Try.prog 17 fcChange := fn1_of (n := 5) (((((((good2_nilN _).addL2 ok17L).addF2 ok50).addF2 ok48).addF ok45).addF ok47').addF ok15') fun (d, g, p, ()) K hx => by
 obtain ⟨⟨g1, g2, g3⟩, hK⟩ := hx
 have key : ∀ p : Int, (∀ r e, (r, e) = changeE d g p -> K (r, e, ())) -> xfn1 Try.prog { nm := true, f := [(15, fcCheck'), (47, fc47'), (45, fcPayI)], f2 := [(48, fc48), (50, fc50)], l2 := [(17, 0, lc17)] } 5 17 fcChange (d, g, p, ()) K := fun p hK => by
  rw [v17F]
  simp only [fork_iff, req_iff, decide_eq_true_eq, decide_eq_false_iff_not, bne_iff_ne, bne_eq_false_iff_eq, ne_eq, Bool.not_eq_true', Bool.not_eq_false', ge_iff_le, gt_iff_lt, Nat.zero_add, seg_self, Nat.le_refl, true_and, List.drop_zero, List.take_zero, List.nil_append]
  refine ⟨⟨g1, g2⟩, fun e he => ⟨fun h => hK _ _ (by unfold changeE; rw [if_pos (by rw [<- he]; exact h), he]), fun h => ?_⟩⟩
  have hc : checkE d = 0 := by rw [<- he]; exact h
  have hn : ¬ checkE d ≠ 0 := fun e => e hc
  obtain ⟨o1, o2, o3⟩ := check0 hc
  refine ⟨o1.len.2, fun b hb => ⟨fun hf => hK _ _ (by unfold changeE; rw [if_neg hn, if_pos (fun e => by rw [<- hb, hf] at e; cases e.1)]), fun hf => ⟨fun hp => hK _ _ (by unfold changeE; rw [if_neg hn, if_pos (fun e => by omega)]), fun hp => ?_⟩⟩⟩
  have hg : haveOk d g = true := hb.symm.trans hf
  have hpos : ¬ ¬ (haveOk d g = true /\ 0 <= p) := fun e => e ⟨hg, by omega⟩
  have hg2 := hg
  unfold haveOk at hg2
  simp only [Bool.and_eq_true, decide_eq_true_eq, List.all_eq_true, haveB_iff] at hg2
  have hl8 := o1.len
  refine ⟨⟨hg2.1, by omega, hg2.2, o1.coins⟩, fun r hr => ⟨fun hlt => hK _ _ (by unfold changeE; rw [if_neg hn, if_neg hpos, if_pos (by rw [<- hr]; exact hlt)]), fun hge => ?_⟩⟩
  have hvb : 0 <= r /\ r <= 20000000 := by
   have := valueN_bd (cs := d.1) (l := g) o1.coins hg2.2
   have hr : r = valueN d.1 g := hr
   omega
  refine ⟨inR_i64.2 (by omega), fun h2 => hK _ _ (by unfold changeE; rw [if_neg hn, if_neg hpos, if_neg (by rw [<- hr]; exact hge), if_pos (by rw [<- hr]; omega)]), fun h2 => ⟨by omega, fun b2 hb2 => ⟨⟨Int.le_refl (0 : Int), Int.natCast_nonneg _, by rw [hb2]; omega, by omega, hg2.2, fun x hx => ?_, fun j hj0 hj => ?_⟩, fun b3 hb3 => ⟨inR_i64.2 (by omega), ?_, fun r3 e3 hr3 => hK _ _ ?_⟩⟩⟩⟩
  ·rw [hb2] at hx; have := o3 x hx; exact ⟨this.1, Int.le_trans this.2 (by decide)⟩
  ·rw [hb2] at hj ⊢; exact (o3 _ (getD_in hj)).2
  ·rw [hb3, hb2]; exact ⟨okC_add hc hg, show (0 : Int) <= r - p by omega, show r - p <= (2000 : Int) by omega⟩
  ·unfold changeE; rw [if_neg hn, if_neg hpos, if_neg (by rw [<- hr]; exact hge), if_neg (by rw [<- hr]; omega)]
   rw [hr3, hb3, hb2, hr]
 exact key p hK
end Go.P8
