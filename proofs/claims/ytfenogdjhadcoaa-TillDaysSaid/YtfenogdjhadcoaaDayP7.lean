/- Days: the reference: balances, what a posting may really have been: the code keeps its contracts. No conditions. -/
import Derived.Test.YtfenogdjhadcoaaDayP6
import Derived.Test.YtfenogdjhadcoaaDayS4
import Derived.Test.YtfenogdjhadcoaaPaysP
set_option linter.all false
set_option maxRecDepth 100000
set_option maxHeartbeats 4000000
namespace Go.P8
open Go.Lom Go.Proofs Go
theorem okFrom' : FnOk Try.prog 26 fcFrom' := fun x K hx => ok26 x K (hx _ rfl)
theorem h54A (o cn : List Int) (ps : List Po) (ok : Bool) (i : Int) (Q : AX -> St -> Prop) (i0 : 0 <= i) (i1 : i <= o.length) (ob : o.length <= big) (hl : ok = true -> cn.length = o.length)
  (hQ : ∀ b : Bool, b = (ok && ((o.drop i.toNat).all sumOk && (cn.drop i.toNat).all sumOk)) -> Q (.exit 0) (stS 1 sh54e ((o, ps, cn), b, ()))) :
  xloop2 Try.prog { f := [(26, fcFrom')] } 5 54 0 lc54a (fun _ => some (sh54e, 1)) (fun (d, _, i, _) => (d.1.length + 1 - i).toNat) ((o, ps, cn), ok, i, ()) Q := by
 replace ob : o.length <= 9223372036854775807 := ob
 rw [v54A]
 simp only [fork_iff, req_iff, decide_eq_true_eq, decide_eq_false_iff_not]
 refine ⟨fun hok => ⟨fun hi => ⟨⟨i0, hi⟩, fun b hb => ⟨fun b1 => ⟨⟨i0, by rw [hl hok]; exact hi⟩, fun q hq => ⟨inR_i64.2 (by omega), ?_, ⟨⟨?_, ?_, ?_, fun _ => hl hok⟩, fun r hr => ?_⟩⟩⟩, fun b1 => ⟨inR_i64.2 (by omega), ?_, ⟨⟨?_, ?_, ?_, fun h => by cases h⟩, fun r hr => ?_⟩⟩⟩⟩, fun hi => ?_⟩, fun hok => ?_⟩
 ·show ((o.length : Int) + 1 - (i + 1)).toNat < ((o.length : Int) + 1 - i).toNat
  omega
 ·show (0 : Int) <= i + 1; omega
 ·show i + 1 <= (o.length : Int); omega
 ·exact ob
 ·refine hQ r ?_
  rw [drop_at i0 hi, drop_at i0 (show i < (cn.length : Int) by rw [hl hok]; exact hi), List.all_cons, List.all_cons]
  have h1 : sumOk (o.getD i.toNat 0) = true := hb.symm.trans b1
  have h2 : sumOk (cn.getD i.toNat 0) = q := hq.symm
  have hr : r = (q && ((o.drop (i + 1).toNat).all sumOk && (cn.drop (i + 1).toNat).all sumOk)) := hr
  rw [h1, h2, hr, hok]
  cases q <;> simp
 ·show ((o.length : Int) + 1 - (i + 1)).toNat < ((o.length : Int) + 1 - i).toNat
  omega
 ·show (0 : Int) <= i + 1; omega
 ·show i + 1 <= (o.length : Int); omega
 ·exact ob
 ·refine hQ r ?_
  rw [drop_at i0 hi, List.all_cons]
  have h1 : sumOk (o.getD i.toNat 0) = false := hb.symm.trans b1
  have hr : r = (false && ((o.drop (i + 1).toNat).all sumOk && (cn.drop (i + 1).toNat).all sumOk)) := hr
  rw [h1, hr, hok]; simp
 ·refine hQ ok ?_
  rw [drop_no hi, drop_no (show ¬ i < (cn.length : Int) by rw [hl hok]; exact hi)]; simp
 ·refine hQ ok ?_
  rw [hok]; rfl
theorem ok54A : Lp2Ok Try.prog 54 0 lc54a := lp2_of (n := 5) (ex := fun _ => some (sh54e, 1)) (m := fun (d, _, i, _) => (d.1.length + 1 - i).toNat) ((good2_nil _).addF okFrom') fun ((o, ps, cn), ok, i, ()) Q hx => by
 obtain ⟨⟨g1, g2, g3, g4⟩, hQ⟩ := hx
 exact h54A o cn ps ok i Q g1 g2 g3 g4 hQ
theorem h54B (o cn : List Int) (ps : List Po) (ok : Bool) (i : Int) (Q : AX -> St -> Prop) (i0 : 0 <= i) (i1 : i <= ps.length) (ob : o.length <= big) (pb : ps.length <= big)
  (hQ : ∀ b : Bool, b = (ok && (ps.drop i.toNat).all (poOk o.length)) -> Q (.exit 2) (stS 0 sh54be (b, ()))) :
  xloop2 Try.prog { f := [(26, fcFrom')] } 5 54 1 lc54b (fun _ => some (sh54be, 0)) (fun (d, _, i, _) => mL d.2.1 i) ((o, ps, cn), ok, i, ()) Q := by
 replace ob : o.length <= 9223372036854775807 := ob
 replace pb : ps.length <= 9223372036854775807 := pb
 rw [v54B]
 simp only [fork_iff, req_iff, decide_eq_true_eq, decide_eq_false_iff_not, bne_iff_ne, ne_eq, bne_eq_false_iff_eq]
 refine ⟨fun hi => ⟨⟨i0, hi⟩, ?_⟩, fun hi => ?_⟩
 ·rw [po_drop i0 hi] at hQ
  have hk : poOk o.length (ps.getD i.toNat (0, 0, 0)) = decide ((0 <= (ps.getD i.toNat (0, 0, 0)).1 /\ (ps.getD i.toNat (0, 0, 0)).1 < o.length) /\ (0 <= (ps.getD i.toNat (0, 0, 0)).2.1 /\ (ps.getD i.toNat (0, 0, 0)).2.1 < o.length) /\ (ps.getD i.toNat (0, 0, 0)).1 ≠ (ps.getD i.toNat (0, 0, 0)).2.1 /\ 1 <= (ps.getD i.toNat (0, 0, 0)).2.2 /\ (ps.getD i.toNat (0, 0, 0)).2.2 <= 1073741824) := rfl
  rw [List.all_cons, hk] at hQ
  have fin : ∀ b : Bool, b = (ok && decide ((0 <= (ps.getD i.toNat (0, 0, 0)).1 /\ (ps.getD i.toNat (0, 0, 0)).1 < o.length) /\ (0 <= (ps.getD i.toNat (0, 0, 0)).2.1 /\ (ps.getD i.toNat (0, 0, 0)).2.1 < o.length) /\ (ps.getD i.toNat (0, 0, 0)).1 ≠ (ps.getD i.toNat (0, 0, 0)).2.1 /\ 1 <= (ps.getD i.toNat (0, 0, 0)).2.2 /\ (ps.getD i.toNat (0, 0, 0)).2.2 <= 1073741824)) ->
    inR .i64 (i + 1) = true /\ mL ps (i + 1) < mL ps i /\ lc54b.spec ((o, ps, cn), b, i + 1, ()) Q := fun b hb =>
   ⟨inR_i64.2 (by omega), mL_dec hi, ⟨⟨by show (0 : Int) <= i + 1; omega, by show i + 1 <= (ps.length : Int); omega, ob, pb⟩, fun r hr => hQ r (by
    have hr : r = (b && (ps.drop (i + 1).toNat).all (poOk o.length)) := hr
    rw [hr, hb, Bool.and_assoc])⟩⟩
  have bad : ∀ {P : Prop} [Decidable P], ¬ P -> (false = (ok && decide P)) := fun h => by rw [decide_eq_false h, Bool.and_false]
  refine ⟨fun hok => ⟨inR_i64.2 (by omega), fun b hb => ⟨fun b1 => ⟨inR_i64.2 (by omega), fun q hq => ⟨fun q1 => ⟨fun hn => fun r hr => ?_, fun hn => ?_⟩, fun q0 => ?_⟩⟩, fun b0 => ?_⟩⟩, fun hok => ?_⟩
  ·rw [b1] at hb
   rw [q1] at hq
   have hb := of_decide_eq_true hb.symm
   have hq := of_decide_eq_true hq.symm
   refine fin r ?_
   rw [hr, hok, Bool.true_and]
   by_cases c : 1 <= (ps.getD i.toNat (0, 0, 0)).2.2 /\ (ps.getD i.toNat (0, 0, 0)).2.2 <= 1073741824
   ·rw [decide_eq_true c, decide_eq_true (by omega)]
   ·rw [decide_eq_false c, decide_eq_false (fun e => c e.2.2.2)]
  ·exact fin false (bad (fun e => e.2.2.1 hn))
  ·rw [q0] at hq
   have hq := of_decide_eq_false hq.symm
   exact fin false (bad (fun e => hq (by omega)))
  ·rw [b0] at hb
   have hb := of_decide_eq_false hb.symm
   exact fin false (bad (fun e => hb (by omega)))
  ·exact fin false (by rw [hok]; rfl)
 ·refine hQ ok ?_
  rw [po_no hi]; simp
theorem ok54B : Lp2Ok Try.prog 54 1 lc54b := lp2_of (n := 5) (ex := fun _ => some (sh54be, 0)) (m := fun (d, _, i, _) => mL d.2.1 i) ((good2_nil _).addF okFrom') fun ((o, ps, cn), ok, i, ()) Q hx => by
 obtain ⟨⟨g1, g2, g3, g4⟩, hQ⟩ := hx
 exact h54B o cn ps ok i Q g1 g2 g3 g4 hQ
theorem ok54 : FnOk Try.prog 54 fc54 := fn1_of (n := 5) ((((good2_nil _).addL2 ok54B).addL2 ok54A).addF okFrom') fun ((o, ps, cn), ()) K hx => by
 obtain ⟨⟨h1, h2, h3⟩, hK⟩ := hx
 have h1 : o.length <= 9223372036854775807 := h1
 have h2 : ps.length <= 9223372036854775807 := h2
 show xfn1 Try.prog { f := [(26, fcFrom')], l2 := [(54, 0, lc54a), (54, 1, lc54b)] } 5 54 fc54 ((o, ps, cn), ()) K
 rw [v54F]
 have hd : dayOk (o, ps, cn) = (decide (2 <= o.length /\ o.length <= 8 /\ cn.length = o.length /\ ps.length <= 16) && o.all sumOk && cn.all sumOk && ps.all (poOk o.length)) := rfl
 have hK : ∀ e : Int, e = (if dayOk (o, ps, cn) = true then 0 else 84) -> K (e, ()) := hK
 have k0 : dayOk (o, ps, cn) = true -> K (0, ()) := fun h => hK 0 (by rw [if_pos h])
 have k1 : dayOk (o, ps, cn) = false -> K (84, ()) := fun h => hK 84 (by rw [h]; rfl)
 have bad : ∀ b : Bool, b = (false && (o.all sumOk && cn.all sumOk)) -> ¬ (2 <= o.length /\ o.length <= 8 /\ cn.length = o.length /\ ps.length <= 16) -> ∀ q : Bool, q = (b && ps.all (poOk o.length)) -> (q = false -> K (84, ())) /\ (q = true -> K (0, ())) := fun b hb hn q hq => by
  rw [hb, Bool.false_and, Bool.false_and] at hq
  subst hq
  exact ⟨fun _ => k1 (by rw [hd, decide_eq_false hn]; rfl), fun c => by cases c⟩
 simp only [fork_iff, decide_eq_true_eq, decide_eq_false_iff_not, List.drop_zero, beq_iff_eq, beq_eq_false_iff_ne, ne_eq, Bool.not_eq_true', Bool.not_eq_false']
 refine fun b hb => ⟨fun b1 => ⟨fun hl => ⟨⟨Int.le_refl (0 : Int), Int.natCast_nonneg _, h1, fun _ => by omega⟩, fun q hq => ⟨⟨Int.le_refl (0 : Int), Int.natCast_nonneg _, h1, h2⟩, fun t ht => ?_⟩⟩, fun hl => ⟨⟨Int.le_refl (0 : Int), Int.natCast_nonneg _, h1, fun h => by cases h⟩, fun q hq => ⟨⟨Int.le_refl (0 : Int), Int.natCast_nonneg _, h1, h2⟩, fun t ht => bad q hq (fun c => hl (by omega)) t ht⟩⟩⟩,
  fun b0 => ⟨⟨Int.le_refl (0 : Int), Int.natCast_nonneg _, h1, fun h => by cases h⟩, fun q hq => ⟨⟨Int.le_refl (0 : Int), Int.natCast_nonneg _, h1, h2⟩, fun t ht => bad q hq (fun c => ?_) t ht⟩⟩⟩
 ·rw [b1] at hb
  have hb := of_decide_eq_true hb.symm
  have e : dayOk (o, ps, cn) = t := by
   rw [hd, ht, hq]
   have : decide (2 <= o.length /\ o.length <= 8 /\ cn.length = o.length /\ ps.length <= 16) = decide ((ps.length : Int) <= 16) := by
    by_cases c : (ps.length : Int) <= 16
    ·rw [decide_eq_true c, decide_eq_true (by omega)]
    ·rw [decide_eq_false c, decide_eq_false (by omega)]
   rw [this]
   simp only [Bool.and_assoc]
  exact ⟨fun h => k1 (e.trans h), fun h => k0 (e.trans h)⟩
 ·rw [b0] at hb
  have hb := of_decide_eq_false hb.symm
  exact hb (by omega)
end Go.P8
