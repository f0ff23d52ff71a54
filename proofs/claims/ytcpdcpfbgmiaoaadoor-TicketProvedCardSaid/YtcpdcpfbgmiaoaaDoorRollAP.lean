/- Rolls: words, first places: the code keeps its contracts. No conditions. -/
import Derived.Test.YtcpdcpfbgmiaoaaDoorRollA
import Derived.Test.YtcpdcpfbgmiaoaaDoorTickP
set_option linter.all false
set_option maxRecDepth 100000
namespace Go.P3
open Go.Lom Go.Proofs Go
theorem letterB_iff {c : UInt8} : letterB c = true ↔ 97 <= (c.toNat : Int) /\ (c.toNat : Int) <= 122 := by simp only [letterB, decide_eq_true_eq]
theorem charB_iff {c : UInt8} : charB c = true ↔ (97 <= (c.toNat : Int) /\ (c.toNat : Int) <= 122) \/ (48 <= (c.toNat : Int) /\ (c.toNat : Int) <= 57) \/ (c.toNat : Int) = 45 := by
 simp only [charB, letterB, Bool.or_eq_true, decide_eq_true_eq, or_assoc]
theorem charB_not {c : UInt8} (h : ¬ ((97 <= (c.toNat : Int) /\ (c.toNat : Int) <= 122) \/ (48 <= (c.toNat : Int) /\ (c.toNat : Int) <= 57) \/ (c.toNat : Int) = 45)) : charB c = false := by
 rw [Bool.eq_false_iff]; exact fun e => h (charB_iff.1 e)
theorem letterB_not {c : UInt8} (h : ¬ (97 <= (c.toNat : Int) /\ (c.toNat : Int) <= 122)) : letterB c = false := by
 rw [Bool.eq_false_iff]; exact fun e => h (letterB_iff.1 e)
theorem hbig : (big : Int) = 9223372036854775807 := rfl
theorem h133L (s : Tx) (m i : Int) (Q : LQ) : s133 s m i Q -> xloop2 Tryd.prog {} 5 133 0 lc133 exW (fun (s, _, i, _) => mL s i) (s, m, i, ()) Q := by
 intro ⟨⟨h0, h1, hm, h2⟩, hQ1, hQ2⟩
 rw [v133L]
 subst hm
 simp only [fork_iff, req_iff, decide_eq_true_eq, decide_eq_false_iff_not, bne_iff_ne, ne_eq, bne_eq_false_iff_eq]
 refine ⟨fun hi => ?_, fun hi => ?_⟩
 ·rw [drop_step (0 : UInt8) h0 hi] at hQ1 hQ2
  simp only [List.all_cons] at hQ1 hQ2
  generalize s.getD i.toNat (0 : UInt8) = c at *
  have bad : charB c = false -> Q .ret (stS 0 shW2 (false, ())) := fun h => by rw [h] at hQ2; exact hQ2 rfl
  have go : charB c = true -> inR .i64 (i + 1) = true /\ mL s (i + 1) < mL s i /\ LC2.spec lc133 (s, (s.length : Int), i + 1, ()) Q := fun h => by
   rw [h] at hQ1 hQ2
   exact ⟨inR_i64.2 (by omega), mL_lt hi, show s133 s s.length (i + 1) Q from ⟨⟨by omega, by omega, rfl, h2⟩, hQ1, hQ2⟩⟩
  refine ⟨⟨h0, hi⟩, ?_⟩
  repeat' (first | exact bad (charB_not (by omega)) | exact go (charB_iff.2 (by omega)) | intro _ | refine And.intro ?_ ?_)
 ·rw [drop_end hi] at hQ1
  exact hQ1 rfl
theorem ok133L : Lp2Ok Tryd.prog 133 0 lc133 := lp2_of (n := 5) (ex := exW) (m := fun (s, _, i, _) => mL s i) (good2_nil _) fun (s, m, i, ()) Q hx => h133L s m i Q hx
theorem h133F (s : Tx) (K : dens [.b] -> Prop) (h1 : s.length <= big) (hK : K (wordB s, ())) : xfn1 Tryd.prog { l2 := [(133, 0, lc133)] } 5 133 fcWord (s, ()) K := by
 rw [v133F]
 simp only [fork_iff, req_iff, decide_eq_true_eq, decide_eq_false_iff_not, beq_iff_eq, beq_eq_false_iff_ne, ne_eq, List.drop_zero]
 simp only [wordB] at hK
 have no : decide (1 <= s.length /\ s.length <= 16) = false \/ letterB (s.getD 0 0) = false -> K (false, ()) := fun h => by
  rcases h with h | h <;> rw [h] at hK <;> simpa using hK
 refine ⟨fun h => no (.inl (decide_eq_false (by omega))), fun h2 => ⟨fun h => no (.inl (decide_eq_false (by omega))), fun h3 => ⟨by omega, fun h => no (.inr (letterB_not (by omega))), fun h4 => ⟨by omega, fun h => no (.inr (letterB_not (by omega))), fun h5 => ⟨⟨by omega, by omega, trivial, by omega⟩, fun h => ?_, fun h => ?_⟩⟩⟩⟩⟩
 all_goals
  rw [decide_eq_true (show 1 <= s.length /\ s.length <= 16 by omega), letterB_iff.2 (by omega), h] at hK
  exact hK
theorem ok133 : FnOk Tryd.prog 133 fcWord := fn1_of (n := 5) ((good2_nil _).addL2 ok133L) fun (s, ()) K hx => h133F s K hx.1 hx.2
theorem firstIx_ge {α : Type} (p : α -> Bool) : ∀ (l : List α) (i : Int), 0 <= i -> ((l.any p = false -> firstIx p l i = -1) /\ (l.any p = true -> 0 <= firstIx p l i))
 | [], i, _ => ⟨fun _ => rfl, fun h => by simp at h⟩
 | x :: l, i, h => by
  obtain ⟨h1, h2⟩ := firstIx_ge p l (i + 1) (by omega)
  simp only [firstIx, List.any_cons]
  by_cases hp : p x = true
  ·rw [if_pos hp, hp]; simp [h]
  ·rw [if_neg hp]; simp only [Bool.not_eq_true] at hp; rw [hp, Bool.false_or]; exact ⟨h1, h2⟩
theorem ix_step {α : Type} (d : α) (f : α -> Bool) {l : List α} {i : Int} {Q : LQ} {lc : Int -> Prop} (hx : sIx f l l.length i Q) (hi : i < l.length) (hlc : sIx f l l.length (i + 1) Q -> lc (i + 1)) :
  (f (l.getD i.toNat d) = true -> Q .ret (stS 0 shR4i (i, ()))) /\ (f (l.getD i.toNat d) = false -> inR .i64 (i + 1) = true /\ mL l (i + 1) < mL l i /\ lc (i + 1)) := by
 obtain ⟨⟨h0, h1, -, h2⟩, hQ1, hQ2⟩ := hx
 have hbig := hbig
 rw [drop_step d h0 hi] at hQ1 hQ2
 simp only [List.any_cons, firstIx] at hQ1 hQ2
 generalize l.getD i.toNat d = c at *
 refine ⟨fun h => ?_, fun h => ?_⟩
 ·rw [h] at hQ2; exact hQ2 rfl
 ·rw [h] at hQ1 hQ2
  exact ⟨inR_i64.2 (by omega), mL_lt hi, hlc ⟨⟨by omega, by omega, rfl, h2⟩, hQ1, hQ2⟩⟩
theorem h141L (l : List Tk) (s : Tx) (m i : Int) (Q : LQ) : sIx (named s) l m i Q -> xloop2 Tryd.prog {} 5 141 0 lc141 ex141 (fun (l, _, _, i, _) => mL l i) (l, ((), s, ()), m, i, ()) Q := by
 intro hx
 obtain ⟨⟨h0, h1, hm, h2⟩, hQ1, hQ2⟩ := id hx
 rw [v141L]
 subst hm
 simp only [fork_iff, req_iff, decide_eq_true_eq, decide_eq_false_iff_not, beq_iff_eq, beq_eq_false_iff_ne, ne_eq]
 refine ⟨fun hi => ?_, fun hi => ?_⟩
 ·obtain ⟨a, b⟩ := ix_step T0 (named s) (lc := fun j => LC2.spec lc141 (l, ((), s, ()), (l.length : Int), j, ()) Q) hx hi fun h => h
  refine ⟨⟨h0, hi⟩, fun h => a (decide_eq_true h), fun h => b (decide_eq_false h)⟩
 ·rw [drop_end hi] at hQ1
  exact hQ1 rfl
theorem ok141L : Lp2Ok Tryd.prog 141 0 lc141 := lp2_of (n := 5) (ex := ex141) (m := fun (l, _, _, i, _) => mL l i) (good2_nil _) fun (l, ((), s, ()), m, i, ()) Q hx => h141L l s m i Q hx
theorem h138F (l : List Tk) (s : Tx) (K : dens [.b] -> Prop) (h1 : l.length <= big) (hK : K (l.any (named s), ())) : xfn1 Tryd.prog { l2 := [(141, 0, lc141)] } 5 138 fcHad (l, ((), s, ()), ()) K := by
 rw [v138F]
 obtain ⟨g1, g2⟩ := firstIx_ge (named s) l 0 (by omega)
 refine ⟨⟨by omega, by omega, rfl, h1⟩, fun h => ?_, fun h => ?_⟩
 ·rw [List.drop_zero] at h
  rw [h] at hK; exact hK
 ·rw [List.drop_zero] at h
  rw [h] at hK
  rw [List.drop_zero, decide_eq_true (g2 h)]; exact hK
theorem ok138 : FnOk Tryd.prog 138 fcHad := fn1_of (n := 5) ((good2_nil _).addL2 ok141L) fun (l, ((), s, ()), ()) K hx => h138F l s K hx.1 hx.2
theorem h140L (l : List Tx) (s : Tx) (m i : Int) (Q : LQ) : sIx (eqT s) l m i Q -> xloop2 Tryd.prog {} 5 140 0 lc140 ex141 (fun (l, _, _, i, _) => mL l i) (l, s, m, i, ()) Q := by
 intro hx
 obtain ⟨⟨h0, h1, hm, h2⟩, hQ1, hQ2⟩ := id hx
 rw [v140L]
 subst hm
 simp only [fork_iff, req_iff, decide_eq_true_eq, decide_eq_false_iff_not, beq_iff_eq, beq_eq_false_iff_ne, ne_eq]
 refine ⟨fun hi => ?_, fun hi => ?_⟩
 ·obtain ⟨a, b⟩ := ix_step ([] : Tx) (eqT s) (lc := fun j => LC2.spec lc140 (l, s, (l.length : Int), j, ()) Q) hx hi fun h => h
  refine ⟨⟨h0, hi⟩, fun h => a (decide_eq_true h), fun h => b (decide_eq_false h)⟩
 ·rw [drop_end hi] at hQ1
  exact hQ1 rfl
theorem ok140L : Lp2Ok Tryd.prog 140 0 lc140 := lp2_of (n := 5) (ex := ex141) (m := fun (l, _, _, i, _) => mL l i) (good2_nil _) fun (l, s, m, i, ()) Q hx => h140L l s m i Q hx
theorem h137F (l : List Tx) (s : Tx) (K : dens [.b] -> Prop) (h1 : l.length <= big) (hK : K (l.any (eqT s), ())) : xfn1 Tryd.prog { l2 := [(140, 0, lc140)] } 5 137 fcHas (l, s, ()) K := by
 rw [v137F]
 obtain ⟨g1, g2⟩ := firstIx_ge (eqT s) l 0 (by omega)
 refine ⟨⟨by omega, by omega, rfl, h1⟩, fun h => ?_, fun h => ?_⟩
 ·rw [List.drop_zero] at h
  rw [h] at hK; exact hK
 ·rw [List.drop_zero] at h
  rw [h] at hK
  rw [List.drop_zero, decide_eq_true (g2 h)]; exact hK
theorem ok137 : FnOk Tryd.prog 137 fcHas := fn1_of (n := 5) ((good2_nil _).addL2 ok140L) fun (l, s, ()) K hx => h137F l s K hx.1 hx.2
theorem fits100 {n b : Nat} (h : n <= 1000) (hb : b <= 200 := by omega) : fitsN n b = true := by
 have : n * b <= 1000 * 200 := Nat.mul_le_mul h hb
 simp only [fitsN, Bool.and_eq_true, Nat.ble_eq]
 exact ⟨by omega, by unfold maxLen; omega⟩
theorem ok64 : FnOk Tryd.prog 64 fcId := fn1_of (n := 5) (good2_nil _) fun (l, ()) K hx => by
 have hx1 : l.length <= 100 := hx.1
 show xfn1 Tryd.prog {} 5 64 fcId (l, ()) K
 rw [v64F]
 intro b hb
 rw [fork_iff, req_iff, req_iff]
 have e : seg 0 0 ([] : List Int) ++ l = l := rfl
 rw [e]
 simp only [Nat.zero_add, seg_self]
 refine ⟨fun h => hx.2 _ (List.eq_nil_of_length_eq_zero (hb h)).symm, fun h => ⟨?_, ?_, hx.2 _ rfl⟩⟩
 ·exact fits100 (by omega)
 ·exact decide_eq_true (Nat.le_refl _)
theorem hClone {α : Type} {l : List α} {K : List α -> List α -> Prop} {b : Nat} (hb : b <= 200) (h1 : l.length <= 1000) (hK : K l l) :
  ∀ (c : Bool), (c = true -> l.length = 0) -> fork c (req (decide (l.length = l.length)) (K l [])) (req (decide (0 + l.length <= l.length)) (req (fitsN (0 + (seg 0 l.length l).length) b) (req (decide (l.length = l.length))
   (req (decide (0 + (0 + (seg 0 l.length l).length) <= (seg 0 0 [] ++ seg 0 l.length l).length)) (K l (seg 0 (0 + (seg 0 l.length l).length) (seg 0 0 [] ++ seg 0 l.length l))))))) := by
 intro c hc
 have e : seg 0 0 ([] : List α) ++ l = l := rfl
 simp only [seg_self, e, Nat.zero_add, fork_iff, req_iff, decide_eq_true_eq]
 refine ⟨fun h => ⟨trivial, ?_⟩, fun _ => ⟨Nat.le_refl _, fits100 h1, trivial, Nat.le_refl _, hK⟩⟩
 have := List.eq_nil_of_length_eq_zero (hc h)
 rw [this] at hK ⊢; exact hK
theorem ok107 : F2Ok Tryd.prog 107 fcClT := fn2_of (n := 5) (good2_nil _) fun (l, ()) K hx => by
 show xfn2 Tryd.prog {} 5 107 fcClT (l, ()) K
 rw [v107F]
 exact hClone (K := fun a b => K (a, b, ())) (by omega) hx.1 hx.2
theorem ok78 : F2Ok Tryd.prog 78 fcClE := fn2_of (n := 5) (good2_nil _) fun (l, ()) K hx => by
 show xfn2 Tryd.prog {} 5 78 fcClE (l, ()) K
 rw [v78F]
 exact hClone (K := fun a b => K (a, b, ())) (by omega) hx.1 hx.2
end Go.P3
