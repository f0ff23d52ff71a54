/- Scales: the fewest weighings: the code keeps its contracts. No conditions. -/
import Derived.Test.YtfenogdjhadcoaaScaS
set_option linter.all false
set_option maxRecDepth 100000
set_option maxHeartbeats 4000000
namespace Go.P8
open Go.Lom Go.Proofs Go
theorem ble_R {a b : Nat} (h : a <= b) : Nat.ble a b = true := by rw [Nat.ble_eq]; exact h
theorem mL_R {α : Type} {l : List α} {i : Int} (h : i < l.length) : mL l (i + 1) < mL l i := by unfold mL; omega
theorem sm_mul {r : R4} {s : Int} (h : smR 1 r) (h0 : -1 <= s) (h1 : s <= 1) : smR 1 (mulR r s) := by
 obtain ⟨a, b, c, d⟩ := r
 have hs : s = -1 \/ s = 0 \/ s = 1 := by omega
 unfold smR at h ⊢
 unfold mulR
 dsimp only at h ⊢
 rcases hs with rfl | rfl | rfl <;> omega
theorem sm_add {r s : R4} {n : Int} (h : smR n r) (k : smR 1 s) : smR (n + 1) (addR r s) := by
 unfold smR at h k ⊢
 unfold addR
 dsimp only
 omega
theorem ok100 : FnOk Try.prog 100 fc100 := fn1_of (n := 5) (good2_nilL _ 6 [0]) fun ((a, b, c, d), s, ()) K hx => by
 obtain ⟨⟨h, h0, h1⟩, hK⟩ := hx
 show xfn1 Try.prog { nm := true, ip := true, un := 6, ul := [0] } 5 100 fc100 ((a, b, c, d), s, ()) K
 rw [v100F]
 have hm : smR 1 (mulR (a, b, c, d) s) := sm_mul h h0 h1
 have hK : K (mulR (a, b, c, d) s, ()) := hK _ rfl
 unfold smR mulR at hm
 unfold mulR at hK
 dsimp only at hm hK
 simp only [req_iff]
 generalize (a : Int) * s = p at *
 generalize (b : Int) * s = q at *
 generalize (c : Int) * s = r at *
 generalize (d : Int) * s = t at *
 exact ⟨inR_i64.2 (by omega), inR_i64.2 (by omega), inR_i64.2 (by omega), inR_i64.2 (by omega), hK⟩
theorem ok99 : F2Ok Try.prog 99 fc99 := fn2_of (n := 5) (good2_nil _) fun (l, ()) K hx => by
 obtain ⟨g1, hK⟩ := hx
 show xfn2 Try.prog {} 5 99 fc99 (l, ()) K
 rw [v99F]
 simp only [fork_iff, req_iff, decide_eq_true_eq, Nat.zero_add, Nat.le_refl, List.nil_append, seg_all, true_and]
 refine fun b hb => ⟨fun h => hK _ (List.eq_nil_of_length_eq_zero (hb h)).symm, fun _ => ⟨?_, hK _ rfl⟩⟩
 simp only [fitsN, Bool.and_eq_true, Nat.ble_eq]; unfold maxLen
 have : l.length <= 1000 := g1
 omega
def chs1 (m : Nat) (s : R4) (l : List R4) (r : R4) (sd : Int) : Option (List R4) := (chs m (addR s (mulR r sd)) l).map (mulR r sd :: ·)
theorem drop_atR {l : List R4} {i : Int} (h0 : 0 <= i) (hi : i < l.length) : l.drop i.toNat = l.getD i.toNat (0, 0, 0, 0) :: l.drop (i + 1).toNat := by
 rw [List.getD_eq_getElem?_getD, List.getElem?_eq_getElem (show i.toNat < l.length by omega), show (i + 1).toNat = i.toNat + 1 by omega]
 exact List.drop_eq_getElem_cons (by omega)
theorem chs_few {m : Nat} {s : R4} {l : List R4} (h : l.length <= m) : chs (m + 1) s l = none := by
 cases l with
 | nil => rfl
 | cons r l =>
  unfold chs
  rw [if_pos (by rw [List.length_cons] at h; omega)]
theorem chs_step {m : Nat} {s r : R4} {l : List R4} (h : m <= l.length) : chs (m + 1) s (r :: l) = match chs1 m s l r 1 with | some x => some x | none => match chs1 m s l r (-1) with | some x => some x | none => chs (m + 1) s l := by
 rw [chs, if_neg (by omega)]
 rfl
theorem side98 (c : Nat) (zz z : List R4) (n m : Nat) (nn : Int) (l : List R4) (sa sb sc se : Int) (i : Int) (Q : AX -> St -> Prop) (REST : List R4 -> List R4 -> Prop) (r : R4) (sd : Int)
  (hz : okZ (zz, n) nn l (sa, sb, sc, se)) (hm : nn.toNat - n = m + 1) (hc : nn <= n + c) (i0 : 0 <= i) (hi : i < l.length) (ht : zz.take n = z.take n) (hr : smR 1 r) (h0 : -1 <= sd) (h1 : sd <= 1)
  (hN : chs1 m (sa, sb, sc, se) (l.drop (i + 1).toNat) r sd = none -> ∀ z' f' : List R4, z'.take n = z.take n -> n <= z'.length -> REST z' f')
  (hS : ∀ x, chs1 m (sa, sb, sc, se) (l.drop (i + 1).toNat) r sd = some x -> ∀ z' : List R4, z'.take n = z.take n -> n <= z'.length -> Q .ret (stS 5 sh98r ((z', n), nn, z.take n ++ x, l, ((), (), (), (), (), ()), true, ()))) :
  ∀ r' : R4, r' = mulR r sd -> inR .i64 (sa + r'.1) = true /\ inR .i64 (sb + r'.2.1) = true /\ inR .i64 (sc + r'.2.2.1) = true /\ inR .i64 (se + r'.2.2.2) = true /\ inR .i64 (i + 1) = true /\ n <= zz.length /\ fitsN (n + 1) 32 = true /\
   (∀ ys : List R4, ys = zz.take n ++ [r'] ++ zz.drop (n + 1) -> Nat.ble (n + 1) ys.length = true /\ (okZ (ys, n + 1) nn l (sa + r'.1, sb + r'.2.1, sc + r'.2.2.1, se + r'.2.2.2) /\ nn < ((n + 1 : Nat) : Int) + (c : Int) /\ 0 <= i + 1 /\ i + 1 <= (l.length : Int)) /\
    ∀ (z' f' : List R4) (b : Bool), z'.take (n + 1) = ys.take (n + 1) -> n + 1 <= z'.length -> b = (chs (nn.toNat - (n + 1)) (sa + r'.1, sb + r'.2.1, sc + r'.2.2.1, se + r'.2.2.2) (l.drop (i + 1).toNat)).isSome ->
     (∀ x, chs (nn.toNat - (n + 1)) (sa + r'.1, sb + r'.2.1, sc + r'.2.2.1, se + r'.2.2.2) (l.drop (i + 1).toNat) = some x -> f' = ys.take (n + 1) ++ x) ->
     (b = true -> Nat.ble n z'.length = true /\ Q .ret (stS 5 sh98r ((z', n), nn, f', l, ((), (), (), (), (), ()), true, ()))) /\ (b = false -> REST z' f')) /\
   ∀ ys : List R4, ys = seg 0 n zz ++ [r'] -> Nat.ble (n + 1) ys.length = true /\ (okZ (ys, n + 1) nn l (sa + r'.1, sb + r'.2.1, sc + r'.2.2.1, se + r'.2.2.2) /\ nn < ((n + 1 : Nat) : Int) + (c : Int) /\ 0 <= i + 1 /\ i + 1 <= (l.length : Int)) /\
    ∀ (z' f' : List R4) (b : Bool), z'.take (n + 1) = ys.take (n + 1) -> n + 1 <= z'.length -> b = (chs (nn.toNat - (n + 1)) (sa + r'.1, sb + r'.2.1, sc + r'.2.2.1, se + r'.2.2.2) (l.drop (i + 1).toNat)).isSome ->
     (∀ x, chs (nn.toNat - (n + 1)) (sa + r'.1, sb + r'.2.1, sc + r'.2.2.1, se + r'.2.2.2) (l.drop (i + 1).toNat) = some x -> f' = ys.take (n + 1) ++ x) ->
     (b = true -> Nat.ble n zz.length = true /\ Q .ret (stS 5 sh98r ((zz, n), nn, f', l, ((), (), (), (), (), ()), true, ()))) /\ (b = false -> REST zz f') := by
 intro r' hr'
 have hl : n <= zz.length /\ (n : Int) <= nn /\ nn <= 12 := hz.room
 have hs : smR ((n : Nat) : Int) (sa, sb, sc, se) := hz.sum
 have hr1 : smR 1 r' := by rw [hr']; exact sm_mul hr h0 h1
 have hs2 : smR (((n + 1 : Nat) : Int)) (sa + r'.1, sb + r'.2.1, sc + r'.2.2.1, se + r'.2.2.2) := by
  have := sm_add hs hr1
  rw [show ((n + 1 : Nat) : Int) = (n : Int) + 1 by omega]; exact this
 have hs3 := hs2
 unfold smR at hs3
 dsimp only at hs3
 have hm2 : nn.toNat - (n + 1) = m := by omega
 have hlen := hz.len
 have htl : (zz.take n).length = n := by rw [List.length_take]; omega
 have hfit : fitsN (n + 1) 32 = true := by simp only [fitsN, Bool.and_eq_true, Nat.ble_eq]; unfold maxLen; omega
 rw [hm2]
 have hch : chs1 m (sa, sb, sc, se) (l.drop (i + 1).toNat) r sd = (chs m (sa + r'.1, sb + r'.2.1, sc + r'.2.2.1, se + r'.2.2.2) (l.drop (i + 1).toNat)).map (r' :: ·) := by
  unfold chs1; rw [hr']; rfl
 rw [hch] at hN hS
 have pre : ∀ ys : List R4, n + 1 <= ys.length -> okZ (ys, n + 1) nn l (sa + r'.1, sb + r'.2.1, sc + r'.2.2.1, se + r'.2.2.2) /\ nn < ((n + 1 : Nat) : Int) + (c : Int) /\ 0 <= i + 1 /\ i + 1 <= (l.length : Int) := fun ys hy =>
  ⟨⟨⟨hy, by show ((n + 1 : Nat) : Int) <= nn; omega, hl.2.2⟩, hz.len, hz.sml, hs2⟩, by omega, by omega, by omega⟩
 have tail : ∀ (ys z1 f1 : List R4) (b : Bool), ys.take (n + 1) = z.take n ++ [r'] -> z1.take n = z.take n -> n <= z1.length -> b = (chs m (sa + r'.1, sb + r'.2.1, sc + r'.2.2.1, se + r'.2.2.2) (l.drop (i + 1).toNat)).isSome ->
   (∀ x, chs m (sa + r'.1, sb + r'.2.1, sc + r'.2.2.1, se + r'.2.2.2) (l.drop (i + 1).toNat) = some x -> f1 = ys.take (n + 1) ++ x) ->
   (b = true -> Nat.ble n z1.length = true /\ Q .ret (stS 5 sh98r ((z1, n), nn, f1, l, ((), (), (), (), (), ()), true, ()))) /\ (b = false -> REST z1 f1) := fun ys z1 f1 b e1 e2 e3 e4 e5 => by
  cases hc2 : chs m (sa + r'.1, sb + r'.2.1, sc + r'.2.2.1, se + r'.2.2.2) (l.drop (i + 1).toNat) with
  | none =>
   rw [hc2] at e4 hN
   exact ⟨fun h => (by rw [e4] at h; cases h), fun _ => hN rfl z1 f1 e2 e3⟩
  | some x =>
   rw [hc2] at e4 hS
   refine ⟨fun _ => ⟨ble_R e3, ?_⟩, fun h => (by rw [e4] at h; cases h)⟩
   have := hS _ rfl z1 e2 e3
   rw [e5 x hc2, e1, List.append_assoc]; exact this
 refine ⟨inR_i64.2 (by omega), inR_i64.2 (by omega), inR_i64.2 (by omega), inR_i64.2 (by omega), inR_i64.2 (by omega), hl.1, hfit, fun ys hy => ?_, fun ys hy => ?_⟩
 ·have hyl : n + 1 <= ys.length := by rw [hy, List.length_append, List.length_append, htl]; simp
  have hyt : ys.take (n + 1) = z.take n ++ [r'] := by
   rw [hy, List.take_append_of_le_length (by rw [List.length_append, htl]; exact Nat.le_refl _), List.take_of_length_le (by rw [List.length_append, htl]; exact Nat.le_refl _), ht]
  refine ⟨ble_R hyl, pre ys hyl, fun z' f' b q1 q2 q3 q4 => ?_⟩
  have q5 : z'.take n = z.take n := by
   rw [hyt] at q1
   have := congrArg (List.take n) q1
   have htz : (z.take n).length = n := by rw [<- ht]; exact htl
   rw [List.take_take, Nat.min_eq_left (by omega), List.take_append_of_le_length (by omega), List.take_take, Nat.min_self] at this
   exact this
  exact tail ys z' f' b hyt q5 (by omega) q3 q4
 ·have hsg : seg 0 n zz = zz.take n := rfl
  rw [hsg] at hy
  have hyl : ys.length = n + 1 := by rw [hy, List.length_append, htl]; rfl
  have hyt : ys.take (n + 1) = z.take n ++ [r'] := by rw [List.take_of_length_le (by omega), hy, ht]
  exact ⟨ble_R (by omega), pre ys (by omega), fun z' f' b _ _ q3 q4 => tail ys zz f' b hyt ht hl.1 q3 q4⟩
theorem h98T (c : Nat) (zz z : List R4) (n m : Nat) (nn : Int) (fo' l : List R4) (sa sb sc sd : Int) (i : Int) (Q : AX -> St -> Prop)
  (hz : okZ (zz, n) nn l (sa, sb, sc, sd)) (hm : nn.toNat - n = m + 1) (hc : nn <= n + c) (i0 : 0 <= i) (hi : i < l.length) (ht : zz.take n = z.take n)
  (hN : (chs1 m (sa, sb, sc, sd) (l.drop (i + 1).toNat) (l.getD i.toNat (0, 0, 0, 0)) (-1)) = none -> ∀ z' f' : List R4, z'.take n = z.take n -> n <= z'.length -> (lc98 c).spec ((z', n), nn, f', l, ((), (), (), (), (), ()), (sa, sb, sc, sd), i + 1, ()) Q)
  (hS : ∀ x, chs1 m (sa, sb, sc, sd) (l.drop (i + 1).toNat) (l.getD i.toNat (0, 0, 0, 0)) (-1) = some x -> ∀ z' : List R4, z'.take n = z.take n -> n <= z'.length -> Q .ret (stS 5 sh98r ((z', n), nn, z.take n ++ x, l, ((), (), (), (), (), ()), true, ()))) :
  v98T c zz n nn fo' l sa sb sc sd i Q := by
 unfold v98T
 have hlen := hz.len
 have hr : smR 1 (l.getD i.toNat (0, 0, 0, 0)) := hz.sml _ (by
  rw [List.getD_eq_getElem?_getD, List.getElem?_eq_getElem (show i.toNat < l.length by omega)]; exact List.getElem_mem _)
 simp only [fork_iff, req_iff, decide_eq_true_eq, true_and, and_true, Nat.zero_add]
 refine ⟨⟨i0, hi⟩, ⟨hr, by decide, by decide⟩, ?_⟩
 exact side98 c zz z n m nn l sa sb sc sd i Q (fun z1 f1 => inR .i64 (i + 1) = true /\ Nat.ble n z1.length = true /\ mL l (i + 1) < mL l i /\ (lc98 c).spec ((z1, n), nn, f1, l, ((), (), (), (), (), ()), (sa, sb, sc, sd), i + 1, ()) Q) _ (-1) hz hm hc i0 hi ht hr (by decide) (by decide)
  (fun h z' f' q1 q2 => ⟨inR_i64.2 (by omega), ble_R q2, mL_R hi, hN h z' f' q1 q2⟩) hS
theorem h98L (c : Nat) (z : List R4) (n : Nat) (nn : Int) (fo l : List R4) (sa sb sc sd : Int) (i : Int) (Q : AX -> St -> Prop) (hz : okZ (z, n) nn l (sa, sb, sc, sd)) (hlt : (n : Int) < nn) (hc : nn <= n + c) (i0 : 0 <= i) (i1 : i <= l.length)
  (hN : chs (nn.toNat - n) (sa, sb, sc, sd) (l.drop i.toNat) = none -> ∀ z' fo' : List R4, z'.take n = z.take n -> n <= z'.length -> Q (.exit 0) (stS 5 sh98e ((z', n), nn, fo', l, ((), (), (), (), (), ()), ())))
  (hS : ∀ x, chs (nn.toNat - n) (sa, sb, sc, sd) (l.drop i.toNat) = some x -> ∀ z' : List R4, z'.take n = z.take n -> n <= z'.length -> Q .ret (stS 5 sh98r ((z', n), nn, z.take n ++ x, l, ((), (), (), (), (), ()), true, ()))) :
  xloop2 Try.prog { nm := true, ip := true, un := 6, ul := [1], f := [(100, fc100)], f2 := [(98, fc98 c)] } 5 98 0 (lc98 c) ex98 (fun (_, _, _, l, _, _, i, _) => mL l i) ((z, n), nn, fo, l, ((), (), (), (), (), ()), (sa, sb, sc, sd), i, ()) Q := by
 rw [v98L]
 have hl : n <= z.length /\ (n : Int) <= nn /\ nn <= 12 := hz.room
 have hlen := hz.len
 obtain ⟨m, hm⟩ : ∃ m, nn.toNat - n = m + 1 := ⟨nn.toNat - n - 1, by omega⟩
 rw [hm] at hN hS
 simp only [fork_iff, req_iff, decide_eq_true_eq, decide_eq_false_iff_not, true_and, and_true, Nat.zero_add]
 refine ⟨inR_i64.2 (by omega), inR_i64.2 (by omega), fun hle => ?_, fun hle => ⟨ble_R hl.1, hN (chs_few (by rw [List.length_drop]; omega)) z fo rfl hl.1⟩⟩
 have hi : i < (l.length : Int) := by omega
 have hr : smR 1 (l.getD i.toNat (0, 0, 0, 0)) := hz.sml _ (by
  rw [List.getD_eq_getElem?_getD, List.getElem?_eq_getElem (show i.toNat < l.length by omega)]; exact List.getElem_mem _)
 rw [drop_atR i0 hi, chs_step (by rw [List.length_drop]; omega)] at hN hS
 refine ⟨⟨i0, hi⟩, ⟨hr, by decide, by decide⟩, ?_⟩
 have hz2 : ∀ z' : List R4, n <= z'.length -> okZ (z', n) nn l (sa, sb, sc, sd) := fun z' h => ⟨⟨h, hl.2⟩, hz.len, hz.sml, hz.sum⟩
 refine side98 c z z n m nn l sa sb sc sd i Q (fun z1 f1 => v98T c z1 n nn f1 l sa sb sc sd i Q) _ 1 hz hm hc i0 hi rfl hr (by decide) (by decide) (fun h1 z1 f1 q1 q2 => ?_) (fun x h => ?_)
 ·rw [h1] at hN hS
  refine h98T c z1 z n m nn f1 l sa sb sc sd i Q (hz2 z1 q2) hm hc i0 hi q1 (fun h2 z2 f2 w1 w2 => ?_) (fun x h2 => ?_)
  ·rw [h2] at hN hS
   refine ⟨⟨hz2 z2 w2, hlt, hc, by show (0 : Int) <= i + 1; omega, by show i + 1 <= (l.length : Int); omega⟩, fun h3 z3 f3 k1 k2 => ?_, fun x h3 z3 k1 k2 => ?_⟩
   ·have h3 : chs (nn.toNat - n) (sa, sb, sc, sd) (l.drop (i + 1).toNat) = none := h3
    rw [hm] at h3
    exact hN h3 z3 f3 (k1.trans w1) k2
   ·have h3 : chs (nn.toNat - n) (sa, sb, sc, sd) (l.drop (i + 1).toNat) = some x := h3
    rw [hm] at h3
    have := hS x h3 z3 (k1.trans w1) k2
    show Q .ret (stS 5 sh98r ((z3, n), nn, z2.take n ++ x, l, ((), (), (), (), (), ()), true, ()))
    rw [w1]; exact this
  ·rw [h2] at hS
   exact hS x rfl
 ·rw [h] at hS
  exact hS x rfl
theorem ok98L {c : Nat} (h : F2Ok Try.prog 98 (fc98 c)) : Lp2Ok Try.prog 98 0 (lc98 c) := lp2_of (n := 5) (ex := ex98) (m := fun (_, _, _, l, _, _, i, _) => mL l i) (((good2_nilL _ 6 [1]).addF2 h).addF ok100) fun ((z, n), nn, fo, l, ((), (), (), (), (), ()), (sa, sb, sc, sd), i, ()) Q hx => by
 obtain ⟨⟨g1, g2, g3, g4, g5⟩, hN, hS⟩ := hx
 exact h98L c z n nn fo l sa sb sc sd i Q g1 g2 g3 g4 g5 hN hS
theorem h98F (c : Nat) (i : Int) (z : List R4) (n : Nat) (sa sb sc sd nn : Int) (fo l : List R4) (K : post98.den -> Prop) (hz : okZ (z, n) nn l (sa, sb, sc, sd)) (hc : nn < n + (c + 1)) (i0 : 0 <= i) (i1 : i <= l.length)
  (hK : ∀ (z' fo' : List R4) (b : Bool), z'.take n = z.take n -> n <= z'.length -> b = (chs (nn.toNat - n) (sa, sb, sc, sd) (l.drop i.toNat)).isSome -> (∀ x, chs (nn.toNat - n) (sa, sb, sc, sd) (l.drop i.toNat) = some x -> fo' = z.take n ++ x) -> K ((), (z', n), (), nn, fo', l, ((), (), (), (), (), ()), b, ())) :
  xfn2 Try.prog { nm := true, ip := true, f2 := [(99, fc99)], l2 := [(98, 0, lc98 c)] } 5 98 (fc98 (c + 1)) (i, (z, n), (sa, sb, sc, sd), nn, fo, l, ((), (), (), (), (), ()), ()) K := by
 rw [v98F]
 have hl : n <= z.length /\ (n : Int) <= nn /\ nn <= 12 := hz.room
 have hs : seg 0 n z = z.take n := rfl
 simp only [fork_iff, req_iff, decide_eq_true_eq, true_and, and_true, Bool.and_true, Nat.zero_add, Nat.le_refl, seg_all, beq_iff_eq, beq_eq_false_iff_ne, ne_eq]
 rw [hs]
 refine ⟨fun he => ⟨hl.1, by rw [List.length_take]; omega, fun r hr => ⟨ble_R hl.1, ?_⟩⟩, fun he => ⟨ble_R hl.1, ⟨hz, by show (n : Int) < nn; omega, by show nn <= (n : Int) + (c : Int); omega, i0, i1⟩, fun h z' fo' q1 q2 => ⟨ble_R q2, hK z' fo' false q1 q2 (by rw [h]; rfl) (fun x hx => by rw [h] at hx; cases hx)⟩, fun x h z' q1 q2 => ⟨ble_R q2, hK z' _ true q1 q2 (by rw [h]; rfl) (fun x' hx => by rw [h] at hx; injection hx with hx; rw [hx])⟩⟩⟩
 have hn : nn.toNat - n = 0 := by omega
 have e : chs (nn.toNat - n) (sa, sb, sc, sd) (l.drop i.toNat) = if eqR (sa, sb, sc, sd) zR then some [] else none := by rw [hn, chs]
 refine hK z r _ rfl hl.1 ?_ (fun x hx => ?_)
 ·rw [e]
  show (sa == 0 && (sb == 0 && (sc == 0 && sd == 0))) = (if (sa == 0 && (sb == 0 && (sc == 0 && sd == 0))) = true then some ([] : List R4) else none).isSome
  cases (sa == 0 && (sb == 0 && (sc == 0 && sd == 0))) <;> rfl
 ·rw [e] at hx
  split at hx
  ·injection hx with hx; rw [<- hx, List.append_nil]; exact hr
  ·cases hx
theorem none98 {a b : Int} (h : a <= b) (k : b < a + ((0 : Nat) : Int)) : False := by omega
theorem next98 {a b : Int} {c : Nat} (k : b < a + ((c + 1 : Nat) : Int)) : b < a + (c + 1) := by omega
theorem lt13 {n : Int} (h : n <= 12) : n < ((0 : Nat) : Int) + ((13 : Nat) : Int) := by omega
theorem ok98 : ∀ c : Nat, F2Ok Try.prog 98 (fc98 c)
 | 0 => fun (i, (z, n), s, nn, fo, l, u, ()) K hx => by
  obtain ⟨⟨g1, g2, -⟩, -⟩ := hx
  exact (none98 g1.room.2.1 g2).elim
 | c + 1 => fn2_of (n := 5) (((good2_nilI _).addL2 (ok98L (ok98 c))).addF2 ok99) fun (i, (z, n), (sa, sb, sc, sd), nn, fo, l, ((), (), (), (), (), ()), ()) K hx => by
  obtain ⟨⟨g1, g2, g3, g4⟩, hK⟩ := hx
  exact h98F c i z n sa sb sc sd nn fo l K g1 (next98 g2) g3 g4 hK
theorem ok72 : FnOk Try.prog 72 fc72 := fn1_of (n := 5) ((good2_nilI _).addF2 (ok98 13)) fun (l, n, ()) K hx => by
 obtain ⟨⟨g1, g2, g3, g4⟩, hK⟩ := hx
 have g3 : (0 : Int) <= n := g3
 have g4 : n <= (12 : Int) := g4
 show xfn1 Try.prog { nm := true, ip := true, f2 := [(98, fc98 13)] } 5 72 fc72 (l, n, ()) K
 rw [v72F]
 simp only [fork_iff, Bool.not_eq_true', Bool.not_eq_false', List.drop_zero, List.take_zero, List.nil_append]
 have hz0 : smR ((0 : Nat) : Int) (0, 0, 0, 0) := by unfold smR; decide
 refine ⟨⟨⟨⟨Nat.le_refl 0, g3, g4⟩, g1, g2, hz0⟩, lt13 g4, Int.le_refl (0 : Int), Int.natCast_nonneg _⟩, fun z' fo' b _ _ h1 h2 => ⟨fun hb => hK _ ?_, fun hb => hK _ ?_⟩⟩
 ·rw [hb] at h1
  show [] = (chs n.toNat zR l).getD []
  cases hc : chs n.toNat zR l with
  | none => rfl
  | some x => rw [show chs n.toNat (0, 0, 0, 0) l = chs n.toNat zR l from rfl, hc] at h1; cases h1
 ·rw [hb] at h1
  show fo' = (chs n.toNat zR l).getD []
  cases hc : chs n.toNat zR l with
  | none => rw [show chs n.toNat (0, 0, 0, 0) l = chs n.toNat zR l from rfl, hc] at h1; cases h1
  | some x => exact h2 x hc
end Go.P8
