/- Days: digits: the code keeps its contracts. No conditions. -/
import Derived.Test.YtfenogdjhadcoaaDayS1
set_option linter.all false
set_option maxRecDepth 100000
set_option maxHeartbeats 4000000
namespace Go.P8
open Go.Lom Go.Proofs Go
def setH (o : Nat) (v : Int) : (n j : Nat) -> (arT n).den -> (arT n).den
 | 0, j, a => pickN o j v a
 | n + 1, j, a => (pickN o j v a.1, setH o v n (j + 1) a.2)
theorem arL_over {o : Nat} {v : Int} : ∀ (n j : Nat) (h : (arT n).den), o < j -> arL n (setH o v n j h) = arL n h
 | 0, j, a, h => by show [pickN o j v a] = [a]; rw [pickN_ne (by omega)]
 | n + 1, j, a, h => by
  show pickN o j v a.1 :: arL n (setH o v n (j + 1) a.2) = a.1 :: arL n a.2
  rw [pickN_ne (by omega), arL_over n (j + 1) a.2 (by omega)]
theorem arL_set {o : Nat} {v : Int} : ∀ (n j : Nat) (h : (arT n).den), j <= o -> arL n (setH o v n j h) = (arL n h).set (o - j) v
 | 0, j, a, h => by
  show [pickN o j v a] = [a].set (o - j) v
  by_cases e : j = o
  ·subst e; rw [Nat.sub_self, pickN_eq]; rfl
  ·rw [pickN_ne (by omega), show o - j = (o - j - 1) + 1 by omega]; rfl
 | n + 1, j, a, h => by
  show pickN o j v a.1 :: arL n (setH o v n (j + 1) a.2) = (a.1 :: arL n a.2).set (o - j) v
  by_cases e : j = o
  ·subst e; rw [Nat.sub_self, pickN_eq, arL_over n (j + 1) a.2 (by omega)]; rfl
  ·rw [pickN_ne (by omega), arL_set n (j + 1) a.2 (by omega), show o - j = (o - (j + 1)) + 1 by omega]; rfl
theorem arD_len : ∀ (n : Nat) (h : (arT n).den), (arL n h).length = n + 1
 | 0, _ => rfl
 | n + 1, h => by show (arL n h.2).length + 1 = _; rw [arD_len n]
theorem encD_arL : ∀ (n : Nat) (h : (arT n).den), (arT n).enc h = (arL n h).map (AV.int .i64)
 | 0, _ => rfl
 | n + 1, h => by
  show I.enc h.1 ++ (arT n).enc h.2 = _
  rw [encD_arL n]; rfl
theorem encD (h : Dh) (m : Int) : Ty.enc TDg (h, m) = (arL 11 h ++ [m]).map (AV.int .i64) := by
 show (arT 11).enc h ++ I.enc m = _
 rw [encD_arL, List.map_append]; rfl
theorem selOkD (h : Dh) (m : Int) {o : Nat} (ho : o < 12) : selOk .i64 (Ty.enc TDg (h, m)) o = true := by
 unfold selOk
 rw [encD, List.getElem?_map, List.getElem?_eq_getElem (by rw [List.length_append, arD_len]; simp; omega)]
 rfl
theorem selD (h : Dh) (m : Int) {o : Nat} (ho : o < 12) : selI (Ty.enc TDg (h, m)) o = (arL 11 h).getD o 0 := by
 have h1 := sel_get (selOkD h m ho)
 have hl := arD_len 11 h
 rw [encD, List.getElem?_map, List.getElem?_append_left (by omega)] at h1
 rw [List.getD_eq_getElem?_getD]
 cases hc : (arL 11 h)[o]? with
 | none => rw [hc] at h1; cases h1
 | some x =>
  rw [hc] at h1
  simp only [Option.map_some, Option.some.injEq, AV.int.injEq, true_and] at h1
  rw [<- encD] at h1
  exact h1.symm
theorem digN_fuel : ∀ (k n : Nat), n < 10 ^ k -> digN (k + 1) n = digN k n
 | 0, n, h => by
  have : n = 0 := by simpa using h
  subst this; rfl
 | k + 1, n, h => by
  unfold digN
  split
  ·rw [digN_fuel k (n / 10) (by rw [Nat.pow_succ] at h; omega)]
  ·rfl
theorem digI_step {n : Int} (h0 : 0 < n) (h1 : n <= 1073741824) : digI n = n.tmod 10 :: digI (n.tdiv 10) := by
 have e1 : n.tdiv 10 = n / 10 := Int.tdiv_eq_ediv_of_nonneg (by omega)
 have e2 : n.tmod 10 = n % 10 := Int.tmod_eq_emod_of_nonneg (by omega)
 unfold digI
 have e3 : (n / 10).toNat = n.toNat / 10 := by omega
 rw [e1, e2, e3, show digN 12 n.toNat = n.toNat % 10 :: digN 11 (n.toNat / 10) by show (if 0 < n.toNat then n.toNat % 10 :: digN 11 (n.toNat / 10) else []) = _; rw [if_pos (by omega)], List.map_cons, <- digN_fuel 11 (n.toNat / 10) (by omega)]
 congr 1
 show ((n.toNat % 10 : Nat) : Int) = _
 omega
theorem digI_zero {n : Int} (h : n <= 0) : digI n = [] := by
 unfold digI
 rw [show n.toNat = 0 by omega]; rfl
theorem digI_len {n : Int} (h1 : n <= 1073741824) : (digI n).length <= 10 := by
 unfold digI
 rw [List.length_map]
 have := digN_len 12 n.toNat 10 (by omega)
 omega
theorem digI_mem {n d : Int} (h0 : 0 <= n) (h1 : n <= 1073741824) (h : d ∈ digI n) : 0 <= d /\ d <= 9 := by
 unfold digI at h
 obtain ⟨x, hx, rfl⟩ := List.mem_map.1 h
 obtain ⟨i, hi, rfl⟩ := List.mem_iff_getElem.1 hx
 have := digN_get 12 n.toNat i (by omega) hi
 rw [List.getElem?_eq_getElem hi] at this
 injection this with this
 rw [this]
 exact ⟨Int.natCast_nonneg _, by show ((_ % 10 : Nat) : Int) <= 9; omega⟩
theorem valI_map : ∀ (l : List Nat), valI (l.map Int.ofNat) = (valN l : Int)
 | [] => rfl
 | d :: l => by
  show (d : Int) + 10 * valI (l.map Int.ofNat) = ((d + 10 * valN l : Nat) : Int)
  rw [valI_map l]; omega
theorem valI_bd : ∀ (l : List Int), (∀ d ∈ l, 0 <= d /\ d <= 9) -> 0 <= valI l /\ valI l < 10 ^ l.length
 | [], _ => ⟨Int.le_refl _, by show (0 : Int) < 1; decide⟩
 | d :: l, h => by
  have h1 := valI_bd l fun x hx => h x (List.mem_cons_of_mem _ hx)
  have h2 := h d (List.mem_cons_self ..)
  show 0 <= d + 10 * valI l /\ d + 10 * valI l < 10 ^ (l.length + 1)
  rw [Int.pow_succ]
  omega
theorem pad_take {l : List Int} : (padI l).take l.length = l := by unfold padI; rw [List.take_append_of_le_length (Nat.le_refl _), List.take_length]
theorem pad_set {l : List Int} {v : Int} (h : l.length < 12) : (padI l).set l.length v = padI (l ++ [v]) := by
 unfold padI
 rw [List.set_append_right _ _ (Nat.le_refl _), Nat.sub_self, show 12 - l.length = (12 - (l ++ [v]).length) + 1 by rw [List.length_append]; simp; omega, List.replicate_succ, List.set_cons_zero, List.append_assoc]; rfl
theorem pad_mem {l : List Int} {d : Int} (h : d ∈ padI l) : d ∈ l \/ d = 0 := by
 unfold padI at h
 rcases List.mem_append.1 h with h | h
 ·exact .inl h
 ·exact .inr (List.eq_of_mem_replicate h)
theorem h85L (n m : Int) (h : Dh) (Q : AX -> St -> Prop) (n0 : 0 <= n) (n1 : n <= 1073741824) (m0 : 0 <= m) (hp : arL 11 h = padI ((arL 11 h).take m.toNat)) (hm : m + (digI n).length <= 12)
  (hQ : ∀ (h' : Dh) (m' : Int), arL 11 h' = padI ((arL 11 h).take m.toNat ++ digI n) -> m' = m + (digI n).length -> Q (.exit 0) (stS 1 sh85e ((h', m'), ()))) :
  xloop2 Try.prog { nm := true, ip := true } 5 85 0 lc85 (fun _ => some (sh85e, 1)) (fun (n, _) => n.toNat) (n, (h, m), ()) Q := by
 rw [v85L]
 simp only [fork_iff, req_iff, decide_eq_true_eq, decide_eq_false_iff_not, gt_iff_lt]
 refine ⟨fun hn => ?_, fun hn => ?_⟩
 ·rintro x rfl
  rw [digI_step hn n1, List.length_cons] at hm
  have hx : x < 12 := by omega
  have e1 : n.tdiv 10 = n / 10 := Int.tdiv_eq_ediv_of_nonneg (by omega)
  have e2 : n.tmod 10 = n % 10 := Int.tmod_eq_emod_of_nonneg (by omega)
  refine ⟨⟨m0, hx⟩, selOkD _ _ (by omega), fun y hy => ?_⟩
  rw [pickN_ne (by omega)] at hy
  subst hy
  refine ⟨inR_i64.2 (by omega), inR_i64.2 (by rw [e1]; omega), by rw [e1]; omega, ?_⟩
  have hl : ((arL 11 h).take y.toNat).length = y.toNat := by rw [List.length_take, arD_len]; omega
  have hs : arL 11 (setH y.toNat (n.tmod 10) 11 0 h) = padI ((arL 11 h).take y.toNat ++ [n.tmod 10]) := by
   rw [arL_set 11 0 h (Nat.zero_le _), Nat.sub_zero]
   have h2 := pad_set (l := (arL 11 h).take y.toNat) (v := n.tmod 10) (by omega)
   rw [hl, <- hp] at h2
   exact h2
  have ht : (arL 11 (setH y.toNat (n.tmod 10) 11 0 h)).take (y + 1).toNat = (arL 11 h).take y.toNat ++ [n.tmod 10] := by
   have h2 := pad_take (l := (arL 11 h).take y.toNat ++ [n.tmod 10])
   rw [<- hs, List.length_append, hl] at h2
   rw [show (y + 1).toNat = y.toNat + [n.tmod 10].length by simp; omega]
   exact h2
  refine (show lc85.spec (n.tdiv 10, (setH y.toNat (n.tmod 10) 11 0 h, y + 1), ()) Q from ⟨⟨by show (0 : Int) <= n.tdiv 10; omega, by show n.tdiv 10 <= (1073741824 : Int); omega, by show (0 : Int) <= y + 1; omega, by rw [ht]; exact hs, by show y + 1 + ((digI (n.tdiv 10)).length : Int) <= 12; omega⟩, fun h' m' q1 q2 => ?_⟩)
  refine hQ h' m' ?_ ?_
  ·rw [q1, ht, digI_step hn n1, List.append_assoc]; rfl
  ·rw [q2, digI_step hn n1, List.length_cons]; omega
 ·have hz := digI_zero (n := n) (by omega)
  refine hQ h m ?_ ?_
  ·rw [hz, List.append_nil]; exact hp
  ·rw [hz]; show m = m + 0; omega
theorem ok85L : Lp2Ok Try.prog 85 0 lc85 := lp2_of (n := 5) (ex := fun _ => some (sh85e, 1)) (m := fun (n, _) => n.toNat) (good2_nilI _) fun (n, (h, m), ()) Q hx => by
 obtain ⟨⟨g1, g2, g3, g4, g5⟩, hQ⟩ := hx
 exact h85L n m h Q g1 g2 g3 g4 g5 hQ
theorem ok85 : FnOk Try.prog 85 fc85 := fn1_of (n := 5) ((good2_nilI _).addL2 ok85L) fun (n, ()) K hx => by
 obtain ⟨⟨g1, g2⟩, hK⟩ := hx
 show xfn1 Try.prog { nm := true, ip := true, l2 := [(85, 0, lc85)] } 5 85 fc85 (n, ()) K
 rw [v85F]
 have hl : (digI n).length <= 10 := digI_len g2
 refine ⟨⟨g1, g2, Int.le_refl (0 : Int), rfl, by show (0 : Int) + (digI n).length <= 12; omega⟩, fun h' m' q1 q2 => hK h' m' q1 (by have q2 : m' = 0 + ((digI n).length : Int) := q2; show m' = ((digI n).length : Int); omega)⟩
theorem valI_drop {l : List Int} {k : Nat} (h : k < l.length) : valI (l.drop k) = l.getD k 0 + 10 * valI (l.drop (k + 1)) := by
 rw [List.drop_eq_getElem_cons h, List.getD_eq_getElem?_getD, List.getElem?_eq_getElem h]; rfl
theorem pow_le12 {k : Nat} (h : k <= 12) : (10 : Int) ^ k <= 1000000000000 := by
 rcases (show k = 0 \/ k = 1 \/ k = 2 \/ k = 3 \/ k = 4 \/ k = 5 \/ k = 6 \/ k = 7 \/ k = 8 \/ k = 9 \/ k = 10 \/ k = 11 \/ k = 12 by omega) with rfl | rfl | rfl | rfl | rfl | rfl | rfl | rfl | rfl | rfl | rfl | rfl | rfl <;> decide
theorem h86L (h : Dh) (m n k : Int) (Q : AX -> St -> Prop) (ho : okDg (h, m)) (k0 : -1 <= k) (k1 : k < m) (hn : n = valI (((arL 11 h).take m.toNat).drop (k + 1).toNat))
  (hQ : Q (.exit 0) (stS 0 sh86e (valI ((arL 11 h).take m.toNat), ()))) :
  xloop2 Try.prog { nm := true, ip := true } 5 86 0 lc86 (fun _ => some (sh86e, 0)) (fun (_, _, k, _) => (k + 1).toNat) ((h, m), n, k, ()) Q := by
 rw [v86L]
 obtain ⟨⟨m0, m1⟩, hd⟩ := ho
 have m0 : 0 <= m := m0
 have m1 : m <= 12 := m1
 have hl : ((arL 11 h).take m.toNat).length = m.toNat := by rw [List.length_take, arD_len]; omega
 have hb : ∀ j, 0 <= valI (((arL 11 h).take m.toNat).drop j) /\ valI (((arL 11 h).take m.toNat).drop j) < 1000000000000 := fun j => by
  obtain ⟨b1, b2⟩ := valI_bd (((arL 11 h).take m.toNat).drop j) fun d hd' => hd d (List.mem_of_mem_take (List.mem_of_mem_drop hd'))
  exact ⟨b1, Int.lt_of_lt_of_le b2 (pow_le12 (by rw [List.length_drop]; omega))⟩
 simp only [fork_iff, req_iff, decide_eq_true_eq, decide_eq_false_iff_not, ge_iff_le]
 refine ⟨fun hk => ?_, fun hk => ?_⟩
 ·have e := valI_drop (l := (arL 11 h).take m.toNat) (k := k.toNat) (by omega)
  have e2 : ((arL 11 h).take m.toNat).getD k.toNat 0 = (arL 11 h).getD k.toNat 0 := by
   rw [List.getD_eq_getElem?_getD, List.getElem?_take, if_pos (by omega), <- List.getD_eq_getElem?_getD]
  rw [e2] at e
  have b := hb k.toNat
  have b2 := hb (k.toNat + 1)
  rw [show (k + 1).toNat = k.toNat + 1 by omega] at hn
  rw [<- hn] at e b2
  have hdx : 0 <= (arL 11 h).getD k.toNat 0 /\ (arL 11 h).getD k.toNat 0 <= 9 := by
   rw [List.getD_eq_getElem?_getD, List.getElem?_eq_getElem (by rw [arD_len]; omega)]
   exact hd _ (List.getElem_mem _)
  refine ⟨inR_i64.2 (by omega), ⟨hk, by omega⟩, selOkD _ _ (by omega), fun x hx => ?_⟩
  rw [selD h m (by omega)] at hx
  subst hx
  refine ⟨inR_i64.2 (by omega), inR_i64.2 (by omega), by omega, ⟨⟨⟨m0, m1⟩, hd⟩, by show (-1 : Int) <= k - 1; omega, by show k - 1 < m; omega, ?_⟩, hQ⟩
  show 10 * n + _ = valI (((arL 11 h).take m.toNat).drop (k - 1 + 1).toNat)
  rw [show (k - 1 + 1).toNat = k.toNat by omega, e]; omega
 ·have : (k + 1).toNat = 0 := by omega
  rw [this, List.drop_zero] at hn
  rw [hn]; exact hQ
theorem ok86L : Lp2Ok Try.prog 86 0 lc86 := lp2_of (n := 5) (ex := fun _ => some (sh86e, 0)) (m := fun (_, _, k, _) => (k + 1).toNat) (good2_nilI _) fun ((h, m), n, k, ()) Q hx => by
 obtain ⟨⟨g1, g2, g3, g4⟩, hQ⟩ := hx
 exact h86L h m n k Q g1 g2 g3 g4 hQ
theorem v86G (h : Dh) (m i : Int) (K : dens [I] -> Prop) : xfn1 Try.prog { nm := true, ip := true, l2 := [(86, 0, lc86)] } 5 86 fc86 ((h, m), i, ()) K =
  (req (inR .i64 (i + 1)) (req (inR .i64 (i + 1)) (req (decide (0 <= i + 1 /\ i + 1 < 12)) (req (selOk .i64 (Ty.enc TDg (h, m)) (i + 1).toNat) (∀ x : Int, x = selI (Ty.enc TDg (h, m)) (i + 1).toNat ->
   req (decide (0 <= i /\ i < 12)) (req (selOk .i64 (Ty.enc TDg (h, m)) i.toNat) (∀ y : Int, y = selI (Ty.enc TDg (h, m)) i.toNat -> req (decide (0 <= i /\ i < 12)) (req (selOk .i64 (Ty.enc TDg (h, m)) i.toNat)
    (req (decide (0 <= i + 1 /\ i + 1 < 12)) (req (selOk .i64 (Ty.enc TDg (setH i.toNat x 11 0 h, pickN i.toNat 12 x m)) (i + 1).toNat)
     (∀ z : Int, z = pickN (i + 1).toNat 12 y (pickN i.toNat 12 x m) -> req (inR .i64 (z - 1)) ((okDg (setH (i + 1).toNat y 11 0 (setH i.toNat x 11 0 h), pickN (i + 1).toNat 12 y (pickN i.toNat 12 x m)) /\ -1 <= z - 1 /\ z - 1 < pickN (i + 1).toNat 12 y (pickN i.toNat 12 x m) /\
      0 = valI (((arL 11 (setH (i + 1).toNat y 11 0 (setH i.toNat x 11 0 h))).take (pickN (i + 1).toNat 12 y (pickN i.toNat 12 x m)).toNat).drop (z - 1 + 1).toNat)) /\
      K (valI ((arL 11 (setH (i + 1).toNat y 11 0 (setH i.toNat x 11 0 h))).take (pickN (i + 1).toNat 12 y (pickN i.toNat 12 x m)).toNat), ()))))))))))))) := by kernel_rfl
theorem h86F (h : Dh) (m i : Int) (K : dens [I] -> Prop) (ho : okDg (h, m)) (i0 : 0 <= i) (i1 : i + 1 < m) (hK : K (valI ((swapL (arL 11 h) i.toNat).take m.toNat), ())) : xfn1 Try.prog { nm := true, ip := true, l2 := [(86, 0, lc86)] } 5 86 fc86 ((h, m), i, ()) K := by
 rw [v86G]
 obtain ⟨⟨m0, m1⟩, hd⟩ := ho
 have m0 : 0 <= m := m0
 have m1 : m <= 12 := m1
 have e1 : (i + 1).toNat = i.toNat + 1 := by omega
 simp only [req_iff, decide_eq_true_eq]
 refine ⟨inR_i64.2 (by omega), inR_i64.2 (by omega), ⟨by omega, by omega⟩, selOkD _ _ (by omega), fun x hx => ⟨⟨i0, by omega⟩, selOkD _ _ (by omega), fun y hy => ⟨⟨i0, by omega⟩, selOkD _ _ (by omega), ⟨by omega, by omega⟩, selOkD _ _ (by omega), fun z hz => ?_⟩⟩⟩
 rw [selD h m (by omega), e1] at hx
 rw [selD h m (by omega)] at hy
 rw [pickN_ne (by omega), pickN_ne (by omega)] at hz ⊢
 subst hz
 have hs : arL 11 (setH (i + 1).toNat y 11 0 (setH i.toNat x 11 0 h)) = swapL (arL 11 h) i.toNat := by
  rw [arL_set 11 0 _ (Nat.zero_le _), arL_set 11 0 h (Nat.zero_le _), Nat.sub_zero, Nat.sub_zero, hx, hy, e1]; rfl
 rw [hs]
 have hg : ∀ j, 0 <= (arL 11 h).getD j 0 /\ (arL 11 h).getD j 0 <= 9 := fun j => by
  rw [List.getD_eq_getElem?_getD]
  cases hc : (arL 11 h)[j]? with
  | none => exact ⟨Int.le_refl 0, by show (0 : Int) <= 9; decide⟩
  | some x => exact hd x (List.mem_of_getElem? hc)
 have hsd : ∀ d ∈ swapL (arL 11 h) i.toNat, 0 <= d /\ d <= 9 := fun d hd' => by
  unfold swapL at hd'
  rcases List.mem_or_eq_of_mem_set hd' with q | q
  ·rcases List.mem_or_eq_of_mem_set q with q | q
   ·exact hd d q
   ·rw [q]; exact hg _
  ·rw [q]; exact hg _
 refine ⟨inR_i64.2 (by omega), ⟨⟨⟨m0, m1⟩, fun d hd' => ?_⟩, by omega, by omega, ?_⟩, hK⟩
 ·rw [hs] at hd'; exact hsd d hd'
 ·rw [List.drop_eq_nil_of_le (by rw [List.length_take]; omega)]; rfl
theorem ok86 : FnOk Try.prog 86 fc86 := fn1_of (n := 5) ((good2_nilI _).addL2 ok86L) fun ((h, m), i, ()) K hx =>
 h86F h m i K hx.1.1 hx.1.2.1 hx.1.2.2 (hx.2 _ rfl)
end Go.P8
