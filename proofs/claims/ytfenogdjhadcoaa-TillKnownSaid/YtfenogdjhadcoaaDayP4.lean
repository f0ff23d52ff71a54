/- Days: explanations: the code keeps its contracts. No conditions. -/
import Derived.Test.YtfenogdjhadcoaaDayP3
set_option linter.all false
set_option maxRecDepth 100000
set_option maxHeartbeats 4000000
namespace Go.P8
open Go.Lom Go.Proofs Go
theorem ok57 : F2Ok Try.prog 57 fc57 := fn2_of (n := 5) (good2_nil _) fun (l, ()) K hx => by
 obtain ⟨hl, hK⟩ := hx
 have hl : l.length <= 1000 := hl
 show xfn2 Try.prog {} 5 57 fc57 (l, ()) K
 rw [v57F]
 simp only [fork_iff, req_iff, decide_eq_true_eq, Nat.zero_add, List.nil_append, Nat.le_refl, seg_all, true_and]
 refine fun b hb => ⟨fun h => ?_, fun h => ⟨?_, hK _ rfl⟩⟩
 ·have : l = [] := List.eq_nil_of_length_eq_zero (hb h)
  exact hK [] this.symm
 ·simp only [fitsN, Bool.and_eq_true, Nat.ble_eq]; unfold maxLen; omega
theorem okX_po {z : List Mi × Nat} {off : List Int} {d : Dy} {more : Int} (h : okX z off d more) {i : Int} (i0 : 0 <= i) (i1 : i < d.2.1.length) : poOk off.length (poA d.2.1 i.toNat) = true := by
 rw [h.len]
 exact (dayOk_iff.1 h.day).pos _ (po_mem i0 i1)
theorem offM_ok {z : List Mi × Nat} {off : List Int} {d : Dy} {more : Int} (h : okX z off d more) (h1 : 1 <= more) {p : Po} {n : Int} (hp : poOk off.length p = true) (hn : n ∈ reallyI p.2.2) : offB (bd (more - 1)) (offM off p n) := by
 obtain ⟨-, -, -, a4, a5⟩ := poOk_iff.1 hp
 have hb := really_bd (by omega) hn
 have hm := h.cnt
 have hB := h.bnd
 unfold bd at hB ⊢
 unfold offM
 have e : (100 - 20 * (more - 1)) * 1073741824 = (100 - 20 * more) * 1073741824 + 10737418240 + 10737418240 := by omega
 rw [e]
 exact offB_add (offB_add hB (by omega) (by omega)) (by omega) (by omega)
theorem expN_cons {ps : List Po} {m : Nat} {off : List Int} {j : Nat} {n : Int} {ns : List Int} : expN ps m off j (n :: ns) = ((expl ps m (offM off (poA ps j) n) (j + 1)).map (((j : Int), n) :: ·)).or (expN ps m off j ns) := by
 unfold expN
 rw [List.findSome?_cons]
 cases (expl ps m (offM off (poA ps j) n) (j + 1)).map (((j : Int), n) :: ·) <;> rfl
theorem ble_of {a b : Nat} (h : a <= b) : Nat.ble a b = true := Nat.ble_eq_true_of_le h
theorem insI_len (x : Int) : ∀ l : List Int, (insI x l).length <= l.length + 1
 | [] => Nat.le_refl _
 | y :: l => by
  unfold insI
  split
  ·have := insI_len x l
   simp only [List.length_cons]; omega
  ·split <;> simp only [List.length_cons] <;> omega
theorem fold_len (s : Int) : ∀ (l out : List Int), (l.foldl (stepR s) out).length <= out.length + l.length
 | [], out => Nat.le_refl _
 | x :: l, out => by
  have h1 := fold_len s l (stepR s out x)
  have h2 : (stepR s out x).length <= out.length + 1 := by
   unfold stepR
   split
   ·omega
   ·exact insI_len x out
  show (l.foldl (stepR s) (stepR s out x)).length <= _
  rw [List.length_cons]; omega
theorem swK_len (s : Int) : ∀ (k : Nat) (t : Int), (swK s k t).length <= k
 | 0, _ => Nat.le_refl _
 | k + 1, t => by
  unfold swK
  split
  ·have := swK_len s k (10 * t)
   rw [List.length_cons]; omega
  ·exact Nat.zero_le _
theorem really_len (s : Int) : (reallyI s).length <= 12 := by
 have h1 := fold_len s (realsI s) []
 have h2 := swK_len s 10 1
 have h3 : (realsI s).length = (swK s 10 1).length + 2 := rfl
 show ((realsI s).foldl (stepR s) []).length <= 12
 rw [List.length_nil] at h1
 omega
set_option maxHeartbeats 8000000 in
theorem h56B (c : Nat) (z : List Mi) (n : Nat) (more : Int) (fo : List Mi) (off o cn : List Int) (ps : List Po) (i p1 p2 p3 : Int) (ns : List Int) (k : Int) (Q : AX -> St -> Prop)
  (hx : okX (z, n) off (o, ps, cn) more) (hm1 : 1 <= more) (hmc : more <= c) (i0 : 0 <= i) (i1 : i < ps.length) (hp : (p1, p2, p3) = poA ps i.toNat) (hns : ns = reallyI p3) (k0 : 0 <= k) (k1 : k <= ns.length)
  (hN : expN ps (more - 1).toNat off i.toNat (ns.drop k.toNat) = none -> ∀ z' fo' : List Mi, z'.take n = z.take n -> n <= z'.length -> Q (.exit 2) (stS 7 sh56be ((z', n), more, fo', off, (o, ps, cn), ((), (), (), (), (), ()), i, ())))
  (hS : ∀ l, expN ps (more - 1).toNat off i.toNat (ns.drop k.toNat) = some l -> ∀ z' : List Mi, z'.take n = z.take n -> n <= z'.length -> Q .ret (stS 7 sh56r ((z', n), z.take n ++ l, off, (o, ps, cn), ((), (), (), (), (), ()), true, ()))) :
  xloop2 Try.prog { nm := true, ip := true, f2 := [(56, fc56 c)] } 5 56 1 (lc56b c) ex56b (fun (_, _, _, _, _, _, _, _, _, m, k, _) => (m - k).toNat) ((z, n), more, fo, off, (o, ps, cn), ((), (), (), (), (), ()), i, (p1, p2, p3), ns, ns.length, k, ()) Q := by
 rw [v56B]
 have hpo := okX_po hx i0 i1
 have hpo : poOk off.length (poA ps i.toNat) = true := hpo
 rw [<- hp] at hpo
 obtain ⟨a1, a2, a3, a4, a5⟩ := poOk_iff.1 hpo
 dsimp only at a1 a2 a3 a4 a5
 have hn0 : n <= z.length /\ (n : Int) + more <= 3 := hx.room
 have hm3 := hx.cnt
 have hB := hx.bnd
 have hday := dayOk_iff.1 hx.day
 have hps : ps.length <= 16 := hday.len.2.2.2
 unfold bd at hB
 have blen : Nat.ble n z.length = true := ble_of hn0.1
 by_cases hk : k < ns.length
 rotate_left
 ·simp only [fork_iff, req_iff, decide_eq_true_eq, decide_eq_false_iff_not, true_and]
  refine ⟨fun h => absurd h hk, fun _ => ⟨blen, hN ?_ z fo rfl hn0.1⟩⟩
  rw [drop_no hk]; rfl
 rw [drop_at k0 hk, expN_cons] at hN hS
 have hnm : ns.getD k.toNat 0 ∈ reallyI p3 := by
  rw [<- hns, List.getD_eq_getElem?_getD, List.getElem?_eq_getElem (show k.toNat < ns.length by omega)]; exact List.getElem_mem _
 have hnb := really_bd (by omega) hnm
 have hoM := offM_ok hx hm1 hpo hnm
 generalize ns.getD k.toNat 0 = x at *
 have hE : poA ps i.toNat = (p1, p2, p3) := hp.symm
 rw [hE] at hN hS
 have g1 := offB_get hB (by omega) p1.toNat
 have hi : ((i.toNat : Nat) : Int) = i := by omega
 rw [hi] at hN hS
 have hi1 : (i + 1).toNat = i.toNat + 1 := by omega
 have tail : ∀ (zz fo' : List Mi) (b : Bool) (off2 : List Int), off2 = off -> zz.take n = z.take n -> n <= zz.length -> b = (expl ps (more - 1).toNat (offM off (p1, p2, p3) x) (i.toNat + 1)).isSome ->
   (∀ l, expl ps (more - 1).toNat (offM off (p1, p2, p3) x) (i.toNat + 1) = some l -> fo' = z.take n ++ [(i, x)] ++ l) ->
   (b = true -> Nat.ble n zz.length = true /\ Q .ret (stS 7 sh56r ((zz, n), fo', off2, (o, ps, cn), ((), (), (), (), (), ()), true, ()))) /\
   (b = false -> inR .i64 (k + 1) = true /\ Nat.ble n zz.length = true /\ ((ns.length : Int) - (k + 1)).toNat < ((ns.length : Int) - k).toNat /\ (lc56b c).spec ((zz, n), more, fo', off2, (o, ps, cn), ((), (), (), (), (), ()), i, (p1, p2, p3), ns, ns.length, k + 1, ()) Q) := fun zz fo' b off2 e0 e1 e2 e3 e4 => by
  subst e0
  have hr := (dayOk_iff.1 hx.day).len
  have hrl : ns.length <= 12 := by rw [hns]; exact really_len p3
  refine ⟨fun hb => ?_, fun hb => ?_⟩
  ·rw [hb] at e3
   obtain ⟨l, hl⟩ := Option.isSome_iff_exists.1 e3.symm
   have h1 := e4 l hl
   rw [hl] at hS
   have h2 := hS ((i, x) :: l) rfl zz e1 e2
   rw [h1, List.append_assoc]
   exact ⟨ble_of e2, h2⟩
  ·rw [hb] at e3
   have hnone : expl ps (more - 1).toNat (offM off2 (p1, p2, p3) x) (i.toNat + 1) = none := by
    cases hc : expl ps (more - 1).toNat (offM off2 (p1, p2, p3) x) (i.toNat + 1) with
    | none => rfl
    | some l => rw [hc] at e3; cases e3
   rw [hnone] at hN hS
   refine ⟨inR_i64.2 (by omega), ble_of e2, by omega, ⟨⟨⟨hx.day, hx.len, hx.bnd, hx.cnt, e2, hn0.2⟩, hm1, hmc, ⟨i0, i1⟩, hp, hns, rfl, by show (0 : Int) <= k + 1; omega, by show k + 1 <= (ns.length : Int); omega⟩, fun h z' f' q1 q2 => hN h z' f' (q1.trans e1) q2, fun l h z' q1 q2 => ?_⟩⟩
   have := hS l h z' (q1.trans e1) q2
   show Q .ret (stS 7 sh56r ((z', n), zz.take n ++ l, off2, (o, ps, cn), ((), (), (), (), (), ()), true, ()))
   rw [e1]; exact this
 have chain : ∀ (zs : List Int) (zz fo' : List Mi) (b : Bool), zs = offM off (p1, p2, p3) x -> zz.take n = z.take n -> n <= zz.length -> b = (expl ps (more - 1).toNat zs (i.toNat + 1)).isSome ->
   (∀ l, expl ps (more - 1).toNat zs (i.toNat + 1) = some l -> fo' = z.take n ++ [(i, x)] ++ l) ->
   (0 <= p1 /\ p1 < (zs.length : Int)) /\ p1.toNat < zs.length /\ inR .i64 (p3 - x) = true /\ inR .i64 (zs.getD p1.toNat 0 - (p3 - x)) = true /\ (0 <= p1 /\ p1 < (zs.length : Int)) /\ p1.toNat < zs.length /\
   ∀ ys : List Int, ys = zs.set p1.toNat (zs.getD p1.toNat 0 - (p3 - x)) -> (0 <= p2 /\ p2 < (zs.length : Int)) /\ p2.toNat < ys.length /\ inR .i64 (p3 - x) = true /\ inR .i64 (ys.getD p2.toNat 0 + (p3 - x)) = true /\ (0 <= p2 /\ p2 < (zs.length : Int)) /\ p2.toNat < ys.length /\
   ∀ ys2 : List Int, ys2 = ys.set p2.toNat (ys.getD p2.toNat 0 + (p3 - x)) ->
    (b = true -> Nat.ble n zz.length = true /\ zs.length = ys2.length /\ Q .ret (stS 7 sh56r ((zz, n), fo', ys2, (o, ps, cn), ((), (), (), (), (), ()), true, ()))) /\
    (b = false -> inR .i64 (k + 1) = true /\ Nat.ble n zz.length = true /\ zs.length = ys2.length /\ ((ns.length : Int) - (k + 1)).toNat < ((ns.length : Int) - k).toNat /\ (lc56b c).spec ((zz, n), more, fo', ys2, (o, ps, cn), ((), (), (), (), (), ()), i, (p1, p2, p3), ns, ns.length, k + 1, ()) Q) := fun zs zz fo' b hz e1 e2 e3 e4 => by
  have hzl : zs.length = off.length := by rw [hz, offM_len]
  have hzb : offB (bd (more - 1)) zs := by rw [hz]; exact hoM
  unfold bd at hzb
  have g3 := offB_get hzb (by omega) p1.toNat
  refine ⟨by omega, by omega, inR_i64.2 (by omega), inR_i64.2 (by omega), by omega, by omega, fun ys hy => ?_⟩
  have hy : ys = addAt zs p1 (-(p3 - x)) := hy
  have hyl : ys.length = off.length := by rw [hy, addAt_len, hzl]
  have hyb : offB ((100 - 20 * (more - 1)) * 1073741824 + 10737418240) ys := by rw [hy]; exact offB_add hzb (by omega) (by omega)
  have g4 := offB_get hyb (by omega) p2.toNat
  refine ⟨by omega, by omega, inR_i64.2 (by omega), inR_i64.2 (by omega), by omega, by omega, fun ys2 hy2 => ?_⟩
  have hy2 : ys2 = addAt ys p2 (p3 - x) := hy2
  have hback : ys2 = off := by rw [hy2, hy, hz]; exact off_back off (p1, p2, p3) x
  have hl2 : zs.length = ys2.length := by rw [hback, hzl]
  subst hz
  obtain ⟨t1, t2⟩ := tail zz fo' b ys2 hback e1 e2 e3 e4
  exact ⟨fun hb => ⟨(t1 hb).1, hl2, (t1 hb).2⟩, fun hb => ⟨(t2 hb).1, (t2 hb).2.1, hl2, (t2 hb).2.2.1, (t2 hb).2.2.2⟩⟩
 simp only [fork_iff, req_iff, decide_eq_true_eq, decide_eq_false_iff_not, true_and, Nat.add_zero, Nat.zero_add]
 refine ⟨fun _ => ⟨⟨k0, hk⟩, a1, by omega, inR_i64.2 (by omega), inR_i64.2 (by omega), a1, by omega, fun ys hy => ?_⟩, fun h => absurd hk h⟩
 have hy : ys = addAt off p1 (p3 - x) := hy
 have hyl : ys.length = off.length := by rw [hy, addAt_len]
 have hyb : offB ((100 - 20 * more) * 1073741824 + 10737418240) ys := by rw [hy]; exact offB_add hB (by omega) (by omega)
 have g2 := offB_get hyb (by omega) p2.toNat
 refine ⟨a2, by omega, inR_i64.2 (by omega), inR_i64.2 (by omega), a2, by omega, fun zs hz => ?_⟩
 have hz : zs = offM off (p1, p2, p3) x := by rw [hz, hy]; rfl
 have hzl : zs.length = off.length := by rw [hz, offM_len]
 have hok : ∀ y : List Mi, n + 1 <= y.length -> okX (y, n + 1) zs (o, ps, cn) (more - 1) := fun y h => ⟨hx.day, by rw [hzl]; exact hx.len, by rw [hz]; exact hoM, by omega, h, by show ((n + 1 : Nat) : Int) + (more - 1) <= 3; omega⟩
 have hfit : fitsN (n + 1) 16 = true := by simp only [fitsN, Bool.and_eq_true, Nat.ble_eq]; unfold maxLen; omega
 refine ⟨inR_i64.2 (by omega), inR_i64.2 (by omega), hn0.1, hfit, fun y1 hy1 => ?_, fun y1 hy1 => ?_⟩
 ·have ht : (z.take n).length = n := by rw [List.length_take]; omega
  have hl1 : n + 1 <= y1.length := by rw [hy1, List.length_append, List.length_append, ht]; simp
  have ht1 : y1.take (n + 1) = z.take n ++ [(i, x)] := by
   rw [hy1, List.take_append_of_le_length (by rw [List.length_append, ht]; exact Nat.le_refl _), List.take_of_length_le (by rw [List.length_append, ht]; exact Nat.le_refl _)]
  rw [hi1]
  refine ⟨ble_of hl1, hzl.symm, ⟨hok y1 hl1, by show more - 1 < (c : Int); omega, by show (0 : Int) <= i + 1; omega, by show i + 1 <= (16 : Int); omega⟩, fun z' fo' b q1 q2 q3 q4 => ?_⟩
  rw [ht1] at q1 q4
  have q5 : z'.take n = z.take n := by
   have := congrArg (List.take n) q1
   rw [List.take_take, Nat.min_eq_left (by omega), List.take_append_of_le_length (by omega), List.take_take, Nat.min_self] at this
   exact this
  have T := chain zs z' fo' b hz q5 (by omega) q3 q4
  simp only [fork_iff, req_iff, decide_eq_true_eq, decide_eq_false_iff_not, true_and, Nat.add_zero, Nat.zero_add] at T
  exact T
 ·have ht : (z.take n).length = n := by rw [List.length_take]; omega
  have hs : seg 0 n z = z.take n := rfl
  rw [hs] at hy1
  have hl1 : n + 1 <= y1.length := by rw [hy1, List.length_append, ht]; exact Nat.le_refl _
  have ht1 : y1.take (n + 1) = z.take n ++ [(i, x)] := by
   rw [hy1, List.take_of_length_le (by rw [List.length_append, ht]; exact Nat.le_refl _)]
  rw [hi1]
  refine ⟨ble_of hl1, hzl.symm, ⟨hok y1 hl1, by show more - 1 < (c : Int); omega, by show (0 : Int) <= i + 1; omega, by show i + 1 <= (16 : Int); omega⟩, fun z' fo' b q1 q2 q3 q4 => ?_⟩
  rw [ht1] at q4
  have T := chain zs z fo' b hz rfl hn0.1 q3 q4
  simp only [fork_iff, req_iff, decide_eq_true_eq, decide_eq_false_iff_not, true_and, Nat.add_zero, Nat.zero_add] at T
  exact T
end Go.P8
