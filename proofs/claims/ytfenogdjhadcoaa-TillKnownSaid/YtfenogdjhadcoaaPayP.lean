/- Payments: the fewest pieces, and pay: the code keeps its contracts. No conditions. -/
import Derived.Test.YtfenogdjhadcoaaPayS
set_option linter.all false
set_option maxRecDepth 100000
set_option maxHeartbeats 4000000
namespace Go.P8
open Go.Lom Go.Proofs Go
theorem seg_self {α : Type} (l : List α) : seg 0 l.length l = l := seg_all l
theorem seg_exact {α : Type} {n : Nat} {l : List α} (h : n = l.length) : seg 0 n l = l := by rw [h, seg_self]
theorem drop_step {α : Type} (d : α) {l : List α} {i : Int} (h0 : 0 <= i) (h1 : i < l.length) : l.drop i.toNat = l.getD i.toNat d :: l.drop (i + 1).toNat := by
 have h : i.toNat < l.length := by omega
 rw [List.drop_eq_getElem_cons h, show (i + 1).toNat = i.toNat + 1 from by omega]
 simp [List.getD_eq_getElem?_getD, h]
theorem drop_end {α : Type} {l : List α} {i : Int} (h1 : ¬ i < l.length) : l.drop i.toNat = [] := List.drop_eq_nil_of_le (by omega)
theorem mL_lt {α : Type} {l : List α} {i : Int} (h : i < l.length) : mL l (i + 1) < mL l i := by unfold mL; omega
theorem fits100 {n b : Nat} (h : n <= 3000) (hb : b <= 200 := by omega) : fitsN n b = true := by
 have : n * b <= 3000 * 200 := Nat.mul_le_mul h hb
 simp only [fitsN, Bool.and_eq_true, Nat.ble_eq]
 exact ⟨by omega, by unfold maxLen; omega⟩
theorem tmFind_get {κ : Ty} {β : Type} (k : κ.den) : ∀ (l : List (κ.den × β)) (i : Nat) {r}, tmFind κ k l i = some r -> ∃ j, r.1 = i + j /\ ∃ h : j < l.length, Lom.eqT κ k l[j].1 = true /\ r.2 = l[j].2
 | [], i, r, h => by simp [tmFind] at h
 | (x, v) :: l, i, r, h => by
  simp only [tmFind] at h
  split at h
  ·rename_i he
   injection h with h; subst h
   exact ⟨0, by simp, by simp, by simpa using he, by simp⟩
  ·obtain ⟨j, e, hj, h1, h2⟩ := tmFind_get k l (i + 1) h
   exact ⟨j + 1, by rw [e]; omega, by simp; omega, by simpa using h1, by simpa using h2⟩
theorem eqS_iff {a b : Int × Int} : Lom.eqT ST a b = true ↔ a = b := by
 show ((a.1 == b.1 && a.2 == b.2) = true) ↔ _
 simp only [Bool.and_eq_true, beq_iff_eq]
 exact ⟨fun h => Prod.ext h.1 h.2, fun h => by rw [h]; exact ⟨rfl, rfl⟩⟩
theorem memo_get {cs hv : List Int} {m : Memo} (hm : memoOk cs hv m) {k : Int × Int} {v : Int} (h : tmGet ST m k = some v) : v = fewI cs hv k := by
 unfold tmGet at h
 cases hx : tmFind ST k m 0 with
 | none => rw [hx] at h; cases h
 | some r =>
  rw [hx] at h
  obtain ⟨j, e, hj, h1, h2⟩ := tmFind_get (κ := ST) k m 0 hx
  have he := eqS_iff.1 h1
  have hv2 : r.2 = v := by simpa using h
  rw [<- hv2, h2, he]
  exact hm _ (List.getElem_mem hj)
theorem memo_put {cs hv : List Int} {m : Memo} (hm : memoOk cs hv m) (k : Int × Int) : memoOk cs hv (tmPut ST m k (fewI cs hv k)) := fun e he => by
 unfold tmPut at he
 split at he
 ·rcases List.mem_or_eq_of_mem_set he with he | rfl
  ·exact hm e he
  ·rfl
 ·rcases List.mem_append.1 he with he | he
  ·exact hm e he
  ·rw [List.mem_singleton] at he; subst he; rfl
theorem memo_nil (cs hv : List Int) : memoOk cs hv [] := fun e h => by simp at h
theorem h77L (c : Nat) (cs : List Int) (m : Memo) (hv : List Int) (k s b i : Int) (Q : AX -> St -> Prop) (g1 : okC cs hv) (g2 : memoOk cs hv m) (k0 : 0 <= k) (k1 : k < cs.length) (k2 : (cs.length : Int) - k <= c) (s0 : 0 <= s) (s1 : s <= 2000) (i0 : 0 <= i) (i1 : i <= manyI cs hv (k, s)) (hb : b <= 1073741824)
  (hQ : ∀ (m1 : Memo) (b1 : Int), memoOk cs hv m1 -> b1 = minF (few (lst cs hv (k + 1))) (cs.getD k.toNat 0) s (manyI cs hv (k, s) - i).toNat i b -> Q (.exit 0) (stS 6 sh77e (cs, m1, hv, ((), (), (), (), (), ()), (k, s), b1, ()))) :
  xloop2 Try.prog { f2 := [(77, fc77 c)] } 5 77 0 (lc77 c) (fun _ => some (sh77e, 6)) (fun (_, _, _, _, _, _, n, i, _) => (n - i).toNat) (cs, m, hv, ((), (), (), (), (), ()), (k, s), b, manyI cs hv (k, s), i, ()) Q := by
 rw [v77L]
 obtain ⟨⟨c1, c2⟩, d1, d2⟩ := coin_at g1 k0 k1
 obtain ⟨n1, n2, n3, n4⟩ := many_bd g1 k0 k1 s0
 have hl8 := g1.len.2
 generalize hn : manyI cs hv (k, s) = n at *
 simp only [fork_iff, req_iff, decide_eq_true_eq, decide_eq_false_iff_not]
 refine ⟨fun hi => ?_, fun hi => hQ m b g2 (by rw [show (n - i).toNat = 0 by omega]; rfl)⟩
 have hm := mul_bd i0 s0 c1 (show i <= s.tdiv (cs.getD k.toNat 0) by omega)
 rw [show (n - i).toNat = (n - (i + 1)).toNat + 1 by omega] at hQ
 simp only [minF] at hQ
 generalize hc : cs.getD k.toNat 0 = x at *
 refine ⟨inR_i64.2 (by omega), ⟨k0, k1⟩, inR_i64.2 (by omega), inR_i64.2 (by omega), ⟨g1, g2, ⟨show (0 : Int) <= k + 1 by omega, show k + 1 <= (cs.length : Int) by omega, show (cs.length : Int) - (k + 1) < (c : Int) by omega⟩, show (0 : Int) <= s - i * x by omega, show s - i * x <= (2000 : Int) by omega⟩, fun m1 n' hm1 hn' => ?_⟩
 have hn' : n' = few (lst cs hv (k + 1)) (s - i * x) := hn'
 have f0 := few_nonneg (lst cs hv (k + 1)) (s - i * x)
 have f1 := few_le (lst cs hv (k + 1)) (s - i * x)
 rw [<- hn'] at f0 f1 hQ
 rw [ite_min]
 refine ⟨inR_i64.2 (by omega), inR_i64.2 (by omega), by omega, ⟨⟨g1, hm1, ⟨k0, k1, k2⟩, ⟨s0, s1⟩, hn.symm, ⟨show (0 : Int) <= i + 1 by omega, show i + 1 <= n by omega⟩, show min b (i + n') <= (1073741824 : Int) by omega⟩, fun m2 b2 hm2 hb2 => hQ m2 b2 hm2 ?_⟩⟩
 have hb2 : b2 = minF (few (lst cs hv (k + 1))) x s (n - (i + 1)).toNat (i + 1) (min b (i + n')) := hb2
 exact hb2
theorem ok77L (c : Nat) (h : F2Ok Try.prog 77 (fc77 c)) : Lp2Ok Try.prog 77 0 (lc77 c) := lp2_of (n := 5) (ex := fun _ => some (sh77e, 6)) (m := fun (_, _, _, _, _, _, n, i, _) => (n - i).toNat) ((good2_nil _).addF2 h) fun (cs, m, hv, u, (k, s), b, n, i, ()) Q hx => by
 obtain ⟨⟨g1, g2, ⟨g3, g4, g5⟩, ⟨g6, g7⟩, g8, ⟨g9, g10⟩, g11⟩, hQ⟩ := hx
 have g8 : n = manyI cs hv (k, s) := g8
 subst g8
 exact h77L c cs m hv k s b i Q g1 g2 g3 g4 g5 g6 g7 g9 g10 g11 hQ
theorem h77F (c : Nat) (k s : Int) (cs : List Int) (m : Memo) (hv : List Int) (K : post77.den -> Prop) (g1 : okC cs hv) (g2 : memoOk cs hv m) (k0 : 0 <= k) (k1 : k <= cs.length) (k2 : (cs.length : Int) - k < (c + 1 : Nat)) (s0 : 0 <= s) (s1 : s <= 2000)
  (hK : ∀ (m1 : Memo) (n : Int), memoOk cs hv m1 -> n = fewI cs hv (k, s) -> K ((), cs, m1, hv, ((), (), (), (), (), ()), n, ())) :
  xfn2 Try.prog { l2 := [(77, 0, lc77 c)] } 5 77 (fc77 (c + 1)) ((k, s), cs, m, hv, ((), (), (), (), (), ()), ()) K := by
 rw [v77F]
 simp only [fork_iff, req_iff, decide_eq_true_eq, decide_eq_false_iff_not, beq_iff_eq, beq_eq_false_iff_ne, ne_eq, Bool.and_true, Bool.and_eq_true, Bool.and_eq_false_iff]
 have hl := g1.len.1
 refine ⟨fun h => hK m 0 g2 (by rw [fewI_end g1 h.1, if_pos h.2]), fun h => ⟨fun h1 => hK m _ g2 (by
  rw [fewI_end g1 h1, if_neg]; rcases h with h | h
  ·exact absurd h1 (by simpa using h)
  ·simpa using h), fun h1 => ⟨fun h2 => ?_, fun h2 => ?_⟩⟩⟩
 ·obtain ⟨v, hv2⟩ := Option.isSome_iff_exists.1 h2
  rw [hv2]
  exact hK m _ g2 (memo_get g2 hv2)
 ·have h2 : tmGet ST m (k, s) = none := by simpa using h2
  have h1 : ¬ k = cs.length := h1
  have k3 : k < cs.length := by omega
  obtain ⟨⟨c1, c2⟩, d1, d2⟩ := coin_at g1 k0 k3
  obtain ⟨q1, q2, q3⟩ := quo_bd s0 c1
  have hmn : manyI cs hv (k, s) = min (hv.getD k.toNat 0) (s.tdiv (cs.getD k.toNat 0)) + 1 := rfl
  have hst := fewI_step g1 k0 k3 (s := s)
  obtain ⟨n1, n2, n3, n4⟩ := many_bd g1 k0 k3 s0
  simp only [ite_min, Int.sub_zero]
  rw [<- hmn]
  refine ⟨⟨k0, by omega⟩, ⟨k0, k3⟩, by omega, inR_i64.2 (by omega), inR_i64.2 (by omega), ⟨g1, g2, ⟨k0, k3, show (cs.length : Int) - k <= (c : Int) by push_cast at k2; omega⟩, ⟨s0, s1⟩, rfl, ⟨Int.le_refl (0 : Int), by omega⟩, Int.le_refl (1073741824 : Int)⟩, fun m1 b1 hm1 hb1 => ?_⟩
  have e : b1 = fewI cs hv (k, s) := hb1.trans hst.symm
  rw [e]
  exact hK _ _ (memo_put hm1 (k, s)) rfl
theorem ok77 : ∀ c, F2Ok Try.prog 77 (fc77 c)
 | 0 => fn2_of (n := 5) (T := {}) (good2_nil _) fun x K hx => by
   obtain ⟨s, cs, m, hv, u, v⟩ := x
   have h := hx.1.2.2.1
   have h1 : s.1 <= (cs.length : Int) := h.2.1
   have h2 : (cs.length : Int) - s.1 < ((0 : Nat) : Int) := h.2.2
   exact absurd h2 (Int.not_lt.2 (Int.sub_nonneg.2 h1))
 | c + 1 => fn2_of (n := 5) ((good2_nil _).addL2 (ok77L c (ok77 c))) fun ((k, s), cs, m, hv, u, ()) K hx => by
  obtain ⟨⟨g1, g2, ⟨g3, g4, g5⟩, g6, g7⟩, hK⟩ := hx
  exact h77F c k s cs m hv K g1 g2 g3 g4 g5 g6 g7 hK
end Go.P8
