/- CensusCounts returns true: the last part. No conditions. -/
import Derived.Test.YtfbbpilflbpifaaCountT
set_option linter.constructorNameAsVariable false
set_option linter.unusedVariables false
set_option linter.unusedSimpArgs false
set_option maxRecDepth 100000
set_option maxHeartbeats 4000000
namespace Go.P10
open Go.Lom Go.Proofs Go

/-! plain facts -/
theorem chs_more {n x s : Int} (h0 : 0 ≤ x) (h1 : x ≤ n) (h2 : n ≤ 8) (s0 : 0 ≤ s) (s1 : s + 1 ≤ n) : chs (n - x) (s + 1) * chs n s ≤ chs (n - x) s * chs n (s + 1) := by
  have h : ∀ a : Fin 9, ∀ b : Fin 9, ∀ c : Fin 9, b.val ≤ a.val → c.val + 1 ≤ a.val → chs ((a.val : Int) - b.val) ((c.val : Int) + 1) * chs a.val c.val ≤ chs ((a.val : Int) - b.val) c.val * chs a.val ((c.val : Int) + 1) := by decide +kernel
  have := h ⟨n.toNat, by omega⟩ ⟨x.toNat, by omega⟩ ⟨s.toNat, by omega⟩ (by show x.toNat ≤ n.toNat; omega) (by show s.toNat + 1 ≤ n.toNat; omega)
  rw [show (n.toNat : Int) = n by omega, show (x.toNat : Int) = x by omega, show (s.toNat : Int) = s by omega] at this
  exact this
theorem mul4 {a b c d p q r t : Int} (h1 : a * b ≤ c * d) (h2 : p * q ≤ r * t) (h3 : 0 ≤ p * q) (h4 : 0 ≤ c * d) : a * p * (b * q) ≤ c * r * (d * t) := by
  have e1 : a * p * (b * q) = a * b * (p * q) := by rw [Int.mul_assoc, Int.mul_assoc, Int.mul_left_comm p b q]
  have e2 : c * r * (d * t) = c * d * (r * t) := by rw [Int.mul_assoc, Int.mul_assoc, Int.mul_left_comm r d t]
  rw [e1, e2]
  exact Int.mul_le_mul h1 h2 h3 h4
/-- Looking at one more never lets more be missed. -/
theorem more_look : ∀ {st sa lo : List Int} {r : Nat}, (∀ n ∈ st, 1 ≤ n ∧ n ≤ 8) → r < sa.length → eachB st sa = true → eachB st lo = true → eachB st (sa.set r (sa.getD r 0 + 1)) = true → prodM st (sa.set r (sa.getD r 0 + 1)) lo * allM st sa ≤ prodM st sa lo * allM st (sa.set r (sa.getD r 0 + 1))
  | [], [], _, r, _, hr, _, _, _ => by simp at hr
  | [], _ :: _, _, _, _, _, h, _, _ => by simp [eachB] at h
  | _ :: _, [], _, _, _, hr, _, _, _ => by simp at hr
  | _ :: _, _ :: _, [], _, _, _, _, h, _ => by simp [eachB] at h
  | n :: st, s :: sa, x :: lo, 0, hst, hr, hs, hl, hm => by
    have hn := hst n List.mem_cons_self
    obtain ⟨⟨s0, s1⟩, hs⟩ := each_cons.1 hs
    obtain ⟨⟨x0, x1⟩, hl⟩ := each_cons.1 hl
    rw [List.getD_cons_zero, List.set_cons_zero] at hm ⊢
    obtain ⟨⟨m0, m1⟩, _⟩ := each_cons.1 hm
    rw [prodM, prodM, allM, allM]
    have p0 := (prodM_bd (st := st) sa lo).1
    have a0 := (allM_bd (st := st) sa).1
    exact mul4 (chs_more x0 x1 hn.2 s0 m1) (Int.le_refl _) (Int.mul_nonneg p0 a0) (Int.mul_nonneg (chs_bd _ _).1 (chs_bd _ _).1)
  | n :: st, s :: sa, x :: lo, r + 1, hst, hr, hs, hl, hm => by
    have hst' : ∀ n ∈ st, 1 ≤ n ∧ n ≤ 8 := fun x hx => hst x (List.mem_cons_of_mem _ hx)
    obtain ⟨_, hs⟩ := each_cons.1 hs
    obtain ⟨_, hl⟩ := each_cons.1 hl
    rw [List.getD_cons_succ, List.set_cons_succ] at hm ⊢
    obtain ⟨_, hm⟩ := each_cons.1 hm
    rw [prodM, prodM, allM, allM]
    have ih := more_look hst' (by simpa using hr) hs hl hm
    refine mul4 (Int.le_refl _) ih (Int.mul_nonneg (prodM_bd _ _).1 (allM_bd _).1) (Int.mul_nonneg (chs_bd _ _).1 (chs_bd _ _).1)
/-- Losing one more never lets more be missed. -/
theorem more_lost : ∀ {st sa lo : List Int} {r : Nat}, (∀ n ∈ st, 1 ≤ n ∧ n ≤ 8) → r < lo.length → eachB st sa = true → eachB st lo = true → eachB st (lo.set r (lo.getD r 0 + 1)) = true → prodM st sa (lo.set r (lo.getD r 0 + 1)) ≤ prodM st sa lo
  | _, _, [], _, _, hr, _, _, _ => by simp at hr
  | [], _, _ :: _, _, _, _, _, h, _ => by simp [eachB] at h
  | _ :: _, [], _ :: _, _, _, _, h, _, _ => by simp [eachB] at h
  | n :: st, s :: sa, x :: lo, 0, hst, hr, hs, hl, hm => by
    have hn := hst n List.mem_cons_self
    obtain ⟨⟨s0, s1⟩, hs⟩ := each_cons.1 hs
    obtain ⟨⟨x0, x1⟩, hl⟩ := each_cons.1 hl
    rw [List.getD_cons_zero, List.set_cons_zero] at hm ⊢
    obtain ⟨⟨m0, m1⟩, _⟩ := each_cons.1 hm
    rw [prodM, prodM]
    exact Int.mul_le_mul_of_nonneg_right (chs_mono (by omega) (by omega) (by omega) s0 (by omega)) (prodM_bd _ _).1
  | n :: st, s :: sa, x :: lo, r + 1, hst, hr, hs, hl, hm => by
    have hst' : ∀ n ∈ st, 1 ≤ n ∧ n ≤ 8 := fun x hx => hst x (List.mem_cons_of_mem _ hx)
    obtain ⟨_, hs⟩ := each_cons.1 hs
    obtain ⟨_, hl⟩ := each_cons.1 hl
    rw [List.getD_cons_succ, List.set_cons_succ] at hm ⊢
    obtain ⟨_, hm⟩ := each_cons.1 hm
    rw [prodM, prodM]
    exact Int.mul_le_mul_of_nonneg_left (more_lost hst' (by simpa using hr) hs hl hm) (chs_bd _ _).1
theorem each_inW {st l : List Int} (hst : ∀ n ∈ st, 1 ≤ n ∧ n ≤ 8) (hE : eachB st l = true) : l.all inW = true := by
  rw [List.all_eq_true]
  intro x hx
  obtain ⟨k, hk, rfl⟩ := List.mem_iff_getElem.1 hx
  have hel := each_at hE
  have q1 := hel.2 k (by omega)
  have q2 := hst _ (getD_mem (show k < st.length by omega) 0)
  rw [List.getD_eq_getElem?_getD, List.getElem?_eq_getElem hk] at q1
  exact inW_iff.2 ⟨q1.1, by have := q1.2; dsimp only [Option.getD] at this; omega⟩
theorem seg_len0 {α : Type} {l m : List α} (h : m.length = l.length) : seg 0 l.length m = m := by rw [← h]; exact seg_self m
theorem tail_ok {a : Au} {sa lo l : List Int} {n w2 : Int} {K : dens [.b] → Prop} (hA : okA a) (hb : bigs a) (hs : eachB a.1 sa = true) (hl : eachB a.1 lo = true) (hwl : eachB a.1 l = true) (hv : w2 = prodM a.1 sa l) (hn : inR .i64 n = true) (hK : K (true, ())) :
    tailC a sa lo l n (prodM a.1 sa lo) w2 (allM a.1 sa) K := by
  unfold tailC
  have h4 := hA.1.1.2
  have h41 := hA.1.1.1
  obtain ⟨s1, s2⟩ := each_at hs
  obtain ⟨l1, l2⟩ := each_at hl
  obtain ⟨w1, _⟩ := each_at hwl
  have h70 := pow70n h4
  have hp := prodM_bd (st := a.1) sa lo
  have hq := allM_bd (st := a.1) sa
  refine ⟨⟨hb, by omega, by omega⟩, fun n5 m2 e he => ?_⟩
  rw [missF, if_pos hA, if_pos hs, if_pos hwl] at he
  injection he with g1 g2
  injection g2 with g2 g3
  subst g1 g2 g3
  refine fork_iff.2 ⟨fun c => absurd c (by decide), fun _ => fork_iff.2 ⟨fun c => by rw [hv] at c; simp at c, fun _ => ⟨⟨hn, show (1 : Int) ≤ (a.1.length : Int) by omega, show (a.1.length : Int) ≤ 1000000 by omega⟩, fun (r : Int) hr => ⟨by omega, fun sa' hsa => ⟨rfl, by omega, fun lo' hlo => ?_⟩⟩⟩⟩⟩
  subst hsa hlo
  have hr : r = n % (a.1.length : Int) := hr
  have r0 : 0 ≤ r := by rw [hr]; exact Int.emod_nonneg _ (by omega)
  have r1 : r < (a.1.length : Int) := by rw [hr]; exact Int.emod_lt_of_pos _ (show (0 : Int) < (a.1.length : Int) by omega)
  clear hr
  have n2 := hA.1.2 _ (getD_mem (show r.toNat < a.1.length by omega) 0)
  have s2 := s2 r.toNat (by omega)
  have l2 := l2 r.toNat (by omega)
  simp only [Nat.add_zero]
  have d1 : decide (0 ≤ r ∧ r < (sa'.length : Int)) = true := decide_eq_true ⟨r0, by omega⟩
  have d2 : decide (0 ≤ r ∧ r < (lo'.length : Int)) = true := decide_eq_true ⟨r0, by omega⟩
  have d3 : decide (r.toNat < sa'.length) = true := decide_eq_true (by omega)
  have d4 : decide (r.toNat < lo'.length) = true := decide_eq_true (by omega)
  refine req_iff.2 ⟨d1, req_iff.2 ⟨d3, req_iff.2 ⟨inR_i64.2 (by omega), req_iff.2 ⟨d2, req_iff.2 ⟨d4, req_iff.2 ⟨inR_i64.2 (by omega), req_iff.2 ⟨d1, req_iff.2 ⟨d3, fun ys hys => req_iff.2 ⟨d2, req_iff.2 ⟨d4, fun zs hzs => ?_⟩⟩⟩⟩⟩⟩⟩⟩⟩⟩
  have hyl : ys.length = sa'.length := by rw [hys]; simp
  have hzl : zs.length = lo'.length := by rw [hzs]; simp
  have last : req (decide (0 + lo'.length ≤ zs.length)) ((bigs a ∧ sa'.length ≤ 9223372036854775807 ∧ (seg 0 lo'.length zs).length ≤ 9223372036854775807) ∧ ∀ (n m4 e : Int), (n, m4, e) = missF a sa' (seg 0 lo'.length zs) → fork (e == 0) (fork (m4 != allM a.1 sa') (K (false, ())) (fork (decide (n > prodM a.1 sa' lo')) (K (false, ())) (K (true, ())))) (K (true, ()))) := by
    rw [seg_len0 hzl]
    refine req_iff.2 ⟨decide_eq_true (by omega), ⟨hb, by omega, by omega⟩, fun n m4 e he => ?_⟩
    unfold missF at he
    rw [if_pos hA, if_pos hs] at he
    split at he
    · rename_i hE
      injection he with g1 g2
      injection g2 with g2 g3
      subst g1 g2 g3
      refine fork_iff.2 ⟨fun _ => fork_iff.2 ⟨fun c => by simp at c, fun _ => fork_iff.2 ⟨fun c => ?_, fun _ => hK⟩⟩, fun c => absurd c (by decide)⟩
      exfalso
      have c := of_decide_eq_true c
      rw [hzs] at hE c
      have := more_lost hA.1.2 (by omega) hs hl hE
      omega
    · injection he with g1 g2
      injection g2 with g2 g3
      subst g3
      exact fork_iff.2 ⟨fun c => absurd c (by decide), fun _ => hK⟩
  rw [seg_len0 hyl]
  refine req_iff.2 ⟨decide_eq_true (by omega), ⟨hb, by omega, by omega⟩, fun n3 m3 e he => ?_⟩
  unfold missF at he
  rw [if_pos hA] at he
  split at he
  · rename_i hE
    injection he with g1 g2
    injection g2 with g2 g3
    subst g1 g2 g3
    have p2 := prodM_bd (st := a.1) ys lo'
    have q2 := allM_bd (st := a.1) ys
    have m1 := mul_bd p2.1 (Int.le_trans p2.2 h70) hq.1 (Int.le_trans hq.2 h70)
    have m2 := mul_bd hp.1 (Int.le_trans hp.2 h70) q2.1 (Int.le_trans q2.2 h70)
    refine fork_iff.2 ⟨fun _ => req_iff.2 ⟨inR_i64.2 (by omega), req_iff.2 ⟨inR_i64.2 (by omega), fork_iff.2 ⟨fun c => ?_, fun _ => last⟩⟩⟩, fun c => absurd c (by decide)⟩
    exfalso
    have c := of_decide_eq_true c
    rw [hys] at hE c
    have := more_look hA.1.2 (by omega) hs hl hE
    omega
  · injection he with g1 g2
    injection g2 with g2 g3
    subst g3
    exact fork_iff.2 ⟨fun c => absurd c (by decide), fun _ => last⟩
theorem h4 (a : Au) (sa lo : List Int) (n : Int) (K : dens [.b] → Prop) (hb : bigs a) (h2 : sa.length ≤ big) (h3 : lo.length ≤ big) (hn : inR .i64 n = true) (hK : K (true, ())) : xfn1 Try.prog { nm := true, f := [(19, fcWorks), (20, fc20), (23, fc23), (24, fc24w), (25, fc25)], f2 := [(26, fc26)], l2 := [(4, 0, lc4)] } 5 4 fc4 (a, (sa, lo), n, ()) K := by
  rw [v4F]
  have bad : ∀ {k e : Int} {X : Prop}, (k = 0) → e ≠ 0 → fork (e != 0) (fork ((0 : Int) == 0) (fork (k == 0) (K (true, ())) (K (false, ()))) (K (false, ()))) X := fun hk he => by
    subst hk
    exact fork_iff.2 ⟨fun _ => fork_iff.2 ⟨fun _ => fork_iff.2 ⟨fun _ => hK, fun c => absurd c (by decide)⟩, fun c => absurd c (by decide)⟩, fun c => absurd (by simpa using c) he⟩
  refine ⟨⟨hb, h2, h3⟩, fun n1 m e he => ?_⟩
  unfold missF at he
  split at he
  · rename_i hA
    split at he
    · rename_i hs
      split at he
      · rename_i hl
        injection he with g1 g2
        injection g2 with g2 g3
        subst g1 g2 g3
        have h4 := hA.1.1.2
        have h41 := hA.1.1.1
        have hw := worst_spec hA hs
        refine fork_iff.2 ⟨fun c => absurd c (by decide), fun _ => ⟨⟨hA.1, hs, hl, ⟨Int.le_refl 0, show (0 : Int) ≤ (a.1.length : Int) by omega⟩, ⟨show (0 : Int) ≤ 1 by decide, Int.le_refl 1⟩, show (0 : Int) ≤ 1 by decide, Int.le_refl 1⟩, fun p q hp hq => ?_⟩⟩
        have hp : p = 1 * allM a.1 sa := hp
        have hq : q = 1 * prodM a.1 sa lo := hq
        rw [Int.one_mul] at hp hq
        subst hp hq
        refine fork_iff.2 ⟨fun c => by simp at c, fun _ => fork_iff.2 ⟨fun c => by simp at c, fun _ => fork_iff.2 ⟨fun c => ?_, fun _ => ⟨⟨hb, h2⟩, fun l n2 m1 e he => ?_⟩⟩⟩⟩
        · have c : (a.1.length : Int) = 0 := by simpa using c
          omega
        rw [worstV, if_pos hA, if_pos hs] at he
        injection he with g1 g2
        injection g2 with g2 g3
        injection g3 with g3 g4
        subst g4
        have we := hw.each
        have ws := hw.sum
        have wv := hw.val
        have wa := hw.all
        have wm := hw.max
        rw [← g1] at we ws wv
        rw [← g2] at wv wm
        rw [← g3] at wa
        have hll := (each_at we).1
        have tl := tail_ok (K := K) hA hb hs hl we wv hn hK
        unfold tailC at tl
        refine fork_iff.2 ⟨fun c => absurd c (by decide), fun _ => fork_iff.2 ⟨fun c => by rw [wa] at c; simp at c, fun _ => ⟨by omega, fun (sm : Int) hsm => ⟨rfl, fork_iff.2 ⟨fun c => ?_, fun _ => ⟨by omega, fun (sm2 : Int) hsm2 => ⟨rfl, fork_iff.2 ⟨fun c => fork_iff.2 ⟨fun d => ?_, fun _ => tl⟩, fun _ => tl⟩⟩⟩⟩⟩⟩⟩⟩
        · have hsm := hsm (by omega) (each_inW hA.1.2 we)
          rw [hsm, ws] at c; simp at c
        · exfalso
          have hlo := (each_at hl).1
          have hsm2 : sm2 = lo.sum := hsm2 (by omega) (each_inW hA.1.2 hl)
          have c : sm2 = a.2.2.1 := by simpa using c
          have d := of_decide_eq_true d
          have := wm lo hl (by omega)
          omega
      · injection he with g1 g2
        injection g2 with g2 g3
        subst g1
        exact bad g2 (by rw [g3]; decide)
    · injection he with g1 g2
      injection g2 with g2 g3
      subst g1
      exact bad g2 (by rw [g3]; decide)
  · injection he with g1 g2
    injection g2 with g2 g3
    subst g1
    exact bad g2 (by rw [g3]; decide)
end Go.P10
