/- Purses: acts of the program: the code keeps its contracts. No conditions. -/
import Derived.Test.YtnjaebjhfilljaaActS
set_option linter.constructorNameAsVariable false
set_option linter.unusedVariables false
set_option linter.unusedSimpArgs false
set_option maxRecDepth 100000
set_option maxHeartbeats 4000000
namespace Go.P7
open Go.Lom Go.Proofs Go

theorem seg_self {α : Type} (l : List α) : seg 0 l.length l = l := seg_all l
theorem seg_exact {α : Type} {n : Nat} {l : List α} (h : n = l.length) : seg 0 n l = l := by rw [h, seg_self]
theorem fits100 {n b : Nat} (h : n ≤ 1100) (hb : b ≤ 200 := by omega) : fitsN n b = true := by
  have : n * b ≤ 1100 * 200 := Nat.mul_le_mul h hb
  simp only [fitsN, Bool.and_eq_true, Nat.ble_eq]
  exact ⟨by omega, by unfold maxLen; omega⟩
theorem ok47' : FnOk Try.prog 47 fc47' := fun x K hx => ok47 x K ⟨hx.1, hx.2 _ rfl⟩
theorem okShare' : FnOk Try.prog 49 fcShare' := fun x K hx => ok49 x K ⟨⟨hx.1.1, hx.1.2⟩, hx.2⟩

/-! Give -/
section
variable {s : PS} {d : Int} {w : List Int}
theorem give34 (h : ¬ (0 ≤ d ∧ d ≤ 36500 ∧ s.1 ≤ d)) : giveI s d w = (s, [], 34) := by unfold giveI dayOk; rw [if_pos (decide_eq_false h)]
theorem give70 (h : 0 ≤ d ∧ d ≤ 36500 ∧ s.1 ≤ d) (hw : validW w = false) : giveI s d w = (s, [], 70) := by unfold giveI dayOk; rw [if_neg (by rw [decide_eq_true h]; decide), if_pos hw]
theorem give0 (h : 0 ≤ d ∧ d ≤ 36500 ∧ s.1 ≤ d) (hw : validW w = true) : giveI s d w = (noted s 4 d s.2.1 0 s.2.2.2.1, shareL w s.2.1, 0) := by unfold giveI dayOk; rw [if_neg (by rw [decide_eq_true h]; decide), if_neg (by rw [hw]; decide)]
end
theorem ok45 : F2Ok Try.prog 45 fcGive := fn2_of (n := 8) (((good2_nilN _).addF okShare').addF ok47') fun ((ss, ns, dy, wf, t, m, rdy, ()), d, w, ()) K hx => by
  obtain ⟨⟨g1, g2, g3, g4⟩, hK⟩ := hx
  have g2 : rdy = true := g2
  subst g2
  have hb := (okP_bd g1).1
  have hr : ns.length ≤ 1000 := g3
  have hd := g1.day
  simp only at hd
  show xfn2 Try.prog { nm := true, f := [(47, fc47'), (49, fcShare')] } 8 45 fcGive ((ss, ns, dy, wf, t, m, true, ()), d, w, ()) K
  rw [v45F]
  have bad : ∀ e, giveI (dy, wf, t, ss, ns) d w = ((dy, wf, t, ss, ns), [], e) → K ((ss, ns, dy, wf, t, m, true, ()), (), (), [], e, ()) := fun e he => hK ss ns dy wf [] e he.symm
  simp only [fork_iff, req_iff, decide_eq_true_eq, decide_eq_false_iff_not, Bool.not_eq_true', Bool.not_eq_false', ge_iff_le, Nat.zero_add, seg_self, Nat.le_refl, true_and]
  refine ⟨fun h0 => ⟨fun h1 => ⟨fun h2 => bad 34 (give34 (by simp only; omega)), fun h2 => ⟨g4, fun b hb1 => ⟨fun hf => bad 70 (give70 ⟨h0, h1, h2⟩ (hb1.symm.trans hf)), fun hf => ⟨⟨hb1.symm.trans hf, hb.1, Int.le_trans hb.2 (by decide)⟩, fun r hr1 => ⟨fits100 (by omega), fun ys hys => ?_⟩⟩⟩⟩⟩, fun h1 => bad 34 (give34 (by simp only; omega))⟩, fun h0 => bad 34 (give34 (by simp only; omega))⟩
  have hl : ns.length + 1 = ys.length := by rw [hys]; simp
  rw [seg_exact hl]
  refine ⟨by omega, hK ss ys d 0 r 0 ?_⟩
  rw [give0 ⟨h0, h1, h2⟩ (hb1.symm.trans hf)]
  simp only [noted]
  rw [hr1, hys]

/-! Pay -/
section
variable {s : PS} {d : Int} {p : Tx}
theorem pay34 (h : ¬ (0 ≤ d ∧ d ≤ 36500 ∧ s.1 ≤ d)) : payI s d p = (s, 0, 34) := by unfold payI dayOk; rw [if_pos (decide_eq_false h)]
theorem pay73a (h : 0 ≤ d ∧ d ≤ 36500 ∧ s.1 ≤ d) (hi : ixS s.2.2.2.1 p < 0) : payI s d p = (s, 0, 73) := by unfold payI dayOk; rw [if_neg (by rw [decide_eq_true h]; decide), if_pos hi]
theorem pay73b (h : 0 ≤ d ∧ d ≤ 36500 ∧ s.1 ≤ d) (hi : ¬ ixS s.2.2.2.1 p < 0) (hb : ¬ ((s.2.2.2.1.getD (ixS s.2.2.2.1 p).toNat U0).2.2.2.1 = 1 ∧ d < (s.2.2.2.1.getD (ixS s.2.2.2.1 p).toNat U0).2.2.1 + s.2.2.1)) : payI s d p = (s, 0, 73) := by
  unfold payI dayOk; rw [if_neg (by rw [decide_eq_true h]; decide), if_neg hi, if_pos]
  cases hc : (heldB (s.2.2.2.1.getD (ixS s.2.2.2.1 p).toNat U0) && !passB s.2.2.1 d (s.2.2.2.1.getD (ixS s.2.2.2.1 p).toNat U0)) with
  | false => rfl
  | true =>
    simp only [heldB, passB, Bool.and_eq_true, decide_eq_true_eq, Bool.not_eq_true', decide_eq_false_iff_not, Int.not_le] at hc
    exact absurd hc hb
theorem pay0 (h : 0 ≤ d ∧ d ≤ 36500 ∧ s.1 ≤ d) (hi : ¬ ixS s.2.2.2.1 p < 0) (hb : (s.2.2.2.1.getD (ixS s.2.2.2.1 p).toNat U0).2.2.2.1 = 1 ∧ d < (s.2.2.2.1.getD (ixS s.2.2.2.1 p).toNat U0).2.2.1 + s.2.2.1) : payI s d p = (noted s 2 d (s.2.2.2.1.getD (ixS s.2.2.2.1 p).toNat U0).2.1 s.2.1 (s.2.2.2.1.set (ixS s.2.2.2.1 p).toNat (overI (s.2.2.2.1.getD (ixS s.2.2.2.1 p).toNat U0) 2 d)), (s.2.2.2.1.getD (ixS s.2.2.2.1 p).toNat U0).2.1, 0) := by
  unfold payI dayOk; rw [if_neg (by rw [decide_eq_true h]; decide), if_neg hi, if_neg]
  simp only [heldB, passB, Bool.not_eq_false, Bool.and_eq_true, decide_eq_true_eq, Bool.not_eq_true', decide_eq_false_iff_not, Int.not_le]
  exact hb
end
theorem set_twice {ss ys ys1 : List Su} {i : Nat} {st d : Int} (hi : i < ss.length) (h1 : ys = ss.set i ((ss.getD i U0).1, (ss.getD i U0).2.1, (ss.getD i U0).2.2.1, st, (ss.getD i U0).2.2.2.2)) (h2 : ys1 = ys.set i ((ys.getD i U0).1, (ys.getD i U0).2.1, (ys.getD i U0).2.2.1, (ys.getD i U0).2.2.2.1, d)) :
    ys.length = ss.length ∧ ys1.length = ss.length ∧ ys1 = ss.set i (overI (ss.getD i U0) st d) ∧ (ys1.getD i U0).2.1 = (ss.getD i U0).2.1 := by
  have e : ys.getD i U0 = ((ss.getD i U0).1, (ss.getD i U0).2.1, (ss.getD i U0).2.2.1, st, (ss.getD i U0).2.2.2.2) := by
    rw [h1, List.getD_eq_getElem?_getD, List.getElem?_set_self hi]; rfl
  rw [e] at h2
  have e2 : ys1 = ss.set i (overI (ss.getD i U0) st d) := by rw [h2, h1, List.set_set]; rfl
  refine ⟨by rw [h1, List.length_set], by rw [e2, List.length_set], e2, ?_⟩
  rw [e2, List.getD_eq_getElem?_getD, List.getElem?_set_self hi]; rfl
theorem h44F (ss : List Su) (ns : List Nt) (dy wf t : Int) (m : List (Tx × Int)) (d : Int) (p : Tx) (K : fcPay.post.den → Prop) (g1 : okP (dy, wf, t, ss, ns)) (hr : ns.length ≤ 1000) (hm : mapS m ss)
    (hK : ∀ (ss1 : List Su) (ns1 : List Nt) (dy1 wf1 : Int) (n e : Int), ((dy1, wf1, t, ss1, ns1), n, e) = payI (dy, wf, t, ss, ns) d p → K ((ss1, ns1, dy1, wf1, t, m, true, ()), (), (), n, e, ())) :
    xfn2 Try.prog { nm := true } 8 44 fcPay ((ss, ns, dy, wf, t, m, true, ()), d, p, ()) K := by
  rw [v44F]
  have bad : ∀ e, payI (dy, wf, t, ss, ns) d p = ((dy, wf, t, ss, ns), 0, e) → K ((ss, ns, dy, wf, t, m, true, ()), (), (), 0, e, ()) := fun e he => hK ss ns dy wf 0 e he.symm
  have ht := g1.term
  have hl := g1.len
  have hsu := g1.su
  simp only at ht hl hsu
  rw [hm p]
  by_cases hi : ixS ss p < 0
  · rw [if_pos hi]
    simp only [fork_iff, req_iff, decide_eq_true_eq, decide_eq_false_iff_not, Bool.not_eq_true', Bool.not_eq_false', ge_iff_le, Nat.zero_add, seg_self, Nat.le_refl, true_and, Option.isSome_none]
    refine ⟨fun h0 => ⟨fun h1 => ⟨fun h2 => bad 34 (pay34 (by simp only; omega)), fun h2 => ⟨fun _ => bad 73 (pay73a ⟨h0, h1, h2⟩ hi), fun h => by cases h⟩⟩, fun h1 => bad 34 (pay34 (by simp only; omega))⟩, fun h0 => bad 34 (pay34 (by simp only; omega))⟩
  · rw [if_neg hi]
    obtain ⟨i0, i1, i2⟩ := ixS_at hi
    have hlt : (ixS ss p).toNat < ss.length := by omega
    have hx := hsu _ (getSu_mem hlt)
    have p73 := fun (h : 0 ≤ d ∧ d ≤ 36500 ∧ dy ≤ d) hb => bad 73 (pay73b (s := (dy, wf, t, ss, ns)) (d := d) (p := p) h hi hb)
    have p0 := fun (h : 0 ≤ d ∧ d ≤ 36500 ∧ dy ≤ d) hb => pay0 (s := (dy, wf, t, ss, ns)) (d := d) (p := p) h hi hb
    simp only at p73 p0
    simp only [fork_iff, req_iff, decide_eq_true_eq, decide_eq_false_iff_not, beq_iff_eq, beq_eq_false_iff_ne, ne_eq, Bool.not_eq_true', Bool.not_eq_false', ge_iff_le, Nat.zero_add, seg_self, Nat.le_refl, true_and, Option.isSome_some, Option.getD_some]
    rw [show (([], 0, 0, 0, 0) : Su) = U0 from rfl]
    generalize hix : (ixS ss p).toNat = i at *
    have hx1 := hx.day
    have hx2 := hx.sum
    refine ⟨fun h0 => ⟨fun h1 => ⟨fun h2 => bad 34 (pay34 (by simp only; omega)), fun h2 => ⟨fun h => (by cases h), fun _ => ⟨⟨i0, i1⟩, hlt, ⟨fun hs => ⟨hlt, inR_i64.2 (by omega), ⟨fun hp => p73 ⟨h0, h1, h2⟩ (fun e => absurd e.2 (by simp only [Int.not_lt]; exact hp)), fun hp => ⟨hlt, fun ys hys => ⟨by rw [hys, List.length_set]; exact hlt, fun ys1 hys1 => ?_⟩⟩⟩⟩, fun hs => p73 ⟨h0, h1, h2⟩ (fun e => hs e.1)⟩⟩⟩⟩, fun h1 => bad 34 (pay34 (by simp only; omega))⟩, fun h0 => bad 34 (pay34 (by simp only; omega))⟩
    obtain ⟨l1, l2, e1, e2⟩ := set_twice hlt hys hys1
    have fin : ∀ zs : List Nt, zs = ns ++ [(2, d, (ss.getD i U0).2.1)] → K ((ys1, zs, d, wf, t, m, true, ()), (), (), (ss.getD i U0).2.1, 0, ()) := fun zs hz => by
      refine hK ys1 zs d wf _ 0 ?_
      rw [p0 ⟨h0, h1, h2⟩ ⟨hs, by simp only [Int.not_le] at hp; exact hp⟩]
      simp only [noted]
      rw [hz, e1]
    rw [e2, l2]
    have rs : ∀ zs : List Nt, zs = ns ++ [(2, d, (ss.getD i U0).2.1)] → ns.length + 1 = zs.length := fun zs hz => by rw [hz]; simp
    refine ⟨hlt, fits100 (by omega), fun zs hz => ?_⟩
    have hzl := rs zs hz
    rw [seg_exact hzl, seg_exact l2.symm]
    exact ⟨by omega, by omega, fin zs hz⟩
theorem ok44 : F2Ok Try.prog 44 fcPay := fn2_of (n := 8) (good2_nilN _) fun ((ss, ns, dy, wf, t, m, rdy, ()), d, p, ()) K hx => by
  obtain ⟨⟨g1, g2, g3, g4⟩, hK⟩ := hx
  have g2 : rdy = true := g2
  subst g2
  exact h44F ss ns dy wf t m d p K g1 g3 g4 hK
end Go.P7
