/- TillCut: whatever is cut into pieces, or done by a linked person, a window that reached the sum reaches it. No conditions. -/
import Derived.Test.YtfenogdjhadcoaaCutS
import Derived.Test.YtfenogdjhadcoaaAlarmP
set_option linter.constructorNameAsVariable false
set_option linter.unusedVariables false
set_option linter.unusedSimpArgs false
set_option maxRecDepth 100000
set_option maxHeartbeats 4000000
namespace Go.P8
open Go.Lom Go.Proofs Go

theorem fk {b : Bool} {P Q : Prop} (h1 : b = true → P) (h2 : b = false → Q) : fork b P Q := fork_iff.2 ⟨h1, h2⟩
theorem rq {b : Bool} {P : Prop} (h1 : b = true) (h2 : P) : req b P := req_iff.2 ⟨h1, h2⟩
theorem h35F (l : List Dl) (k part : Int) (K : fcCut.post.den → Prop) (hl : l.length ≤ 64) (k0 : 0 ≤ k) (k1 : k < l.length) (p0 : 0 ≤ part) (p1 : part ≤ 1073741824) (s0 : 0 ≤ (l.getD k.toNat dl0).2.2) (s1 : (l.getD k.toNat dl0).2.2 ≤ 1073741824)
    (hK : ∀ r : List Dl, r = cutF l k.toNat part → K ((), (), (), r, ())) : xfn2 Try.prog { nm := true } 5 35 fcCut (l, k, part, ()) K := by
  rw [v35F]
  simp only [req_iff, decide_eq_true_eq, List.drop_zero, List.nil_append, Nat.zero_add, List.take_length, true_and, Nat.le_refl, Int.le_refl, and_true]
  rw [show ((0 : Int), (0 : Int), (0 : Int)) = dl0 from rfl]
  have e1 : (l.take k.toNat).length = k.toNat := by rw [List.length_take]; omega
  have e2 : (l.drop (k + 1).toNat).length = l.length - (k.toNat + 1) := by rw [List.length_drop]; omega
  refine ⟨⟨k0, by omega⟩, fits100 (by omega), fun ys hys => ⟨⟨k0, k1⟩, ⟨k0, k1⟩, inR_i64.2 (by omega), inR_i64.2 (by omega), ⟨by omega, by omega⟩, ?_⟩⟩
  subst hys
  refine ⟨Nat.le_refl _, fits100 (by omega), fun zs hzs => ?_⟩
  rw [seg_self] at hzs
  have e3 : zs.length = (l.take k.toNat).length + 2 := by rw [hzs]; simp
  rw [← e3, seg_self]
  refine ⟨Nat.le_refl _, fits100 (by omega), fun us hus => ?_⟩
  have e4 : us.length = zs.length + (l.drop (k + 1).toNat).length := by rw [hus]; simp
  rw [← e4, seg_self]
  refine ⟨Nat.le_refl _, hK us ?_⟩
  rw [hus, hzs, show (k + 1).toNat = k.toNat + 1 by omega]
  unfold cutF
  simp
theorem ok35 : F2Ok Try.prog 35 fcCut := fn2_of (n := 5) (good2_nilN _) fun (l, k, part, ()) K hx => by
  obtain ⟨⟨g1, g2, g3, g4, g5, g6, g7⟩, hK⟩ := hx
  exact h35F l k part K g1 g2 g3 g4 g5 g6 g7 hK

/-- The watch of the law: nothing is small. -/
def wLow (w : Wt) : Wt := (w.1, w.2.1, w.2.1, w.2.2.2)
theorem reas_low {l : List Dl} {ls : List Lk} {w : Wt} {j : Int} (hw : watOk l ls (wLow w) = true) (j0 : 0 ≤ j) (j1 : j < l.length) : (reasonsF l ls (wLow w) j).2 = 0 ↔ w.2.1 ≤ sumOf l (allI (wLow w) l (headOf ls) j) := by
  have hm := (wtOk_iff.1 (wat_iff.1 hw).2.2.2).2.2.2.1
  have hm : 1 ≤ (wLow w).2.2.2 := hm
  rw [reas_zero, rep_low l (headOf ls) j (w := wLow w) rfl hm, decide_eq_true_eq]
  constructor
  · intro h; exact h.2.2
  · intro h; exact ⟨hw, ⟨j0, by omega⟩, h⟩
def tail7 (l : List Dl) (ls : List Lk) (w : Wt) (n : Int × Int × Int × Int) (K : dens [.b] → Prop) (r : List Int) (r_2 r_3 : Int) : Prop :=
  (((0 : Go.Lom.AT.den (Go.Lom.AT.v Go.P8.I)) < (24 : Int) ∧ (24 : Int) ≤ (4611686018427387904 : Go.Lom.AT.den (Go.Lom.AT.v Go.P8.I))) ∧ ∀ (r_5 : Int), r_5 = Prod.fst (Prod.snd (Prod.snd n)) % (24 : Int) → Go.Lom.req (Decidable.decide ((0 : Int) ≤ r_2 ∧ r_2 < (↑(List.length l) : Int))) (∀ (b : Bool), b = Decidable.decide ((0 : Int) ≤ Prod.fst (Prod.snd (List.getD l (Int.toNat r_2) ((0 : Int), (0 : Int), (0 : Int)))) ∧ Prod.fst (Prod.snd (List.getD l (Int.toNat r_2) ((0 : Int), (0 : Int), (0 : Int)))) ≤ (23 : Int)) → Go.Lom.fork (!b) (K (Bool.true, ())) (Go.Lom.req (Decidable.decide ((0 : Int) ≤ r_5 ∧ r_5 < (↑(List.length r) : Int))) (Go.Lom.req (Decidable.decide ((0 : Int) ≤ r_2 ∧ r_2 < (↑(List.length l) : Int))) (Go.Lom.req (Decidable.decide ((0 : Int) ≤ Prod.fst (Prod.snd (List.getD l (Int.toNat r_2) ((0 : Int), (0 : Int), (0 : Int)))) ∧ Prod.fst (Prod.snd (List.getD l (Int.toNat r_2) ((0 : Int), (0 : Int), (0 : Int)))) < (↑(List.length r) : Int))) (Go.Lom.fork (List.getD r (Int.toNat r_5) (0 : Int) != List.getD r (Int.toNat (Prod.fst (Prod.snd (List.getD l (Int.toNat r_2) ((0 : Int), (0 : Int), (0 : Int)))))) (0 : Int)) (K (Bool.true, ())) (Go.Lom.req (Go.Lom.fitsN ((0 : Nat) + List.length l) (24 : Nat)) (∀ (ys : List (Go.Lom.Ty.den (Go.Lom.Ty.pr (Go.Lom.Ty.i Go.IntKind.i64) (Go.Lom.Ty.pr (Go.Lom.Ty.i Go.IntKind.i64) (Go.Lom.Ty.i Go.IntKind.i64))))), ys = [] ++ l → Go.Lom.req (Decidable.decide ((0 : Int) ≤ r_2 ∧ r_2 < (↑((0 : Nat) + List.length l) : Int))) (Go.Lom.req (Decidable.decide (Int.toNat r_2 < List.length ys)) (∀ (ys_1 : List (Go.Lom.Ty.den (Go.Lom.Ty.pr (Go.Lom.Ty.i Go.IntKind.i64) (Go.Lom.Ty.pr (Go.Lom.Ty.i Go.IntKind.i64) (Go.Lom.Ty.i Go.IntKind.i64))))), ys_1 = List.set ys (Int.toNat r_2) (Prod.fst (List.getD ys (Int.toNat r_2) ((0 : Int), (0 : Int), (0 : Int))), r_5, Prod.snd (Prod.snd (List.getD ys (Int.toNat r_2) ((0 : Int), (0 : Int), (0 : Int))))) → Go.Lom.req (Decidable.decide ((0 : Nat) + ((0 : Nat) + List.length l) ≤ List.length ys_1)) ((List.length (Go.Lom.seg (0 : Nat) ((0 : Nat) + List.length l) ys_1) ≤ (9223372036854775807 : Nat) ∧ List.length ls ≤ (9223372036854775807 : Nat)) ∧ ∀ (r : List Int) (e : Int), (r, e) = Go.P8.reasonsF (Go.Lom.seg (0 : Nat) ((0 : Nat) + List.length l) ys_1) ls (Prod.fst w, Prod.fst (Prod.snd w), Prod.fst (Prod.snd w), Prod.snd (Prod.snd (Prod.snd w))) r_3 → Go.Lom.fork (e == (0 : Int)) (K (Bool.true, ())) (K (Bool.false, ())))))))))))))
theorem tail7_ok (l : List Dl) (ls : List Lk) (w : Wt) (n : Int × Int × Int × Int) (K : dens [.b] → Prop) (r2 r3 : Int) (hw : watOk l ls (wLow w) = true) (p : HeadsOk ls (headOf ls)) (g2 : ls.length ≤ big) (a0 : 0 ≤ r2) (a1 : r2 < l.length) (b0 : 0 ≤ r3) (b1 : r3 < l.length)
    (hs : w.2.1 ≤ sumOf l (allI (wLow w) l (headOf ls) r3)) (hK : K (true, ())) : tail7 l ls w n K (headOf ls) r2 r3 := by
  unfold tail7
  have h24 := p.len
  obtain ⟨w1, w2, w3, w4⟩ := wat_iff.1 hw
  have gd : ∀ d ∈ l, dayOk d := dls_all l 0 (by omega) w3
  have dk : dayOk (l.getD r2.toNat ((0, 0, 0) : Dl)) := gd _ (dl_in a0 a1)
  have hk : r2.toNat < l.length := by omega
  have hset := fun (q : Int) (q0 : 0 ≤ q) (q1 : q ≤ 23) => set_dls (l := l) (k := r2.toNat) (p := q) hk w3 q0 q1
  have hsum := fun (q : Int) (e : at' (headOf ls) q = at' (headOf ls) (l.getD r2.toNat dl0).2.1) => set_sum (wLow w) (h := headOf ls) (k := r2.toNat) (p := q) (j := r3) hk b0 b1 e
  rw [show ((0 : Int), (0 : Int), (0 : Int)) = dl0 from rfl]
  rw [show ((0, 0, 0) : Dl) = dl0 from rfl] at dk
  obtain ⟨x1, x2, x3, x4, x5, x6⟩ := dk
  refine ⟨⟨show (0 : Int) < 24 by decide, show (24 : Int) ≤ 4611686018427387904 by decide⟩, fun q hq => ?_⟩
  have q0 : 0 ≤ q ∧ q < 24 := by rw [hq]; exact ⟨Int.emod_nonneg _ (by decide), Int.emod_lt_of_pos _ (by decide)⟩
  simp only [fork_iff, req_iff, decide_eq_true_eq, decide_eq_false_iff_not, Bool.not_eq_true', Bool.not_eq_false', bne_iff_ne, ne_eq, bne_eq_false_iff_eq, beq_iff_eq, beq_eq_false_iff_ne, Nat.zero_add, List.nil_append]
  refine ⟨⟨a0, a1⟩, fun b hb => ⟨fun _ => hK, fun _ => ⟨⟨q0.1, by omega⟩, ⟨a0, a1⟩, ⟨x3, by omega⟩, fun _ => hK, fun e => ⟨fits100 (by omega), fun ys hys => ?_⟩⟩⟩⟩
  subst hys
  refine ⟨⟨a0, a1⟩, hk, fun zs hzs => ?_⟩
  have hz : zs.length = ys.length := by rw [hzs]; simp
  rw [← hz, seg_self]
  have hw2 : watOk zs ls (wLow w) = true := wat_iff.2 ⟨w1, by rw [hz]; exact w2, by rw [hzs]; exact hset q q0.1 (by omega), w4⟩
  refine ⟨Nat.le_refl _, ⟨show zs.length ≤ 9223372036854775807 by omega, g2⟩, fun r e2 hr => ⟨fun _ => hK, fun he => absurd ?_ he⟩⟩
  have h0 : (reasonsF zs ls (wLow w) r3).2 = 0 := (reas_low hw2 b0 (by omega)).2 (by rw [hzs, hsum q e]; exact hs)
  have hr : (r, e2) = reasonsF zs ls (wLow w) r3 := hr
  rw [← hr] at h0; exact h0
theorem dec7 {e e1 n : Int} {K1 K0 : Prop} (h1 : e1 = 0 ∨ e1 = 83) (h2 : (e = 0 ∧ n = 24) ∨ e = e1) (k : K1) : fork (e1 == (0 : Int)) (fork (e == (0 : Int)) (fork (n == (24 : Int)) K1 (fork (e == e1) K1 K0)) (fork (e == e1) K1 K0)) (fork (e1 == (83 : Int)) (fork (e == (0 : Int)) (fork (n == (24 : Int)) K1 (fork (e == e1) K1 K0)) (fork (e == e1) K1 K0)) K0) := by
  simp only [fork_iff, beq_iff_eq, beq_eq_false_iff_ne, ne_eq]
  refine ⟨fun a => ⟨fun b => ⟨fun _ => k, fun c => ⟨fun _ => k, fun d => ?_⟩⟩, fun b => ⟨fun _ => k, fun d => ?_⟩⟩, fun a => ⟨fun a2 => ⟨fun b => ⟨fun _ => k, fun c => ⟨fun _ => k, fun d => ?_⟩⟩, fun b => ⟨fun _ => k, fun d => ?_⟩⟩, fun a2 => ?_⟩⟩
  all_goals exfalso; omega
theorem h7F (l : List Dl) (ls : List Lk) (w : Wt) (n : Int × Int × Int × Int) (K : dens [.b] → Prop) (g1 : l.length ≤ big) (g2 : ls.length ≤ big) (hK : K (true, ())) :
    xfn1 Try.prog { nm := true, f := [(34, fcReas), (33, fcRing), (32, fcAlarms), (31, fcLinked), (26, fcFrom'), (19, fcWorks)], f2 := [(35, fcCut)] } 5 7 fc7 ((l, ls, w), n, ()) K := by
  rw [v7F]
  refine ⟨g2, fun r e hr ho => ⟨⟨g1, g2⟩, fun r1 e1 hr1 => ?_⟩⟩
  have hr1 : (r1, e1) = alarmsR l ls (wLow w) := hr1
  have f1 : e1 = if watOk l ls (wLow w) = true then 0 else 83 := by
    have := congrArg Prod.snd hr1
    unfold alarmsR at this
    split at this
    · rename_i z; rw [if_pos z]; exact this
    · rename_i z; rw [if_neg z]; exact this
  have f0 : (linkedOk ls = true ∧ r = headOf ls ∧ e = 0 ∧ r.length = 24) ∨ (linkedOk ls = false ∧ e = 83) := by
    unfold linkedR at hr
    by_cases z : linkedOk ls = true
    · rw [if_pos z] at hr
      have h1 : r = headOf ls := congrArg Prod.fst hr
      exact .inl ⟨z, h1, congrArg Prod.snd hr, by rw [h1]; exact (ho z).len⟩
    · rw [if_neg z] at hr
      exact .inr ⟨by simpa using z, congrArg Prod.snd hr⟩
  have c1 : e1 = 0 ∨ e1 = 83 := by rw [f1]; split <;> simp
  have c2 : (e = 0 ∧ (r.length : Int) = 24) ∨ e = e1 := by
    rcases f0 with ⟨a, b, c, d⟩ | ⟨a, b⟩
    · exact .inl ⟨c, by omega⟩
    · right
      have : watOk l ls (wLow w) = false := by unfold watOk; rw [a]; rfl
      rw [f1, this, b]; rfl
  refine fk (fun _ => dec7 c1 c2 hK) fun z0 => fk (fun _ => dec7 c1 c2 hK) fun z1 => fk (fun _ => dec7 c1 c2 hK) fun z2 => fk (fun _ => dec7 c1 c2 hK) fun z3 => ?_
  simp only [bne_eq_false_iff_eq, beq_eq_false_iff_ne, ne_eq] at z0 z1 z2 z3
  have hw : watOk l ls (wLow w) = true := by
    by_cases z : watOk l ls (wLow w) = true
    · exact z
    · rw [if_neg z] at f1; omega
  obtain ⟨w1, w2, w3, w4⟩ := wat_iff.1 hw
  have hrh : r = headOf ls := by
    rcases f0 with ⟨a, b, c, d⟩ | ⟨a, b⟩
    · exact b
    · omega
  subst hrh
  have p := ho w1
  have hpos : (0 : Int) < (l.length : Int) := by omega
  have hbig : (l.length : Int) ≤ 4611686018427387904 := by omega
  refine ⟨⟨hpos, hbig⟩, fun a ha => ⟨rfl, rfl, rfl, ⟨hpos, hbig⟩, fun j hj => ⟨⟨g1, g2⟩, fun r4 e4 hr4 => ?_⟩⟩⟩
  have a0 : 0 ≤ a ∧ a < l.length := by rw [ha]; exact ⟨Int.emod_nonneg _ (by omega), Int.emod_lt_of_pos _ hpos⟩
  have j0 : 0 ≤ j ∧ j < l.length := by rw [hj]; exact ⟨Int.emod_nonneg _ (by omega), Int.emod_lt_of_pos _ hpos⟩
  have hr4 : (r4, e4) = reasonsF l ls (wLow w) j := hr4
  have he4 : e4 = (reasonsF l ls (wLow w) j).2 := congrArg Prod.snd hr4
  refine fk (fun z => fk (fun _ => hK) fun z4 => ?_) fun z => rq (decide_eq_true a0) ?_
  · exfalso
    simp only [bne_iff_ne, ne_eq, beq_eq_false_iff_ne] at z z4
    have : (reasonsF l ls (wLow w) j).2 = 0 ∨ (reasonsF l ls (wLow w) j).2 = 4 := by
      unfold reasonsF
      rw [if_pos hw, if_pos ⟨j0.1, by omega⟩]
      split
      · split <;> simp
      · simp
    omega
  simp only [bne_eq_false_iff_eq] at z
  have hs : w.2.1 ≤ sumOf l (allI (wLow w) l (headOf ls) j) := (reas_low hw j0.1 j0.2).1 (by rw [← he4]; exact z)
  have tail := tail7_ok l ls w n K a j hw p g2 a0.1 a0.2 j0.1 j0.2 hs hK
  have gd : ∀ d ∈ l, dayOk d := dls_all l 0 (by omega) w3
  have dk : dayOk (l.getD a.toNat dl0) := gd _ (dl_in a0.1 a0.2)
  have hk : a.toNat < l.length := by omega
  refine fk (fun s1 => fk (fun s2 => fk (fun s3 => ?_) fun s3 => ?_) fun _ => tail) fun _ => tail
  all_goals
    simp only [decide_eq_true_eq, decide_eq_false_iff_not] at s1 s2 s3
    have s1 : 1 < (l.getD a.toNat dl0).2.2 := s1
    have x6 := dk.2.2.2.2.2
    have cutok : ∀ part : Int, 1 ≤ part → part < (l.getD a.toNat dl0).2.2 → (reasonsF (cutF l a.toNat part) ls (wLow w) (if (a.toNat : Int) ≤ j then j + 1 else j)).2 = 0 := fun part q0 q1 => by
      have hl := cut_len part hk
      have hw2 : watOk (cutF l a.toNat part) ls (wLow w) = true := wat_iff.2 ⟨w1, by rw [hl]; omega, cut_dls hk w3 q0 q1, w4⟩
      refine (reas_low hw2 (by split <;> omega) (by rw [hl]; split <;> omega)).2 ?_
      rw [cut_sum (wLow w) (headOf ls) part hk j0.1 j0.2]; exact hs
  · refine rq (inR_i64.2 (by omega)) (rq (decide_eq_true a0) (rq (inR_i64.2 (show _ ≤ (l.getD a.toNat dl0).2.2 - 1 ∧ (l.getD a.toNat dl0).2.2 - 1 ≤ _ by omega)) ⟨⟨show (0 : Int) < (l.getD a.toNat dl0).2.2 - 1 by omega, show (l.getD a.toNat dl0).2.2 - 1 ≤ (4611686018427387904 : Int) by omega⟩, fun c hc => ⟨rfl, rfl, rfl, ?_⟩⟩))
    have c0 : 0 ≤ c ∧ c < (l.getD a.toNat dl0).2.2 - 1 := by rw [hc]; exact ⟨Int.emod_nonneg _ (show (l.getD a.toNat dl0).2.2 - 1 ≠ 0 by omega), Int.emod_lt_of_pos _ (show 0 < (l.getD a.toNat dl0).2.2 - 1 by omega)⟩
    refine rq (inR_i64.2 (by omega)) ⟨⟨w2, a0.1, a0.2, show (0 : Int) ≤ 1 + c by omega, show (1 : Int) + c ≤ 1073741824 by omega, show (0 : Int) ≤ (l.getD a.toNat dl0).2.2 by omega, x6⟩, fun r6 hr6 => ⟨rfl, rfl, ?_⟩⟩
    have hl : r6.length = l.length + 1 := by rw [hr6]; exact cut_len _ hk
    rw [seg_self]
    refine rq (by simp) ⟨⟨show r6.length ≤ 9223372036854775807 by omega, g2⟩, fun r7 e7 hr7 => fk (fun z7 => absurd ?_ (by simpa using z7)) fun _ => tail⟩
    have := cutok (1 + c) (by omega) (by omega)
    rw [if_pos (by omega), ← hr6] at this
    have hr7 : (r7, e7) = reasonsF r6 ls (wLow w) (j + 1) := hr7
    rw [← hr7] at this; exact this
  · refine rq (decide_eq_true a0) (rq (inR_i64.2 (show _ ≤ (l.getD a.toNat dl0).2.2 - 1 ∧ (l.getD a.toNat dl0).2.2 - 1 ≤ _ by omega)) ⟨⟨show (0 : Int) < (l.getD a.toNat dl0).2.2 - 1 by omega, show (l.getD a.toNat dl0).2.2 - 1 ≤ (4611686018427387904 : Int) by omega⟩, fun c hc => ⟨rfl, rfl, rfl, ?_⟩⟩)
    have c0 : 0 ≤ c ∧ c < (l.getD a.toNat dl0).2.2 - 1 := by rw [hc]; exact ⟨Int.emod_nonneg _ (show (l.getD a.toNat dl0).2.2 - 1 ≠ 0 by omega), Int.emod_lt_of_pos _ (show 0 < (l.getD a.toNat dl0).2.2 - 1 by omega)⟩
    refine rq (inR_i64.2 (by omega)) ⟨⟨w2, a0.1, a0.2, show (0 : Int) ≤ 1 + c by omega, show (1 : Int) + c ≤ 1073741824 by omega, show (0 : Int) ≤ (l.getD a.toNat dl0).2.2 by omega, x6⟩, fun r6 hr6 => ⟨rfl, rfl, ?_⟩⟩
    have hl : r6.length = l.length + 1 := by rw [hr6]; exact cut_len _ hk
    rw [seg_self]
    refine rq (by simp) ⟨⟨show r6.length ≤ 9223372036854775807 by omega, g2⟩, fun r7 e7 hr7 => fk (fun z7 => absurd ?_ (by simpa using z7)) fun _ => tail⟩
    have := cutok (1 + c) (by omega) (by omega)
    rw [if_neg (by omega), ← hr6] at this
    have hr7 : (r7, e7) = reasonsF r6 ls (wLow w) j := hr7
    rw [← hr7] at this; exact this
theorem ok7 : FnOk Try.prog 7 fc7 := fn1_of (n := 5) ((((((((good2_nilN _).addF2 ok35).addF okWorks').addF ok26').addF ok31).addF ok32).addF ok33).addF ok34) fun ((l, ls, w), n, ()) K hx => h7F l ls w n K hx.1.1 hx.1.2 hx.2
end Go.P8
