/- Funds: a fund that is better in something: the code keeps its contracts; the law. No conditions. -/
import Derived.Test.YtklleedcdjkpeaaBetterL
import Derived.Test.YtklleedcdjkpeaaLawsP
import Derived.Test.YtklleedcdjkpeaaBeginL
set_option linter.constructorNameAsVariable false
set_option linter.unusedVariables false
set_option linter.unusedSimpArgs false
set_option maxRecDepth 100000
namespace Go.P9
open Go.Lom Go.Proofs Go

theorem h33G (n m : Int) (K : dens [I] → Prop) : (m ≤ 4611686018427387904 ∧ ∀ r : Int, (0 < m → 0 ≤ r ∧ r < m) → (m ≤ 0 → r = 0) → K (r, ())) → xfn1 Try.prog {} 5 33 fcRing2 (n, m, ()) K := by
  intro ⟨hm, hK⟩
  rw [v33G]
  simp only [fork_iff, req_iff, decide_eq_true_eq, decide_eq_false_iff_not]
  refine ⟨fun h => hK 0 (fun h2 => by omega) (fun _ => rfl), fun h => ?_⟩
  have h1 : n.tmod m < m := Int.tmod_lt_of_pos n (by omega)
  have h2 : -m < n.tmod m := Int.lt_tmod_of_pos n (by omega)
  have h3 : 0 ≤ (n.tmod m + m).tmod m := Int.tmod_nonneg m (by omega)
  have h4 : (n.tmod m + m).tmod m < m := Int.tmod_lt_of_pos _ (by omega)
  exact ⟨by omega, inR_i64.2 (by omega), by omega, hK _ (fun _ => ⟨h3, h4⟩) fun _ => by omega⟩
theorem ok33G : FnOk Try.prog 33 fcRing2 := fn1_of (n := 5) (good2_nil _) fun (n, m, ()) K hx => h33G n m K hx

theorem way_in {f : Fd} {w : Int × Int × Int} (hw : w ∈ fWays f) (h0 : 0 ≤ w.2.2) (h1 : w.2.2 ≤ 12) {r : Int} (r0 : 0 ≤ r) : wayIn (fWays f) (w.1, w.2.1, if w.2.2 + r < 12 then w.2.2 + r else 12) :=
  ⟨w, hw, rfl, rfl, by show w.2.2 ≤ (if w.2.2 + r < 12 then w.2.2 + r else 12); split <;> omega, by show (if w.2.2 + r < 12 then w.2.2 + r else 12) ≤ 12; split <;> omega⟩
theorem seg1 {α : Type} (x : α) : seg 0 1 [x] = [x] := rfl
theorem seg_app6 {α : Type} (b : List α) (x : α) : seg 0 (b.length + [x].length) (b ++ [x]) = b ++ [x] := seg_all' (by simp)
theorem seg_len6 {α : Type} (b : List α) (x : α) : b.length + [x].length ≤ (b ++ [x]).length := by simp
theorem fits24 {α : Type} {b : List α} {x : α} (h : b.length ≤ 100) : fitsN (b.length + [x].length) 24 = true := by
  have hm : maxLen = 9223372036854775807 := rfl
  have : [x].length = 1 := rfl
  simp only [fitsN, Bool.and_eq_true, Nat.ble_eq]
  omega
theorem h28b {a r : Int} (h0 : 0 ≤ a) (h1 : a ≤ 12) (r0 : 0 ≤ r) (r1 : r < 2) : -9223372036854775808 ≤ a + r ∧ a + r ≤ 9223372036854775807 := by omega
theorem h28s {f : Fd} {n : N3} {z : Fd} {c : Int} {l1 : List (Int × Int)} {l2 l3 : List Int} {l4 : List (Int × Int)} {l5 ws : List (Int × Int × Int)} {b k i : Int} {Q : LQ} {v : Int × Int × Int}
    (h : 0 ≤ i ∧ i + 1 ≤ (fWays f).length ∧ (fWays f).length ≤ 24 ∧ (ws.length : Int) ≤ i ∧ (∀ w ∈ ws, wayIn (fWays f) w) ∧ ∀ w ∈ fWays f, 0 ≤ w.2.2 ∧ w.2.2 ≤ 12) (hv : wayIn (fWays f) v)
    (hQ : ∀ r : List (Int × Int × Int), wayBet (fWays f) r → Q (.exit 1) (stS 3 sh28e (z, (c, l1, l2, l3, l4, l5, r, b, k, ()), ()))) : s28 f n z c l1 l2 l3 l4 l5 (ws ++ [v]) b k (i + 1) Q := by
  obtain ⟨h0, h1, h2, h3, h4, h5⟩ := h
  refine ⟨⟨by omega, h1, h2, by simp; omega, fun x hx => ?_, h5⟩, hQ⟩
  rcases List.mem_append.1 hx with hx | hx
  · exact h4 x hx
  · rw [List.mem_singleton.1 hx]; exact hv
theorem h28a (f : Fd) (n : N3) (z : Fd) (c : Int) (l1 : List (Int × Int)) (l2 l3 : List Int) (l4 : List (Int × Int)) (l5 ws : List (Int × Int × Int)) (b k i : Int) (Q : LQ) : s28 f n z c l1 l2 l3 l4 l5 ws b k i Q →
    xloop2 Try.prog { f := [(33, fcRing2)], wr := true } 5 28 0 lc28 (fun _ => some (sh28e, 3)) (fun (f, _, _, _, i, _) => mL (fWays f) i) (f, n, z, (c, l1, l2, l3, l4, l5, ws, b, k, ()), i, ()) Q := by
  intro ⟨⟨h0, h1, h2, h3, h4, h5⟩, hQ⟩
  rw [v28a]
  have hs : ∀ (l : List (Int × Int × Int)), seg 0 l.length l = l := fun l => seg_all' rfl
  simp only [seg1, hs, seg_app6, fork_iff, req_iff, decide_eq_true_eq, decide_eq_false_iff_not, Nat.zero_add]
  refine ⟨fun hi => ⟨⟨h0, hi⟩, by omega, fun r hr _ => ?_⟩, fun hi => ⟨Nat.le_refl _, hQ ws ⟨by omega, h4⟩⟩⟩
  have hi : i < (fWays f).length := hi
  have hw : (fWays f).getD i.toNat (0, 0, 0) ∈ fWays f := mem_getD (by omega) _
  have hd := h5 _ hw
  have e1 : wrapA .i64 (i + 1) = i + 1 := wrapA_in (inR_i64.2 (by omega))
  rw [e1]
  have hm := mL_lt hi
  refine ⟨fun hr0 => ⟨Nat.le_refl _, hm, show s28 f n z c l1 l2 l3 l4 l5 ws b k (i + 1) Q from ⟨⟨by omega, by omega, h2, by omega, h4, h5⟩, hQ⟩⟩, fun hr0 => ⟨by omega, fun r2 hr2 _ => ⟨trivial, ?_⟩⟩⟩
  have hr2 := hr2 (show (0 : Int) < 2 by omega)
  rw [wrapA_in (inR_i64.2 (h28b hd.1 hd.2 hr2.1 hr2.2))]
  exact ⟨Nat.le_refl _, fits24 (by omega), seg_len6 _ _, hm, h28s ⟨h0, by omega, h2, by omega, h4, h5⟩ (way_in hw hd.1 hd.2 hr2.1) hQ⟩
theorem ok28a : Lp2Ok Try.prog 28 0 lc28 := lp2_of (n := 5) (ex := fun _ => some (sh28e, 3)) (m := fun (f, _, _, _, i, _) => mL (fWays f) i) ((good2_nilW _).addF ok33G) fun (f, n, z, (c, l1, l2, l3, l4, l5, ws, b, k, ()), i, ()) Q hx => h28a f n z c l1 l2 l3 l4 l5 ws b k i Q hx

/-! what is better -/
theorem spanBet_refl {l : List (Int × Int)} (h : ∀ j : Nat, j < l.length → (l.getD j (0, 0)).1 ≤ (l.getD j (0, 0)).2) : spanBet l l := ⟨rfl, fun j hj => ⟨Int.le_refl _, h j hj, rfl⟩⟩
theorem spanBet_set {l : List (Int × Int)} (h : ∀ j : Nat, j < l.length → (l.getD j (0, 0)).1 ≤ (l.getD j (0, 0)).2) {k : Nat} {x : Int} (h0 : (l.getD k (0, 0)).1 ≤ x) (h1 : x ≤ (l.getD k (0, 0)).2) : spanBet l (l.set k (x, (l.getD k (0, 0)).2)) := by
  refine ⟨List.length_set .., fun j hj => ?_⟩
  by_cases e : k = j
  · subst e
    have : (l.set k (x, (l.getD k (0, 0)).2)).getD k (0, 0) = (x, (l.getD k (0, 0)).2) := by simp [List.getD_eq_getElem?_getD, List.getElem?_set_self hj]
    rw [this]; exact ⟨h0, h1, rfl⟩
  · have : (l.set k (x, (l.getD k (0, 0)).2)).getD j (0, 0) = l.getD j (0, 0) := by simp [List.getD_eq_getElem?_getD, List.getElem?_set_ne e]
    rw [this]; exact ⟨Int.le_refl _, h j hj, rfl⟩
theorem grpBet_set {l : List (Int × Int × Int)} (h : ∀ j : Nat, j < l.length → 0 ≤ (l.getD j (0, 0, 0)).1 ∧ 0 ≤ (l.getD j (0, 0, 0)).2.1) {k : Nat} {x y : Int} (h0 : 0 ≤ x) (h1 : x ≤ (l.getD k (0, 0, 0)).1) (h2 : 0 ≤ y) (h3 : y ≤ (l.getD k (0, 0, 0)).2.1) : grpBet l (l.set k (x, y, (l.getD k (0, 0, 0)).2.2)) := by
  refine ⟨List.length_set .., fun j hj => ?_⟩
  by_cases e : k = j
  · subst e
    have : (l.set k (x, y, (l.getD k (0, 0, 0)).2.2)).getD k (0, 0, 0) = (x, y, (l.getD k (0, 0, 0)).2.2) := by simp [List.getD_eq_getElem?_getD, List.getElem?_set_self hj]
    rw [this]; exact ⟨h0, h1, h2, h3, rfl⟩
  · have : (l.set k (x, y, (l.getD k (0, 0, 0)).2.2)).getD j (0, 0, 0) = l.getD j (0, 0, 0) := by simp [List.getD_eq_getElem?_getD, List.getElem?_set_ne e]
    have h := h j hj
    rw [this]; exact ⟨h.1, Int.le_refl _, h.2, Int.le_refl _, rfl⟩
structure Fits (f : Fd) : Prop where
  cash : 0 ≤ fCash f ∧ fCash f ≤ 1099511627776
  inn : ∀ j : Nat, j < (fIn f).length → 0 ≤ ((fIn f).getD j (0, 0)).1 ∧ ((fIn f).getD j (0, 0)).1 ≤ ((fIn f).getD j (0, 0)).2 ∧ ((fIn f).getD j (0, 0)).2 ≤ 1073741824
  pri : ∀ j : Nat, j < (fPrices f).length → 0 ≤ ((fPrices f).getD j (0, 0)).1 ∧ ((fPrices f).getD j (0, 0)).1 ≤ ((fPrices f).getD j (0, 0)).2 ∧ ((fPrices f).getD j (0, 0)).2 ≤ 1048576
  grp : ∀ j : Nat, j < (fGroups f).length → (0 ≤ ((fGroups f).getD j (0, 0, 0)).1 ∧ ((fGroups f).getD j (0, 0, 0)).1 ≤ 1073741824) ∧ (0 ≤ ((fGroups f).getD j (0, 0, 0)).2.1 ∧ ((fGroups f).getD j (0, 0, 0)).2.1 ≤ 1073741824)
  way : ∀ w ∈ fWays f, 0 ≤ w.2.2 ∧ w.2.2 ≤ 12
  beg : 0 ≤ fBegin f ∧ fBegin f ≤ 8
  bars : 0 ≤ fBars f ∧ fBars f ≤ 64
  len : (fIn f).length ≤ 12 ∧ (fPrices f).length ≤ 12 ∧ (fGroups f).length ≤ 8 ∧ (fWays f).length ≤ 24
theorem fits_of {f : Fd} (hf : okF f = true) : Fits f := by
  obtain ⟨a1, a2, a3, a4, a5⟩ := okF_parts hf
  have hA := okA_iff.1 a1
  have hB := okB_iff.1 a3
  have hd : ∀ j : Nat, j < (fIn f).length → _ := fun j hj => by
    have h := daysOk_iff.1 a2 j hj
    unfold dayOk at h
    simp only [Bool.and_eq_true, spanB_iff, decide_eq_true_eq] at h
    exact h
  refine ⟨by omega, fun j hj => (hd j hj).1, fun j hj => (hd j (by omega)).2.2.2, fun j hj => ?_, fun w hw => ?_, by omega, by omega, by omega⟩
  · have h := grpOk_iff.1 ((all_getD (0, 0, 0)).1 a4 j hj)
    exact ⟨h.1, h.2.1⟩
  · have h := List.all_eq_true.1 a5 w hw
    unfold wayOk at h
    simp only [Bool.and_eq_true, decide_eq_true_eq] at h
    omega
theorem bet_refl {f : Fd} (h : Fits f) : bet f f :=
  ⟨⟨Int.le_refl _, h.cash.2⟩, spanBet_refl fun j hj => (h.inn j hj).2.1, rfl, rfl, spanBet_refl fun j hj => (h.pri j hj).2.1,
    ⟨rfl, fun j hj => ⟨(h.grp j hj).1.1, Int.le_refl _, (h.grp j hj).2.1, Int.le_refl _, rfl⟩⟩,
    ⟨Nat.le_refl _, fun w hw => ⟨w, hw, rfl, rfl, Int.le_refl _, (h.way w hw).2⟩⟩, ⟨h.beg.1, Int.le_refl _⟩, Int.le_refl _, h.bars.2⟩
theorem seg00 {α : Type} : seg 0 0 ([] : List α) = [] := rfl
theorem seg_set {α : Type} (l : List α) (k : Nat) (x : α) : seg 0 l.length (l.set k x) = l.set k x := seg_all' (by simp)
theorem fitsS {n : Nat} (h : n ≤ 100) : fitsN n 16 = true ∧ fitsN n 24 = true := by
  have hm : maxLen = 9223372036854775807 := rfl
  constructor <;> (simp only [fitsN, Bool.and_eq_true, Nat.ble_eq]; omega)
theorem min_le {a b c : Int} (h0 : a ≤ b) (h1 : 0 ≤ c) : a ≤ (if a + c < b then a + c else b) ∧ (if a + c < b then a + c else b) ≤ b := by split <;> omega
theorem max_le {a c : Int} (h0 : 0 ≤ a) (h1 : 0 ≤ c) : 0 ≤ (if a - c > 0 then a - c else 0) ∧ (if a - c > 0 then a - c else 0) ≤ a := by split <;> omega
theorem span_add {l : List (Int × Int)} {M : Int} (h : ∀ j : Nat, j < l.length → 0 ≤ (l.getD j (0, 0)).1 ∧ (l.getD j (0, 0)).1 ≤ (l.getD j (0, 0)).2 ∧ (l.getD j (0, 0)).2 ≤ M) (hM : M ≤ 1073741824) {k c : Int} (k0 : 0 ≤ k) (k1 : k < l.length) (c0 : 0 ≤ c) (c1 : c ≤ 20) :
    k.toNat < l.length ∧ inR .i64 ((l.getD k.toNat (0, 0)).1 + c) = true ∧ spanBet l (l.set k.toNat (if (l.getD k.toNat (0, 0)).1 + c < (l.getD k.toNat (0, 0)).2 then (l.getD k.toNat (0, 0)).1 + c else (l.getD k.toNat (0, 0)).2, (l.getD k.toNat (0, 0)).2)) := by
  have hk : k.toNat < l.length := by omega
  have g := h _ hk
  have m := min_le (c := c) g.2.1 c0
  exact ⟨hk, inR_i64.2 (by omega), spanBet_set (fun j hj => (h j hj).2.1) m.1 m.2⟩
theorem grp_sub {l : List (Int × Int × Int)} (h : ∀ j : Nat, j < l.length → (0 ≤ (l.getD j (0, 0, 0)).1 ∧ (l.getD j (0, 0, 0)).1 ≤ 1073741824) ∧ (0 ≤ (l.getD j (0, 0, 0)).2.1 ∧ (l.getD j (0, 0, 0)).2.1 ≤ 1073741824)) {k c d : Int} (k0 : 0 ≤ k) (k1 : k < l.length) (c0 : 0 ≤ c) (c1 : c ≤ 20) (d0 : 0 ≤ d) (d1 : d ≤ 20) :
    k.toNat < l.length ∧ inR .i64 ((l.getD k.toNat (0, 0, 0)).1 - c) = true ∧ inR .i64 ((l.getD k.toNat (0, 0, 0)).2.1 - d) = true ∧
      grpBet l (l.set k.toNat (if (l.getD k.toNat (0, 0, 0)).1 - c > 0 then (l.getD k.toNat (0, 0, 0)).1 - c else 0, if (l.getD k.toNat (0, 0, 0)).2.1 - d > 0 then (l.getD k.toNat (0, 0, 0)).2.1 - d else 0, (l.getD k.toNat (0, 0, 0)).2.2)) := by
  have hk : k.toNat < l.length := by omega
  have g := h _ hk
  have m := max_le (c := c) g.1.1 c0
  have n := max_le (c := d) g.2.1 d0
  exact ⟨hk, inR_i64.2 (by omega), inR_i64.2 (by omega), grpBet_set (fun j hj => ⟨(h j hj).1.1, (h j hj).2.1⟩) m.1 m.2 n.1 n.2⟩
set_option maxHeartbeats 1000000 in
theorem h28F (f : Fd) (n : N3) (K : dens [TF] → Prop) : (okF f = true ∧ ∀ g : Fd, bet f g → K (g, ())) → xfn1 Try.prog { f := [(33, fcRing2)], l2 := [(28, 0, lc28)] } 5 28 fcBet (f, n, ()) K := by
  intro ⟨hf, hK⟩
  rw [v28F]
  have hs : ∀ {α : Type} (l : List α), seg 0 l.length l = l := fun l => seg_all' rfl
  have F := fits_of hf
  have R := bet_refl F
  obtain ⟨R1, R2, R3, R4, R5, R6, R7, R8, R9⟩ := id R
  obtain ⟨F1, F2, F3, F4, F5, F6, F7, F8⟩ := F
  dsimp only [fCash, fIn, fPrices, fGroups, fWays, fBegin, fBars] at F1 F2 F3 F4 F5 F6 F7 F8
  simp only [seg00, List.nil_append, Nat.zero_add, hs, seg_set, fork_iff, req_iff, decide_eq_true_eq, decide_eq_false_iff_not, beq_iff_eq, beq_eq_false_iff_ne, true_and]
  refine ⟨by omega, fun r hr _ => ?_⟩
  have hr : 0 ≤ r ∧ r < 20 := hr (show (0 : Int) < 20 by omega)
  clear hf
  have grp : fitsN f.2.2.2.2.2.1.length 24 = true ∧ (f.2.2.2.2.2.1.length : Int) ≤ 4611686018427387904 ∧ ∀ s : Int, (0 < (f.2.2.2.2.2.1.length : Int) → 0 ≤ s ∧ s < f.2.2.2.2.2.1.length) → ((f.2.2.2.2.2.1.length : Int) ≤ 0 → s = 0) → (s < f.2.2.2.2.2.1.length →
      0 ≤ s ∧ ∀ d : Int, (0 ≤ d ∧ d < 7) → s.toNat < f.2.2.2.2.2.1.length ∧ inR .i64 ((f.2.2.2.2.2.1.getD s.toNat (0, 0, 0)).1 - (1 + r)) = true ∧ inR .i64 ((f.2.2.2.2.2.1.getD s.toNat (0, 0, 0)).2.1 - d) = true ∧
      grpBet (fGroups f) (f.2.2.2.2.2.1.set s.toNat (if (f.2.2.2.2.2.1.getD s.toNat (0, 0, 0)).1 - (1 + r) > 0 then (f.2.2.2.2.2.1.getD s.toNat (0, 0, 0)).1 - (1 + r) else 0, if (f.2.2.2.2.2.1.getD s.toNat (0, 0, 0)).2.1 - d > 0 then (f.2.2.2.2.2.1.getD s.toNat (0, 0, 0)).2.1 - d else 0, (f.2.2.2.2.2.1.getD s.toNat (0, 0, 0)).2.2))) := by
    refine ⟨(fitsS (by omega)).2, by omega, fun s h1 h2 h3 => ⟨by omega, fun d hd => ?_⟩⟩
    exact grp_sub F4 (by omega) h3 (by omega) (by omega) hd.1 (by omega)
  refine ⟨inR_i64.2 (by omega), by omega, fun s hs _ => ⟨fun e => ⟨inR_i64.2 (by omega), hK _ ⟨?_, R2, R3, R4, R5, R6, R7, R8, R9⟩⟩, fun _ => ⟨fun e => ⟨(fitsS (by omega)).1, by omega, fun k hk hk0 => ⟨fun kl => ?_, fun kl => ⟨Nat.le_refl _, hK _ R⟩⟩⟩,
    fun _ => ⟨fun e => ⟨(fitsS (by omega)).1, by omega, fun k hk hk0 => ⟨fun kl => ?_, fun kl => ⟨Nat.le_refl _, hK _ R⟩⟩⟩, fun _ => ⟨fun e => ⟨inR_i64.2 (by omega), hK _ ⟨R1, R2, R3, R4, R5, R6, R7, R8, ?_⟩⟩, fun _ => ⟨fun e => ⟨⟨by omega, by omega, F8.2.2.2, by omega, fun w hw => (List.not_mem_nil hw).elim, F5⟩, fun ws hw => ⟨Nat.le_refl _, hK _ ⟨R1, R2, R3, R4, R5, R6, hw, R8, R9⟩⟩⟩,
    fun _ => ⟨fun e => ?_, fun _ => ⟨fun e => ?_, fun _ => ⟨inR_i64.2 (by omega), hK _ ⟨R1, R2, R3, R4, R5, R6, R7, ?_, R9⟩⟩⟩⟩⟩⟩⟩⟩⟩⟩
  · have m := min_le (a := f.1) (b := 1099511627776) (c := 1 + r) F1.2 (by omega)
    exact m
  · have hk : 0 ≤ k ∧ k < (f.2.1.length : Int) := hk (show (0 : Int) < (f.2.1.length : Int) by omega)
    have m := span_add F2 (by omega) (k := k) (c := 1 + r) (by omega) kl (by omega) (by omega)
    exact ⟨by omega, decide_eq_true m.1, m.2.1, by omega, decide_eq_true m.1, by simp, hK _ ⟨R1, m.2.2, R3, R4, R5, R6, R7, R8, R9⟩⟩
  · have hk : 0 ≤ k ∧ k < (f.2.2.2.2.1.length : Int) := hk (show (0 : Int) < (f.2.2.2.2.1.length : Int) by omega)
    have m := span_add F3 (by omega) (k := k) (c := 1 + r) (by omega) kl (by omega) (by omega)
    exact ⟨by omega, decide_eq_true m.1, m.2.1, by omega, decide_eq_true m.1, by simp, hK _ ⟨R1, R2, R3, R4, m.2.2, R6, R7, R8, R9⟩⟩
  · have m := min_le (a := f.2.2.2.2.2.2.2.2) (b := 64) (c := 1 + r) F7.2 (by omega)
    exact m
  · refine ⟨grp.1, grp.2.1, fun k hk hk0 => ⟨fun kl => ?_, fun kl => ⟨Nat.le_refl _, hK _ R⟩⟩⟩
    have g := grp.2.2 k hk hk0 kl
    refine ⟨⟨g.1, kl⟩, decide_eq_true (by omega), ((g.2 0 (by omega)).2.1), by omega, fun d hd _ => ?_⟩
    have m := g.2 d (hd (show (0 : Int) < 7 by omega))
    exact ⟨m.2.2.1, ⟨g.1, kl⟩, decide_eq_true m.1, by simp, hK _ ⟨R1, R2, R3, R4, R5, m.2.2.2, R7, R8, R9⟩⟩
  · refine ⟨grp.1, grp.2.1, fun k hk hk0 => ⟨fun kl => ?_, fun kl => ⟨Nat.le_refl _, hK _ R⟩⟩⟩
    have g := grp.2.2 k hk hk0 kl
    refine ⟨⟨g.1, kl⟩, decide_eq_true (by omega), ((g.2 0 (by omega)).2.1), by omega, fun d hd _ => ?_⟩
    have m := g.2 d (hd (show (0 : Int) < 7 by omega))
    exact ⟨m.2.2.1, ⟨g.1, kl⟩, decide_eq_true m.1, by simp, hK _ ⟨R1, R2, R3, R4, R5, m.2.2.2, R7, R8, R9⟩⟩
  · have m := max_le (a := f.2.2.2.2.2.2.2.1) (c := 1) F6.1 (by omega)
    exact m
theorem ok28 : FnOk Try.prog 28 fcBet := fn1_of (n := 5) (((good2_nil _).addL2 ok28a).addF ok33G) fun (f, n, ()) K hx => h28F f n K hx

/-! the law -/
theorem h6F (f : Fd) (l : List Int) (n : N3) (K : dens [.b] → Prop) : ((bigF f ∧ l.length ≤ 9223372036854775807) ∧ K (true, ())) → xfn1 Try.prog { f := [(17, fcSound), (23, fcCap), (28, fcBet), (29, fcCheck), (25, fcBears), (19, fcWorks)] } 5 6 fc6 (f, l, n, ()) K := by
  intro ⟨⟨hb, hl⟩, hK⟩
  rw [v6F]
  have big : ∀ g : Fd, okF g = true → bigF g := fun g hg => okF_big hg
  refine ⟨⟨hb, hl⟩, hb, fork_iff.2 ⟨fun e => ?_, fun e => ?_⟩⟩
  · have hf : okF f = false := by
      cases c : okF f with
      | false => rfl
      | true => unfold chkE at e; rw [if_pos c] at e; simp at e
    have : (soundE f l == chkE f) = true := by unfold soundE chkE; rw [if_neg (by rw [hf]; simp), if_neg (by rw [hf]; simp)]; rfl
    exact fork_iff.2 ⟨fun _ => hK, fun h => by rw [this] at h; cases h⟩
  · have hf : okF f = true := by
      cases c : okF f with
      | true => rfl
      | false => unfold chkE at e; rw [if_neg (by rw [c]; simp)] at e; simp at e
    refine ⟨hf, fun g hb' => ?_⟩
    have hg := bet_ok hf hb'
    have e1 : chkE g = 0 := by unfold chkE; rw [if_pos hg]
    have e2 := cap_bet hf hb'
    have e3 : soundE f l = 0 → soundE g l = 0 := fun h => by
      unfold soundE at h ⊢
      rw [if_pos hf] at h
      rw [if_pos hg]
      by_cases c : planB f l = true
      · rw [if_pos (plan_bet hb' c)]
      · rw [if_neg c] at h; simp at h
    have e4 : (okF f && (planB f l && soundB f l)) = true → (okF g && (planB g l && soundB g l)) = true := fun h => by
      simp only [Bool.and_eq_true] at h ⊢
      exact ⟨hg, plan_bet hb' h.2.1, sound_bet hf hb' h.2.1 h.2.2⟩
    have e5 := bears_bet hf hb'
    have hg' := big g hg
    simp only [fork_iff, e1, bne_self_eq_false, decide_eq_true_eq, decide_eq_false_iff_not, beq_iff_eq, beq_eq_false_iff_ne, bne_iff_ne, Bool.not_eq_true', Bool.not_eq_false', ne_eq, not_true_eq_false, false_implies, true_implies, true_and]
    generalize soundE f l = a1 at *
    generalize soundE g l = a2 at *
    generalize (okF f && (planB f l && soundB f l)) = a3 at *
    generalize (okF g && (planB g l && soundB g l)) = a4 at *
    generalize bearsR f = a5 at *
    generalize bearsR g = a6 at *
    generalize capR f = a7 at *
    generalize capR g = a8 at *
    clear e hf hb' hg e1 big
    have k1 : ¬ a8 > a7 := by omega
    refine ⟨hg', (fun h => nomatch h), ⟨hg', hl⟩, hg', hb, hg', (fun h => nomatch h), fun h => absurd h k1, fun _ => ?_⟩
    clear hg' hb hl k1 e2
    have k2 : ∀ x : Int, (x != 0) = false → x = 0 := fun x h => by simpa using h
    have fin : (a3 = true → (a4 = false → K (false, ())) ∧ (a4 = true → (¬a5.2 = 0 → K (true, ())) ∧ ((a5.2 != 0) = false → (a6.2 = 0 → (a6.1 ≥ a5.1 → K (true, ())) ∧ (¬a6.1 ≥ a5.1 → K (false, ()))) ∧ (¬a6.2 = 0 → K (false, ()))))) ∧
        (a3 = false → (¬a5.2 = 0 → K (true, ())) ∧ ((a5.2 != 0) = false → (a6.2 = 0 → (a6.1 ≥ a5.1 → K (true, ())) ∧ (¬a6.1 ≥ a5.1 → K (false, ()))) ∧ (¬a6.2 = 0 → K (false, ())))) := by
      have key : (a5.2 != 0) = false → (a6.2 = 0 → (a6.1 ≥ a5.1 → K (true, ())) ∧ (¬a6.1 ≥ a5.1 → K (false, ()))) ∧ (¬a6.2 = 0 → K (false, ())) := fun h => by
        have h5 := e5 (k2 _ h)
        exact ⟨fun _ => ⟨fun _ => hK, fun g => absurd h5.2 g⟩, fun g => absurd h5.1 g⟩
      exact ⟨fun h3 => ⟨fun h4 => (by rw [e4 h3] at h4; cases h4), fun _ => ⟨fun _ => hK, key⟩⟩, fun _ => ⟨fun _ => hK, key⟩⟩
    exact ⟨fun h1 => ⟨fun h2 => absurd (e3 h1) h2, fun _ => fin⟩, fun _ => fin⟩
theorem ok6 : FnOk Try.prog 6 fc6 := fn1_of (n := 5) (((((((good2_nil _).addF okWorks').addF ok25).addF ok29).addF ok28).addF ok23).addF ok17) fun (f, l, n, ()) K hx => h6F f l n K hx
end Go.P9
