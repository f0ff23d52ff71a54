/- Funds: what is better in a fund lets a sound plan be sound: plain laws. No conditions. -/
import Derived.Test.YtklleedcdjkpeaaBetterS
import Derived.Test.YtklleedcdjkpeaaLawsL
import Derived.Test.YtklleedcdjkpeaaBeginL
set_option linter.constructorNameAsVariable false
set_option linter.unusedVariables false
set_option linter.unusedSimpArgs false
set_option maxRecDepth 100000
namespace Go.P9
open Go.Lom Go.Proofs Go

theorem all_getD {α : Type} {p : α → Bool} {l : List α} (d : α) : l.all p = true ↔ ∀ j : Nat, j < l.length → p (l.getD j d) = true := by
  rw [List.all_eq_true]
  constructor
  · intro h j hj
    rw [List.getD_eq_getElem?_getD, List.getElem?_eq_getElem hj]
    exact h _ (List.getElem_mem hj)
  · intro h x hx
    obtain ⟨j, hj, rfl⟩ := List.mem_iff_getElem.1 hx
    have := h j hj
    rwa [List.getD_eq_getElem?_getD, List.getElem?_eq_getElem hj] at this
theorem okF_of {f : Fd} (h1 : okA f = true) (h2 : daysOk f 0 = true) (h3 : okB f = true) (h4 : (fGroups f).all grpOk = true) (h5 : (fWays f).all (wayOk (fGroups f).length) = true) : okF f = true := by
  unfold okF; rw [h1, h2, h3, h4, h5]; rfl
theorem spanB_iff {s : Int × Int} {h : Int} : spanB s h = true ↔ 0 ≤ s.1 ∧ s.1 ≤ s.2 ∧ s.2 ≤ h := decide_eq_true_iff
theorem daysOk_iff {f : Fd} : daysOk f 0 = true ↔ ∀ j : Nat, j < (fIn f).length → dayOk f j = true := by
  unfold daysOk
  simp [List.all_eq_true]
theorem bet_ok {f g : Fd} (hf : okF f = true) (hb : bet f g) : okF g = true := by
  obtain ⟨a1, a2, a3, a4, a5⟩ := okF_parts hf
  obtain ⟨⟨b1, b1'⟩, ⟨b2, b2'⟩, b3, b4, ⟨b5, b5'⟩, ⟨b6, b6'⟩, ⟨b7, b7'⟩, ⟨b8, b8'⟩, b9, b9'⟩ := hb
  have hA := okA_iff.1 a1
  have hB := okB_iff.1 a3
  have hlen : (fPrices f).length = (fIn f).length := hA.2.2.2.2.1
  refine okF_of (okA_iff.2 ?_) (daysOk_iff.2 fun j hj => ?_) (okB_iff.2 ?_) ((all_getD (0, 0, 0)).2 fun j hj => ?_) (List.all_eq_true.2 fun w hw => ?_)
  · rw [b3, b4]; omega
  · rw [b2] at hj
    have h := daysOk_iff.1 a2 j hj
    unfold dayOk at h ⊢
    simp only [Bool.and_eq_true, spanB_iff, decide_eq_true_eq] at h ⊢
    have i1 := b2' j hj
    have i2 := b5' j (by omega)
    rw [b3, b4]
    exact ⟨by omega, by omega, by omega, by omega⟩
  · omega
  · rw [b6] at hj
    have h := grpOk_iff.1 ((all_getD (0, 0, 0)).1 a4 j hj)
    have i1 := b6' j hj
    refine grpOk_iff.2 ⟨by omega, by omega, by omega⟩
  · obtain ⟨v, hv, e1, e2, e3, e4⟩ := b7' w hw
    have h := List.all_eq_true.1 a5 v hv
    unfold wayOk at h ⊢
    simp only [Bool.and_eq_true, decide_eq_true_eq] at h ⊢
    rw [b6, e1, e2]
    exact ⟨h.1, h.2.1, h.2.2.1, by omega, by omega⟩

/-! starts -/
theorem lower1 {e : Nat → Int} : ∀ (ws : List Way) {d : Nat → Int}, (∀ w ∈ ws, e w.2.1.toNat ≤ e w.1.toNat + w.2.2) → (∀ x, e x ≤ d x) → ∀ x, e x ≤ mpass ws d x
  | [], d, _, h, x => h x
  | w :: ws, d, hw, h, x => lower1 ws (d := mrel d w) (fun v hv => hw v (List.mem_cons_of_mem _ hv)) (fun y => by
      have h1 := hw w (List.mem_cons_self ..)
      have h2 := h w.1.toNat
      have h3 := h w.2.1.toNat
      have h4 := h y
      unfold mrel
      split
      · rename_i hy; rw [hy]; omega
      · exact h4) x
theorem lowerN {e : Nat → Int} (ws : List Way) (hw : ∀ w ∈ ws, e w.2.1.toNat ≤ e w.1.toNat + w.2.2) : ∀ (k : Nat) {d : Nat → Int}, (∀ x, e x ≤ d x) → ∀ x, e x ≤ mpassN ws k d x
  | 0, d, h, x => h x
  | k + 1, d, h, x => lowerN ws hw k (d := mpass ws d) (fun y => lower1 ws hw h y) x
theorem starts_bet {f g : Fd} (hf : okF f = true) (hb : bet f g) (l : List Int) {i : Nat} (hi : i < (fGroups f).length) (hs : 0 ≤ (startsL g l).getD i 0) : 0 ≤ (startsL f l).getD i 0 ∧ (startsL f l).getD i 0 ≤ (startsL g l).getD i 0 := by
  have hg := bet_ok hf hb
  have e6 : (fGroups g).length = (fGroups f).length := hb.2.2.2.2.2.1.1
  have h0 : ∀ x, KD (startsL f l) x ≤ KD (initD (fGroups f).length l) x := fun x => by rw [KD_starts hf l]; exact mpassN_le _ _ _ x
  have h1 : ∀ w ∈ fWays g, KD (startsL f l) w.2.1.toNat ≤ KD (startsL f l) w.1.toNat + w.2.2 := fun w hw => by
    obtain ⟨v, hv, e1, e2, e3, e4⟩ := hb.2.2.2.2.2.2.1.2 w hw
    have := mpass_fix _ _ (startsL_fix hf l) v hv
    rw [e1, e2]; omega
  have h2 := lowerN (fWays g) h1 (fGroups g).length h0 i
  rw [← e6, ← KD_starts hg l] at h2
  obtain ⟨a1, a2⟩ := KD_at hf l hi
  obtain ⟨b1, b2⟩ := KD_at hg l (i := i) (by omega)
  have b1 := b1 hs
  by_cases c : 0 ≤ (startsL f l).getD i 0
  · have a1 := a1 c; omega
  · have a2 := a2 (by omega); omega
theorem tkI_bet {a b : Grp} {s t day : Int} (h0 : 0 ≤ b.1) (h1 : b.1 ≤ a.1) (h2 : 0 ≤ b.2.1) (h3 : b.2.1 ≤ a.2.1) (h4 : b.2.2 = a.2.2) (hs : 0 ≤ t → 0 ≤ s ∧ s ≤ t) : tkI b t day ≤ tkI a s day := by
  have hp : ∀ x : Int, 0 ≤ posI x := fun x => by unfold posI; split <;> omega
  have hm : ∀ x y : Int, x ≤ y → posI x ≤ posI y := fun x y h => by unfold posI; split <;> split <;> omega
  unfold tkI
  by_cases c : 0 ≤ t
  · have hs := hs c
    rw [if_pos c, if_pos hs.1]
    have e1 := hm (day - t - b.2.2 + 1) (day - s - a.2.2 + 1) (by omega)
    have e2 := Int.mul_le_mul h3 e1 (hp _) (by omega)
    unfold minI; split <;> split <;> omega
  · rw [if_neg c]
    split
    · have := Int.mul_nonneg (show 0 ≤ a.2.1 by omega) (hp (day - s - a.2.2 + 1))
      unfold minI; split <;> omega
    · omega
theorem takenL_bet {f g : Fd} (hf : okF f = true) (hb : bet f g) (l : List Int) (day : Int) : takenL g l day ≤ takenL f l day := by
  obtain ⟨e6, b6⟩ := hb.2.2.2.2.2.1
  unfold takenL tkSum
  rw [e6]
  refine sum_map_le fun k hk => ?_
  have hk : k < (fGroups f).length := by simpa using hk
  obtain ⟨c1, c2, c3, c4, c5⟩ := b6 k hk
  exact tkI_bet c1 c2 c3 c4 c5 fun hs => starts_bet hf hb l hk hs
theorem worst_bet {f g : Fd} (hf : okF f = true) (hb : bet f g) (day : Int) : (worstW g day).2 ≤ (worstW f day).2 := by
  have hg := bet_ok hf hb
  obtain ⟨h1, h2, _⟩ := worstW_valid hg day
  rw [h2]
  refine Int.le_trans (takenL_bet hf hb _ day) ((worstW_valid hf day).2.2 _ ⟨?_, Int.le_trans h1.2 hb.2.2.2.2.2.2.2.1.2⟩)
  have := h1.1
  rwa [show (fGroups g).length = (fGroups f).length from hb.2.2.2.2.2.1.1] at this
theorem needs_bet {f g : Fd} (hf : okF f = true) (hb : bet f g) : ∀ (k : Nat) (i due due' : Int), 0 ≤ i → i + k ≤ (fIn f).length → due' ≤ due → leL (needsK g k i due') (needsK f k i due)
  | 0, _, _, _, _, _, _ => trivial
  | k + 1, i, due, due', h0, h1, h2 => by
    have h3 := hb.2.1.2 i.toNat (by omega)
    have h4 : fBonds g = fBonds f := hb.2.2.1
    have h5 := worst_bet hf hb i
    have h6 : dueI g i due' ≤ dueI f i due := by unfold dueI; rw [h4]; omega
    exact ⟨Int.add_le_add h6 h5, needs_bet hf hb k (i + 1) _ _ (by omega) (by omega) h6⟩
theorem needsL_bet {f g : Fd} (hf : okF f = true) (hb : bet f g) : leL (needsL g) (needsL f) := by
  unfold needsL
  rw [show (fIn g).length = (fIn f).length from hb.2.1.1]
  exact needs_bet hf hb _ _ _ _ (by omega) (by omega) (by have := hb.1.1; omega)

/-! plans -/
theorem feas_bet {pr pr' sl : Int → Int} {fin fin' : Int → Prop} (hp : ∀ t, pr t ≤ pr' t) (hF : ∀ k, fin k → fin' k) : ∀ {ns ns' : List Int} {t k m m' : Int}, leL ns' ns → m ≤ m' → feas pr sl fin ns t k m → feas pr' sl fin' ns' t k m'
  | [], [], _, _, _, _, _, _, h => hF _ h
  | [], _ :: _, _, _, _, _, h, _, _ => h.elim
  | _ :: _, [], _, _, _, _, h, _, _ => h.elim
  | n :: ns, n' :: ns', t, k, m, m', h, hm, ⟨c, h1, h2, h3, h4⟩ => by
    have e := Int.mul_le_mul_of_nonneg_left (hp t) h1
    have h0 := h.1
    exact ⟨c, h1, h2, by omega, feas_bet hp hF h.2 (by omega) h4⟩
theorem walk_bet {pr pr' sl : Int → Int} (hp : ∀ t, pr t ≤ pr' t) : ∀ {ns ns' : List Int} {t m m' : Int} {l : List Int}, leL ns' ns → m ≤ m' → walkP pr sl ns t m l → walkP pr' sl ns' t m' l
  | [], [], _, _, _, [], _, _, _ => trivial
  | [], [], _, _, _, _ :: _, _, _, h => h.elim
  | [], _ :: _, _, _, _, _, h, _, _ => h.elim
  | _ :: _, [], _, _, _, _, h, _, _ => h.elim
  | _ :: _, _ :: _, _, _, _, [], _, _, h => h.elim
  | n :: ns, n' :: ns', t, m, m', c :: l, h, hm, ⟨⟨h1, h2, h3⟩, h4⟩ => by
    have e := Int.mul_le_mul_of_nonneg_left (hp t) h1
    have h0 := h.1
    exact ⟨⟨h1, h2, by omega⟩, walk_bet hp h.2 (by omega) h4⟩
theorem prF_bet {f g : Fd} (hb : bet f g) (t : Int) : prF f t ≤ prF g t := by
  obtain ⟨e, h⟩ := hb.2.2.2.2.1
  unfold prF
  by_cases c : t.toNat < (fPrices f).length
  · exact (h _ c).1
  · rw [List.getD_eq_getElem?_getD, List.getD_eq_getElem?_getD, List.getElem?_eq_none (by omega), List.getElem?_eq_none (by omega)]; exact Int.le_refl _
theorem slF_bet {f g : Fd} (hb : bet f g) : slF g = slF f := by
  funext t; unfold slF; rw [show fSell g = fSell f from hb.2.2.2.1]
theorem bars_bet {f g : Fd} (hb : bet f g) : fBars f ≤ fBars g := hb.2.2.2.2.2.2.2.2.1
theorem plan_bet {f g : Fd} (hb : bet f g) {l : List Int} (h : planB f l = true) : planB g l = true := by
  obtain ⟨h1, h2, h3⟩ := planB_parts h
  have e : planC g l 0 = planC f l 0 := by unfold planC; rw [show fSell g = fSell f from hb.2.2.2.1]
  have := bars_bet hb
  unfold planB
  rw [e, h2, decide_eq_true (show l.length = (fIn g).length by rw [show (fIn g).length = (fIn f).length from hb.2.1.1]; exact h1), decide_eq_true (show l.sum ≤ fBars g by omega)]; rfl
theorem sound_bet {f g : Fd} (hf : okF f = true) (hb : bet f g) {l : List Int} (h1 : planB f l = true) (h2 : soundB f l = true) : soundB g l = true := by
  obtain ⟨w, hs⟩ := sound_iff.1 ⟨h1, h2⟩
  have := bars_bet hb
  refine (sound_iff.2 ⟨?_, by omega⟩).2
  rw [slF_bet hb]
  exact walk_bet (prF_bet hb) (needsL_bet hf hb) (Int.le_refl _) w
theorem lack_bet {f g : Fd} (hf : okF f = true) (hb : bet f g) : lackF g ≤ lackF f := by
  have hg := bet_ok hf hb
  have h0 := lackF_nonneg f
  have h1 := lackF_le hf
  have h2 : askF f (needsL f) (fBars f) false 0 0 ≤ lackF f := by unfold lackF maxI; split <;> omega
  have h3 := (ask_all_iff (needsL_B hf) h0 (by omega)).1 h2
  have hbar := bars_bet hb
  have h4 := feas_bet (prF_bet hb) (fin' := finB (fBars g) false) (fun k (hk : k ≤ fBars f) => show k ≤ fBars g by omega) (needsL_bet hf hb) (Int.le_refl _) h3
  rw [← slF_bet hb] at h4
  have h5 := (ask_all_iff (needsL_B hg) h0 (by omega)).2 h4
  show maxI 0 _ ≤ _
  unfold maxI; split <;> omega
theorem cap_bet {f g : Fd} (hf : okF f = true) (hb : bet f g) : capR g ≤ capR f := by
  unfold capR; rw [if_pos hf, if_pos (bet_ok hf hb)]; exact lack_bet hf hb
theorem bet_wB {f g : Fd} (hb : bet f g) {n : Int} (h0 : 0 ≤ n) : bet (wB f n) (wB g n) := by
  obtain ⟨b1, b2, b3, b4, b5, b6, b7, b8, b9⟩ := hb
  exact ⟨b1, b2, b3, b4, b5, b6, b7, ⟨h0, Int.le_refl _⟩, b9⟩
theorem bears_cmp {a b n : Int} (h : (if a = 0 then ((0 : Int), (4 : Int)) else if a = -1 then (n, 0) else (a - 1, 0)).2 = 0) (hc : (a = -1 ∧ b = -1) ∨ (0 ≤ a ∧ a ≤ n ∧ (b = -1 ∨ a ≤ b))) :
    (if b = 0 then ((0 : Int), (4 : Int)) else if b = -1 then (n, 0) else (b - 1, 0)).2 = 0 ∧ (if a = 0 then ((0 : Int), (4 : Int)) else if a = -1 then (n, 0) else (a - 1, 0)).1 ≤ (if b = 0 then ((0 : Int), (4 : Int)) else if b = -1 then (n, 0) else (b - 1, 0)).1 := by
  by_cases a0 : a = 0
  · simp [a0] at h
  · by_cases a1 : a = -1
    · have b1 : b = -1 := by omega
      rw [a1, b1]; exact ⟨rfl, Int.le_refl _⟩
    · by_cases b1 : b = -1
      · rw [b1, if_neg a0, if_neg a1]; exact ⟨rfl, by show a - 1 ≤ n; omega⟩
      · have b0 : ¬ b = 0 := by omega
        rw [if_neg a0, if_neg a1, if_neg b0, if_neg b1]
        exact ⟨rfl, by show a - 1 ≤ b - 1; omega⟩
theorem bears_bet {f g : Fd} (hf : okF f = true) (hb : bet f g) (h : (bearsR f).2 = 0) : (bearsR g).2 = 0 ∧ (bearsR f).1 ≤ (bearsR g).1 := by
  have hg := bet_ok hf hb
  have e6 : (fGroups g).length = (fGroups f).length := hb.2.2.2.2.2.1.1
  have hl : ∀ n : Int, 0 ≤ n → n ≤ (fGroups f).length → lackB f n = false → lackB g n = false := fun n h0 h1 h2 => by
    have := lack_bet (okF_wB hf h0 h1) (bet_wB hb h0)
    have h2 := of_decide_eq_false h2
    exact decide_eq_false (by omega)
  unfold bearsR at h ⊢
  rw [if_pos hf] at h ⊢
  rw [if_pos hg]
  have hgc := bearA_cases g
  rw [e6] at hgc ⊢
  refine bears_cmp h ?_
  rcases bearA_cases f with ⟨h1, h2⟩ | ⟨h1, h2, h3, h4⟩
  · rcases hgc with ⟨g1, _⟩ | ⟨g1, g2, g3, _⟩
    · exact .inl ⟨h1, g1⟩
    · rw [hl _ g1 g2 (h2 _ g1 g2)] at g3; cases g3
  · refine .inr ⟨h1, h2, ?_⟩
    rcases hgc with ⟨g1, _⟩ | ⟨g1, g2, g3, _⟩
    · exact .inl g1
    · right
      by_cases d : bearA g < bearA f
      · rw [hl _ g1 g2 (h4 _ g1 d)] at g3; cases g3
      · omega
end Go.P9
