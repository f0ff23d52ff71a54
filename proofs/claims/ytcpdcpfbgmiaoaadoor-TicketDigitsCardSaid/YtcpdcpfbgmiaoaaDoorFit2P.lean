/- Tickets: the best half of both, and the laws of halves. No conditions. -/
import Derived.Test.YtcpdcpfbgmiaoaaDoorFit2S
import Derived.Test.YtcpdcpfbgmiaoaaDoorFitP
set_option linter.constructorNameAsVariable false
set_option linter.unusedVariables false
set_option linter.unusedSimpArgs false
set_option maxRecDepth 100000
namespace Go.P3
open Go.Lom Go.Proofs Go

/-! the plain law -/
theorem rfI_cases (e h : List Int) : (rfI e h = -1 ∧ (fitI e h).2 = false) ∨ (4 ≤ rfI e h ∧ (fitI e h).2 = true ∧ rfI e h = (fitI e h).1) := by
  unfold rfI
  cases hf : (fitI e h).2 with
  | true => rw [if_pos rfl]; exact .inr ⟨fitI_ge hf, rfl, rfl⟩
  | false => rw [if_neg (by simp)]; exact .inl ⟨rfl, rfl⟩
theorem betK_iff (e : List Int) (hs : List (List Int)) (i : Int) : ∀ (f : Nat) (k : Int) (b : Bool), betK e hs i f k b = true ↔ b = true ∧ ∀ j : Int, k ≤ j → j < k + f → (j = i ∨ fR e hs j < fR e hs i)
  | 0, k, b => ⟨fun h => ⟨h, fun j h1 h2 => by omega⟩, fun h => h.1⟩
  | f + 1, k, b => by
    simp only [betK]
    rw [betK_iff e hs i f (k + 1)]
    simp only [Bool.and_eq_true, Bool.or_eq_true, decide_eq_true_eq]
    refine ⟨fun ⟨⟨h1, h2⟩, h3⟩ => ⟨h1, fun j h4 h5 => ?_⟩, fun ⟨h1, h2⟩ => ⟨⟨h1, h2 k (Int.le_refl _) (by omega)⟩, fun j h4 h5 => h2 j (by omega) (by omega)⟩⟩
    by_cases e' : j = k
    · rw [e']; exact h2
    · exact h3 j (by omega) (by omega)
theorem betB_iff {e : List Int} {hs : List (List Int)} {i : Int} : betB e hs i = true ↔ 0 ≤ fR e hs i ∧ ∀ j : Int, 0 ≤ j → j < hs.length → (j = i ∨ fR e hs j < fR e hs i) := by
  unfold betB
  rw [betK_iff, decide_eq_true_eq]
  refine ⟨fun ⟨h1, h2⟩ => ⟨h1, fun j h3 h4 => h2 j h3 (by omega)⟩, fun ⟨h1, h2⟩ => ⟨h1, fun j h3 h4 => h2 j h3 (by omega)⟩⟩
theorem seekR_spec (e : List Int) (hs : List (List Int)) : ∀ (f : Nat) (i : Int), match seekR e hs f i with
    | some r => i ≤ r ∧ r < i + f ∧ betB e hs r = true
    | none => ∀ j : Int, i ≤ j → j < i + f → betB e hs j = false
  | 0, i => by simp only [seekR]; intro j h1 h2; omega
  | f + 1, i => by
    simp only [seekR]
    by_cases h : betB e hs i = true
    · rw [if_pos h]; exact ⟨Int.le_refl _, by omega, h⟩
    · rw [if_neg h]
      have ih := seekR_spec e hs f (i + 1)
      split at ih
      · exact ⟨by omega, by omega, ih.2.2⟩
      · intro j h1 h2
        by_cases e' : j = i
        · rw [e']; simpa using h
        · exact ih j (by omega) (by omega)

def Inv (F : Int → Int) (i : Int) (x : Tri) : Prop :=
  (x = (0, 0, 0) ∧ ∀ k, 0 ≤ k → k < i → F k = -1) ∨
  (4 ≤ x.1 ∧ 0 ≤ x.2.1 ∧ x.2.1 < i ∧ F x.2.1 = x.1 ∧ 1 ≤ x.2.2 ∧ (∀ k, 0 ≤ k → k < i → F k ≤ x.1) ∧ (x.2.2 = 1 → ∀ k, 0 ≤ k → k < i → k ≠ x.2.1 → F k < x.1) ∧ (x.2.2 ≠ 1 → ∃ k, 0 ≤ k ∧ k < i ∧ k ≠ x.2.1 ∧ F k = x.1))
theorem inv_step {e : List Int} {hs : List (List Int)} {i : Int} (h0 : 0 ≤ i) {x : Tri} (h : Inv (fR e hs) i x) : Inv (fR e hs) (i + 1) (stepB e x i (hs.getD i.toNat [])) := by
  obtain ⟨b, a, c⟩ := x
  have hF : fR e hs i = rfI e (hs.getD i.toNat []) := rfl
  unfold stepB
  simp only
  rcases rfI_cases e (hs.getD i.toNat []) with ⟨h1, h2⟩ | ⟨h1, h2, h3⟩
  · rw [if_pos (.inl h2)]
    rcases h with ⟨g1, g2⟩ | ⟨g1, g2, g3, g4, g5, g6, g7, g8⟩
    · refine .inl ⟨g1, fun k k0 k1 => ?_⟩
      by_cases ek : k = i
      · rw [ek, hF]; exact h1
      · exact g2 k k0 (by omega)
    · simp only at *
      refine .inr ⟨g1, g2, by show a < i + 1; omega, g4, g5, fun k k0 k1 => ?_, fun hc k k0 k1 hk => ?_, fun hc => let ⟨k, k0, k1, k2, k3⟩ := g8 hc; ⟨k, k0, by omega, k2, k3⟩⟩
      · by_cases ek : k = i
        · rw [ek, hF, h1]; show -1 ≤ b; omega
        · exact g6 k k0 (by omega)
      · by_cases ek : k = i
        · rw [ek, hF, h1]; show -1 < b; omega
        · exact g7 hc k k0 (by omega) hk
  · rw [← h3]
    by_cases hlt : rfI e (hs.getD i.toNat []) < b
    · rw [if_pos (.inr hlt)]
      rcases h with ⟨g1, g2⟩ | ⟨g1, g2, g3, g4, g5, g6, g7, g8⟩
      · have : b = 0 := by injection g1
        omega
      · simp only at *
        refine .inr ⟨g1, g2, by show a < i + 1; omega, g4, g5, fun k k0 k1 => ?_, fun hc k k0 k1 hk => ?_, fun hc => let ⟨k, k0, k1, k2, k3⟩ := g8 hc; ⟨k, k0, by omega, k2, k3⟩⟩
        · by_cases ek : k = i
          · rw [ek, hF]; show rfI _ _ ≤ b; omega
          · exact g6 k k0 (by omega)
        · by_cases ek : k = i
          · rw [ek, hF]; exact hlt
          · exact g7 hc k k0 (by omega) hk
    · rw [if_neg (by rw [h2]; rintro (h | h); cases h; exact hlt h)]
      by_cases heq : rfI e (hs.getD i.toNat []) = b
      · rw [if_pos heq]
        rcases h with ⟨g1, g2⟩ | ⟨g1, g2, g3, g4, g5, g6, g7, g8⟩
        · have : b = 0 := by injection g1
          omega
        · simp only at *
          refine .inr ⟨g1, g2, by show a < i + 1; omega, g4, by show 1 ≤ c + 1; omega, fun k k0 k1 => ?_, fun hc => ?_, fun hc => ⟨i, h0, by omega, by show i ≠ a; omega, by rw [hF]; exact heq⟩⟩
          · by_cases ek : k = i
            · rw [ek, hF]; show rfI _ _ ≤ b; omega
            · exact g6 k k0 (by omega)
          · have hc : c + 1 = 1 := hc
            omega
      · rw [if_neg heq]
        refine .inr ⟨h1, h0, by show i < i + 1; omega, hF, by show (1 : Int) ≤ 1; omega, fun k k0 k1 => ?_, fun _ k k0 k1 hk => ?_, fun hc => absurd rfl hc⟩
        · show fR e hs k ≤ rfI _ _
          by_cases ek : k = i
          · rw [ek, hF]; exact Int.le_refl _
          · rcases h with ⟨g1, g2⟩ | ⟨g1, g2, g3, g4, g5, g6, g7, g8⟩
            · rw [g2 k k0 (by omega)]; omega
            · have := g6 k k0 (by omega)
              simp only at this; omega
        · show fR e hs k < rfI _ _
          have hk : k ≠ i := hk
          rcases h with ⟨g1, g2⟩ | ⟨g1, g2, g3, g4, g5, g6, g7, g8⟩
          · rw [g2 k k0 (by omega)]; omega
          · have := g6 k k0 (by omega)
            simp only at this; omega
theorem inv_run {e : List Int} {hs : List (List Int)} : ∀ (f : Nat) (i : Int) (x : Tri), 0 ≤ i → Inv (fR e hs) i x → Inv (fR e hs) (i + f) (runB e hs f i x)
  | 0, i, x, h0, h => by simpa [runB] using h
  | f + 1, i, x, h0, h => by
    simp only [runB]
    have := inv_run f (i + 1) _ (by omega) (inv_step h0 h)
    rw [show i + 1 + (f : Int) = i + ((f + 1 : Nat) : Int) by omega] at this
    exact this
theorem inv_best (e : List Int) (hs : List (List Int)) : Inv (fR e hs) hs.length (bestX e hs) := by
  have := inv_run (e := e) (hs := hs) hs.length 0 (0, 0, 0) (Int.le_refl _) (.inl ⟨rfl, fun k k0 k1 => by omega⟩)
  rw [Int.zero_add] at this; exact this
theorem best_seek (e : List Int) (hs : List (List Int)) : (if (bestX e hs).2.2 = 1 then ((bestX e hs).2.1, (0 : Int)) else (0, 4)) = match seekR e hs hs.length 0 with
    | some r => (r, 0)
    | none => (0, 4) := by
  have hI := inv_best e hs
  have hs' := seekR_spec e hs hs.length 0
  generalize bestX e hs = x at hI ⊢
  obtain ⟨b, a, c⟩ := x
  rcases hI with ⟨g1, g2⟩ | ⟨g1, g2, g3, g4, g5, g6, g7, g8⟩
  · injection g1 with e1 e2
    injection e2 with e2 e3
    subst e1 e2 e3
    split at hs'
    · rename_i r hr
      have := (betB_iff.1 hs'.2.2).1
      rw [g2 r hs'.1 (by have := hs'.2.1; omega)] at this; omega
    · rfl
  · simp only at *
    by_cases hc : c = 1
    · rw [if_pos hc]
      have hb : betB e hs a = true := betB_iff.2 ⟨by rw [g4]; omega, fun j j0 j1 => by
        by_cases ej : j = a
        · exact .inl ej
        · exact .inr (by rw [g4]; exact g7 hc j j0 j1 ej)⟩
      split at hs'
      · rename_i r hr
        have h1 := (betB_iff.1 hs'.2.2).2 a g2 g3
        have h2 := (betB_iff.1 hb).2 r hs'.1 (by have := hs'.2.1; omega)
        have : a = r := by
          rcases h1 with h1 | h1
          · exact h1
          · rcases h2 with h2 | h2
            · exact h2.symm
            · omega
        rw [this]
      · have := hs' a g2 (by omega)
        rw [hb] at this; cases this
    · rw [if_neg hc]
      split at hs'
      · rename_i r hr
        exfalso
        obtain ⟨k, k0, k1, k2, k3⟩ := g8 hc
        have hb := (betB_iff.1 hs'.2.2).2
        have ha := hb a g2 g3
        have hk := hb k k0 k1
        have hr2 := g6 r hs'.1 (by have := hs'.2.1; omega)
        rcases ha with ha | ha
        · rcases hk with hk | hk
          · omega
          · rw [k3, ← ha, g4] at hk; omega
        · rw [g4] at ha; omega
      · rfl

/-! the reference's best -/
theorem allH_at {hs : List (List Int)} (h : allH hs 0 = true) {i : Int} (h0 : 0 ≤ i) (h1 : i < hs.length) : inB (-1) (hs.getD i.toNat []) = true := by
  unfold allH at h
  simp only [Int.toNat_zero, List.drop_zero] at h
  have hl : i.toNat < hs.length := by omega
  exact List.all_eq_true.1 h (hs.getD i.toNat []) (by rw [List.getD_eq_getElem?_getD, List.getElem?_eq_getElem hl]; exact List.getElem_mem _)
theorem h25A (e : List Int) (hs : List (List Int)) (i : Int) (Q : LQ) : s25a e hs i Q → xloop2 Tryd.prog { f := [(61, fcEdge (-1))] } 5 25 0 lc25a ex25a (fun (_, hs, i, _) => mL hs i) (e, hs, i, ()) Q := by
  intro ⟨⟨h0, h1, h3⟩, hF, hT⟩
  rw [v25A]
  simp only [fork_iff, req_iff, decide_eq_true_eq, decide_eq_false_iff_not]
  refine ⟨fun hi => ⟨⟨h0, hi⟩, fun hn => hF ?_, fun hn => ⟨inR_i64.2 (by omega), mL_lt hi, ⟨⟨by omega, by omega, h3⟩, fun hf => hF ?_, fun ht => hT ?_⟩⟩⟩, fun hi => hT (allH_end hi)⟩
  · rw [allH_step h0 hi]; simp only [Bool.not_eq_true'] at hn; rw [hn, Bool.false_and]
  · rw [allH_step h0 hi, hf, Bool.and_false]
  · simp only [Bool.not_eq_false'] at hn
    rw [allH_step h0 hi, ht, hn]; rfl
theorem ok25A : Lp2Ok Tryd.prog 25 0 lc25a := lp2_of (n := 5) (ex := ex25a) (m := fun (_, hs, i, _) => mL hs i) ((good2_nil _).addF ok61) fun (e, hs, i, ()) Q hx => h25A e hs i Q hx
theorem h25C (e : List Int) (hs : List (List Int)) (i : Int) (b : Bool) (k : Int) (Q : LQ) : s25c e hs i b k Q → xloop2 Tryd.prog { f := [(62, fc62)] } 5 25 2 lc25c (fun _ => some (sh25ce, 0)) (fun (_, hs, _, _, k, _) => mL hs k) (e, hs, i, b, k, ()) Q := by
  intro ⟨⟨hH, hl, h0, h1, h2, h3⟩, hQ⟩
  rw [v25C]
  simp only [fork_iff, req_iff, decide_eq_true_eq, decide_eq_false_iff_not]
  refine ⟨fun hk => ?_, fun hk => ?_⟩
  · rw [show hs.length - k.toNat = (hs.length - (k + 1).toNat) + 1 by omega] at hQ
    simp only [betK] at hQ
    have go : ∀ b', (b && (decide (k = i) || decide (fR e hs k < fR e hs i))) = b' → s25c e hs i b' (k + 1) Q := fun b' hb => by
      rw [hb] at hQ
      exact ⟨⟨hH, hl, h0, h1, by omega, by omega⟩, hQ⟩
    refine ⟨fun hb => ⟨fun hki => ⟨inR_i64.2 (by omega), mL_lt hk, go true ?_⟩, fun hki => ⟨⟨h2, hk⟩, ⟨h0, h1⟩, allH_at hH h2 hk, trivial, allH_at hH h0 h1, inR_i64.2 (by omega), mL_lt hk, go _ ?_⟩⟩, fun hb => ⟨inR_i64.2 (by omega), mL_lt hk, go false ?_⟩⟩
    · have hki : k = i := by simpa using hki
      rw [hb, decide_eq_true hki]; rfl
    · have hki : ¬ k = i := by simpa using hki
      rw [hb, decide_eq_false hki]; rfl
    · rw [hb]; rfl
  · rw [show hs.length - k.toNat = 0 by omega] at hQ
    exact hQ
theorem ok25C : Lp2Ok Tryd.prog 25 2 lc25c := lp2_of (n := 5) (ex := fun _ => some (sh25ce, 0)) (m := fun (_, hs, _, _, k, _) => mL hs k) ((good2_nil _).addF ok62) fun (e, hs, i, b, k, ()) Q hx => h25C e hs i b k Q hx
theorem h25B (e : List Int) (hs : List (List Int)) (i : Int) (Q : LQ) : s25b e hs i Q → xloop2 Tryd.prog { f := [(62, fc62)], l2 := [(25, 2, lc25c)] } 5 25 1 lc25b ex25b (fun (_, hs, i, _) => mL hs i) (e, hs, i, ()) Q := by
  intro ⟨⟨hH, hl, h0, h1⟩, hS, hN⟩
  rw [v25B]
  simp only [fork_iff, req_iff, decide_eq_true_eq, decide_eq_false_iff_not, Nat.sub_zero]
  refine ⟨fun hi => ?_, fun hi => ?_⟩
  · rw [show hs.length - i.toNat = (hs.length - (i + 1).toNat) + 1 by omega] at hS hN
    simp only [seekR] at hS hN
    have hbb : betK e hs i hs.length 0 (decide (rfI e (hs.getD i.toNat []) ≥ 0)) = betB e hs i := rfl
    rw [hbb]
    refine ⟨⟨h0, hi⟩, allH_at hH h0 hi, ⟨hH, hl, h0, hi, by omega, by omega⟩, fun hb => hS i (if_pos hb), fun hb => ⟨inR_i64.2 (by omega), mL_lt hi, ⟨⟨hH, hl, by omega, by omega⟩, fun r hr => hS r ?_, fun hr => hN ?_⟩⟩⟩
    · rw [if_neg (by rw [hb]; simp)]; exact hr
    · rw [if_neg (by rw [hb]; simp)]; exact hr
  · refine hN ?_
    rw [show hs.length - i.toNat = 0 by omega]; rfl
theorem ok25B : Lp2Ok Tryd.prog 25 1 lc25b := lp2_of (n := 5) (ex := ex25b) (m := fun (_, hs, i, _) => mL hs i) (((good2_nil _).addL2 ok25C).addF ok62) fun (e, hs, i, ()) Q hx => h25B e hs i Q hx
theorem ok25 : FnOk Tryd.prog 25 fcBest := fn1_of (n := 5) ((((good2_nil _).addF ok60).addL2 ok25B).addL2 ok25A) fun (e, hs, ()) K hx => by
  have hK : K ((bestE e hs).1, (bestE e hs).2, ()) := hx
  show xfn1 Tryd.prog { l2 := [(25, 0, lc25a), (25, 1, lc25b)], f := [(60, fcEdge 0)] } 5 25 fcBest (e, hs, ()) K
  rw [v25F]
  unfold bestE at hK
  simp only [fork_iff, decide_eq_true_eq, decide_eq_false_iff_not, Bool.not_eq_true', Bool.not_eq_false', Nat.sub_zero]
  refine ⟨fun h1 => ?_, fun h1 => ⟨fun h2 => ?_, fun h2 => ⟨⟨by omega, by omega, by omega⟩, fun h3 => ?_, fun h3 => ⟨⟨h3, by omega, by omega, by omega⟩, fun r hr => ?_, fun hr => ?_⟩⟩⟩⟩
  · rw [if_neg (by rw [h1]; simp)] at hK; exact hK
  · rw [if_neg (by omega)] at hK; exact hK
  · rw [if_neg (by rw [h3]; simp)] at hK; exact hK
  · rw [if_pos ⟨h1, by omega, h3⟩, best_seek, hr] at hK; exact hK
  · rw [if_pos ⟨h1, by omega, h3⟩, best_seek, hr] at hK; exact hK

/-! the laws -/
theorem fork_self {α : Type} [BEq α] [LawfulBEq α] {x : α} {p q : Prop} (h : q) : Go.Lom.fork (x != x) p q := by
  rw [fork_iff]
  exact ⟨fun e => by simp at e, fun _ => h⟩
theorem okFits (hw : FnOk Tryd.prog 21 fcWorks) : FnOk Tryd.prog 4 fcFits := fn1_of (n := 5) ((((((good2_nil _).addF hw).addF ok25).addF ok24).addF ok23).addF ok22) fun (e, h, hs, ()) K hK => by
  show xfn1 Tryd.prog { f := [(22, fcFit), (23, fcFit), (24, fcBest), (25, fcBest), (21, fcWorks)] } 5 4 fcFits (e, h, hs, ()) K
  rw [v4F]
  have hK : K (true, ()) := hK
  refine fork_self (fork_self ?_)
  simp only [beq_self_eq_true]
  exact hK

theorem fitE_rf {e h : List Int} (he : inB 0 e = true) (hh : inB (-1) h = true) : fitE e h = if rfI e h = -1 then (0, 32) else (rfI e h, 0) := by
  unfold fitE
  rw [he, hh, Bool.and_self, if_pos rfl]
  rcases rfI_cases e h with ⟨h1, h2⟩ | ⟨h1, h2, h3⟩
  · rw [if_pos h1, if_neg (by rw [h2]; simp)]
  · rw [if_pos h2, if_neg (by omega : ¬ rfI e h = -1), h3]
theorem fitK_self {e : List Int} (he : allFrom 0 e 0 = true) : ∀ (k : Nat) (i n : Int), 0 ≤ i → i + k = e.length → fitK e e k i n = some (n + k)
  | 0, i, n, h0, h => by simp [fitK]
  | k + 1, i, n, h0, h => by
    have := allFrom_at he h0 (by omega)
    simp only [fitK]
    rw [if_neg (by omega), if_neg (by simp), fitK_self he k (i + 1) (n + 1) (by omega) (by omega)]
    congr 1; omega
theorem fit_self {e : List Int} (he : inB 0 e = true) : fitE e e = ((e.length : Int), 0) := by
  have h1 := inB_iff.1 he
  have h2 : inB (-1) e = true := by
    refine inB_iff.2 ⟨h1.1, ?_⟩
    unfold allFrom at h1 ⊢
    refine List.all_eq_true.2 fun x hx => ?_
    have := of_decide_eq_true (List.all_eq_true.1 h1.2 x hx)
    exact decide_eq_true (by omega)
  have h3 : fitI e e = ((e.length : Int), true) := by
    unfold fitI
    rw [if_neg (by simp), fitK_self h1.2 e.length 0 0 (Int.le_refl _) (by omega)]
    simp only [Int.zero_add]
    rw [decide_eq_true (by omega : (e.length : Int) ≥ 4)]
  unfold fitE
  rw [he, h2, Bool.and_self, if_pos rfl, h3, if_pos rfl]

/-- The two ways to count are one. -/
def Rel (x : Tri) (y : Int × Int) : Prop := (x.1 = 0 ∧ x.2.2 = 0 ∧ y = (-1, 0)) ∨ (4 ≤ x.1 ∧ y = (x.1, x.2.2))
theorem rel_step {e h : List Int} (he : inB 0 e = true) (hh : inB (-1) h = true) {x : Tri} {y : Int × Int} (i : Int) (hr : Rel x y) : Rel (stepB e x i h) (stepC e y h) := by
  obtain ⟨b, a, c⟩ := x
  unfold stepC
  rw [fitE_rf he hh]
  rcases rfI_cases e h with ⟨h1, h2⟩ | ⟨h1, h2, h3⟩
  · rw [if_pos h1]
    unfold stepB
    rw [if_pos (.inl h2), if_neg (by show ¬ (32 : Int) = 0; omega)]
    exact hr
  · rw [if_neg (by omega : ¬ rfI e h = -1)]
    simp only [eq_self_iff_true, if_true]
    unfold stepB
    rw [← h3, h2]
    simp only
    rcases hr with ⟨g1, g2, rfl⟩ | ⟨g1, rfl⟩
    · simp only at *
      subst g1
      rw [if_neg (by rintro (h | h); cases h; omega), if_neg (by omega), if_pos (by omega)]
      exact .inr ⟨h1, rfl⟩
    · simp only at *
      by_cases hlt : rfI e h < b
      · rw [if_pos (.inr hlt), if_neg (by omega), if_neg (by omega)]
        exact .inr ⟨g1, rfl⟩
      · rw [if_neg (by rintro (h | h); cases h; exact hlt h)]
        by_cases heq : rfI e h = b
        · rw [if_pos heq, if_neg (by omega), if_pos heq]
          exact .inr ⟨g1, rfl⟩
        · rw [if_neg heq, if_pos (by omega)]
          exact .inr ⟨h1, rfl⟩
theorem rel_run {e : List Int} {hs : List (List Int)} (he : inB 0 e = true) (hH : allH hs 0 = true) : ∀ (f : Nat) (i : Int) (x : Tri) (y : Int × Int), 0 ≤ i → i + f ≤ hs.length → Rel x y → Rel (runB e hs f i x) (runC e hs f i y)
  | 0, i, x, y, h0, h1, h => h
  | f + 1, i, x, y, h0, h1, h => by
    simp only [runB, runC]
    exact rel_run he hH f (i + 1) _ _ (by omega) (by omega) (rel_step he (allH_at hH h0 (by omega)) i h)
theorem h6L (e : List Int) (hs : List (List Int)) (a b m c i : Int) (Q : LQ) : s6 e hs a b m c i Q → xloop2 Tryd.prog { f := [(22, fcFit)] } 5 6 0 lc6 ex6 (fun (_, hs, _, _, _, _, i, _) => mL hs i) (e, hs, a, b, m, c, i, ()) Q := by
  intro ⟨⟨he, hH, hl, h0, h1, h2, h3⟩, hQ⟩
  rw [v6L]
  by_cases hi : i < hs.length
  · rw [show hs.length - i.toNat = (hs.length - (i + 1).toNat) + 1 by omega] at hQ
    simp only [runC] at hQ
    have hfe := fitE_rf he (allH_at hH h0 hi)
    have hinR : inR .i64 (i + 1) = true := inR_i64.2 (by omega)
    have hcR : inR .i64 (c + 1) = true := inR_i64.2 (by omega)
    have hmL := mL_lt hi
    have go : ∀ (m' c' : Int), stepC e (m, c) (hs.getD i.toNat []) = (m', c') → 0 ≤ c' → c' ≤ i + 1 → LC2.spec lc6 (e, hs, a, b, m', c', i + 1, ()) Q := fun m' c' hst g0 g1 => by
      rw [hst] at hQ
      exact (show s6 e hs a b m' c' (i + 1) Q from ⟨⟨he, hH, hl, by omega, by omega, g0, g1⟩, hQ⟩)
    unfold stepC at go
    generalize fitE e (hs.getD i.toNat []) = r at hfe go
    have go1 : r.2 = 0 → r.1 > m → LC2.spec lc6 (e, hs, a, b, r.1, 1, i + 1, ()) Q := fun g1 g2 => go _ _ (by rw [if_pos g1, if_pos g2]) (by omega) (by omega)
    have go2 : r.2 = 0 → r.1 = m → LC2.spec lc6 (e, hs, a, b, m, c + 1, i + 1, ()) Q := fun g1 g2 => go _ _ (by rw [if_pos g1, if_neg (by show ¬ r.1 > m; omega), if_pos g2]) (by omega) (by omega)
    have go3 : (r.2 ≠ 0 ∨ r.1 < m) → LC2.spec lc6 (e, hs, a, b, m, c, i + 1, ()) Q := fun g => go _ _ (by
      rcases g with g | g
      · rw [if_neg g]
      · by_cases g1 : r.2 = 0
        · rw [if_pos g1, if_neg (by show ¬ r.1 > m; omega), if_neg (by show ¬ r.1 = m; omega)]
        · rw [if_neg g1]) h2 (by omega)
    have hr2 : r.2 = 0 ∨ r.2 = 32 := by
      rw [hfe]; split
      · exact .inr rfl
      · exact .inl rfl
    clear hfe go hQ
    rw [decide_eq_true hi]
    simp only [fork_iff, req_iff, decide_eq_true_eq, decide_eq_false_iff_not, bne_iff_ne, ne_eq, beq_iff_eq, bne_eq_false_iff_eq, beq_eq_false_iff_ne]
    refine ⟨fun _ => ⟨⟨h0, hi⟩, ?_⟩, fun h => by cases h⟩
    rcases hr2 with hr2 | hr2
    · rw [hr2] at go1 go2 go3 ⊢
      refine ⟨fun h => absurd rfl h, fun _ => ⟨fun _ => ⟨fun hm => ⟨hcR, fun _ => ⟨fun hg => by omega, fun _ => ⟨hinR, hmL, go2 rfl hm⟩⟩, fun h => absurd rfl h⟩, fun hm => ⟨fun _ => ⟨fun hg => ⟨hinR, hmL, go1 rfl hg⟩, fun hg => ⟨hinR, hmL, go3 (.inr (by omega))⟩⟩, fun h => absurd rfl h⟩⟩, fun h => absurd rfl h⟩⟩
    · rw [hr2] at go1 go2 go3 ⊢
      have g3 := go3 (.inl (by omega))
      refine ⟨fun _ => ⟨fun h => absurd rfl h, fun _ => ⟨fun h => by omega, fun _ => ⟨fun h => by omega, fun _ => ⟨hinR, hmL, g3⟩⟩⟩⟩, fun h => by omega⟩
  · rw [show hs.length - i.toNat = 0 by omega] at hQ
    rw [decide_eq_false hi, fork_iff]
    exact ⟨fun h => (by cases h), fun _ => hQ⟩
theorem ok6L : Lp2Ok Tryd.prog 6 0 lc6 := lp2_of (n := 5) (ex := ex6) (m := fun (_, hs, _, _, _, _, i, _) => mL hs i) ((good2_nil _).addF ok22) fun (e, hs, a, b, m, c, i, ()) Q hx => h6L e hs a b m c i Q hx
theorem okLawBest (hw : FnOk Tryd.prog 21 fcWorks) : FnOk Tryd.prog 6 fcLawBest := fn1_of (n := 5) ((((((good2_nil _).addF hw).addF ok28).addF ok24).addF ok22).addL2 ok6L) fun (e, hs, ()) K hK => by
  show xfn1 Tryd.prog { l2 := [(6, 0, lc6)], f := [(22, fcFit), (24, fcBest), (28, fcFrom), (21, fcWorks)] } 5 6 fcLawBest (e, hs, ()) K
  rw [v6F]
  have hK : K (true, ()) := hK
  simp only [Nat.sub_zero]
  by_cases hv : inB 0 e = true ∧ hs.length ≤ 16 ∧ allH hs 0 = true
  · obtain ⟨he, hl, hH⟩ := hv
    have hB : bestE e hs = if (bestX e hs).2.2 = 1 then ((bestX e hs).2.1, 0) else (0, 4) := by unfold bestE; rw [if_pos ⟨he, hl, hH⟩]
    have hI := inv_best e hs
    have hR : Rel (bestX e hs) (runC e hs hs.length 0 (-1, 0)) := rel_run he hH hs.length 0 _ _ (Int.le_refl _) (by omega) (.inl ⟨rfl, rfl, rfl⟩)
    rw [fit_self he]
    have hlen := (inB_iff.1 he).1
    generalize bestX e hs = x at hB hI hR
    generalize runC e hs hs.length 0 (-1, 0) = y at hR ⊢
    rw [hB]
    obtain ⟨b, a, c⟩ := x
    simp only at *
    have pre : inB 0 e = true ∧ allH hs 0 = true ∧ hs.length ≤ 16 ∧ (0 : Int) ≤ 0 ∧ (0 : Int) ≤ hs.length ∧ (0 : Int) ≤ 0 ∧ (0 : Int) ≤ 0 := ⟨he, hH, hl, by omega, by omega, by omega, by omega⟩
    by_cases hc : c = 1
    · rw [if_pos hc]
      rcases hI with ⟨g1, _⟩ | ⟨g1, g2, g3, g4, g5, g6, g7, g8⟩
      · injection g1 with _ e2
        injection e2 with _ e3
        omega
      simp only at *
      have hy : y = (b, c) := by
        rcases hR with ⟨g, _⟩ | ⟨_, g⟩
        · simp only at g; omega
        · exact g
      subst hy
      have hfa := fitE_rf he (allH_at hH g2 g3)
      have hfa2 : rfI e (hs.getD a.toNat []) = b := g4
      rw [hfa2, if_neg (by omega)] at hfa
      rw [hfa]
      simp only [fork_iff, req_iff, decide_eq_true_eq, decide_eq_false_iff_not, bne_iff_ne, ne_eq, beq_iff_eq, bne_eq_false_iff_eq, beq_eq_false_iff_ne, Bool.not_eq_true', Bool.not_eq_false']
      refine ⟨fun h => by omega, fun _ => ⟨fun h => absurd trivial h, fun _ => ⟨fun h => absurd trivial h, fun _ => ⟨pre, fun h => absurd trivial h, fun _ => ⟨inR_i64.2 (by omega), fun h => absurd ⟨g2, by omega⟩ h, fun _ => ⟨fun h => absurd hc h, fun _ => ⟨⟨g2, g3⟩, fun _ => ⟨fun _ => hK, fun h => absurd trivial h⟩, fun h => absurd trivial h⟩⟩⟩⟩⟩⟩⟩
    · rw [if_neg hc]
      have hy : y.2 ≠ 1 := by
        rcases hR with ⟨_, _, g⟩ | ⟨_, g⟩
        · rw [g]; show (0 : Int) ≠ 1; omega
        · rw [g]; exact hc
      simp only [fork_iff, req_iff, decide_eq_true_eq, decide_eq_false_iff_not, bne_iff_ne, ne_eq, beq_iff_eq, bne_eq_false_iff_eq, beq_eq_false_iff_ne, Bool.not_eq_true', Bool.not_eq_false']
      refine ⟨fun h => by omega, fun _ => ⟨fun h => absurd trivial h, fun _ => ⟨fun h => absurd trivial h, fun _ => ⟨pre, fun _ => ⟨fun _ => ⟨fun _ => hK, fun h => absurd h hy⟩, fun h => absurd trivial h⟩, fun h => by omega⟩⟩⟩⟩
  · have hB : bestE e hs = (0, 31) := by unfold bestE; rw [if_neg hv]
    rw [hB]
    simp only [fork_iff, beq_self_eq_true]
    exact ⟨fun _ => ⟨fun _ => hK, fun h => by cases h⟩, fun h => by cases h⟩
end Go.P3
