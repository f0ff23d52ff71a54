/- Funds: the reference's least plan, capital, groups: the code keeps its contracts. No conditions. -/
import Derived.Test.YtklleedcdjkpeaaBearsL
set_option linter.constructorNameAsVariable false
set_option linter.unusedVariables false
set_option linter.unusedSimpArgs false
set_option maxRecDepth 100000
namespace Go.P9
open Go.Lom Go.Proofs Go

theorem take_set_succ {α : Type} {a : List α} {n : Nat} {x : α} (h : n < a.length) : (a.set n x).take (n + 1) = a.take n ++ [x] := by
  rw [List.set_eq_take_append_cons_drop, if_pos h, List.take_append]
  simp [List.take_take, Nat.min_eq_left (Nat.le_of_lt h), show n + 1 - n = 1 by omega]
theorem ok77L : Lp2Ok Try.prog 77 0 lc77 := lp2_of (n := 5) (ex := fun _ => some (sh77e, 2)) (m := fun (_, _, i, _) => (65 - i).toNat) (good2_nil _) fun (z, a, i, ()) Q hx => by
  obtain ⟨⟨hz, ha, h0, h1⟩, hQ⟩ := hx
  rw [v77L]
  simp only [fork_iff, req_iff, decide_eq_true_eq, decide_eq_false_iff_not, Nat.zero_add]
  refine ⟨fun hi => ⟨⟨h0, hi⟩, by omega, inR_i64.2 (by omega), by show (65 - (i + 1)).toNat < (65 - i).toNat; omega, show s77 z (a.set i.toNat (-1)) (i + 1) Q from ⟨⟨hz, by rw [List.length_set]; exact ha, by omega, by omega⟩, ?_⟩⟩, fun hi => ?_⟩
  · rw [show (i + 1).toNat = i.toNat + 1 by omega, take_set_succ (by omega), List.append_assoc, List.singleton_append, ← List.replicate_succ, show 65 - (i.toNat + 1) + 1 = 65 - i.toNat by omega]
    exact hQ
  · rw [List.take_of_length_le (by omega), show 65 - i.toNat = 0 by omega, List.replicate_zero, List.append_nil] at hQ
    exact hQ
theorem ok77 : FnOk Try.prog 77 fcNone := fn1_of (n := 5) ((good2_nil _).addL2 ok77L) fun () K hx => by
  rw [v77F]
  exact ⟨⟨rfl, rfl, by omega, by omega⟩, hx _ rfl⟩

/-! what can have been brought -/
theorem gM_set {m : List Int} {i j x : Int} (hm : m.length = 65) (h0 : 0 ≤ i) (h1 : i < 65) (h2 : 0 ≤ j) : gM (m.set i.toNat x) j = if j = i then x else gM m j := by
  unfold gM
  rw [getD_set (by omega)]
  by_cases h : j = i
  · rw [if_pos h, if_pos (by rw [h])]
  · rw [if_neg h, if_neg (by omega)]
theorem gM_none (j : Int) (h0 : 0 ≤ j) (h1 : j < 65) : gM (List.replicate 65 (-1)) j = -1 := by
  unfold gM
  rw [List.getD_eq_getElem?_getD, List.getElem?_replicate, if_pos (by omega)]; rfl
theorem part_all {f : Fd} {need t : Int} {m nx : List Int} {i k : Int} (h : PartM f need t m nx i k) (he : ¬ (0 ≤ gM m i ∧ k ≤ slF f t ∧ i + k ≤ fBars f)) : PartM f need t m nx (i + 1) 0 :=
  ⟨h.low, fun i' c g0 g1 g2 g3 g4 g5 g6 => by
    refine h.all i' c ?_ g1 g2 g3 g4 g5 g6
    rcases g0 with g0 | ⟨g0, _⟩
    · by_cases e : i' = i
      · subst e
        by_cases e2 : c < k
        · exact .inr ⟨rfl, e2⟩
        · exact absurd ⟨g2, by omega, by omega⟩ he
      · exact .inl (by omega)
    · omega⟩
theorem part_skip {f : Fd} {need t : Int} {m nx : List Int} {i k : Int} (h : PartM f need t m nx i k) (he : need ≤ gM m i + k * prF f t → gM m i + k * prF f t ≤ gM nx (i + k)) : PartM f need t m nx i (k + 1) :=
  ⟨h.low, fun i' c g0 g1 g2 g3 g4 g5 g6 => by
    rcases g0 with g0 | ⟨g0, g7⟩
    · exact h.all i' c (.inl g0) g1 g2 g3 g4 g5 g6
    · by_cases e : c = k
      · rw [g0, e] at g6 ⊢; exact he g6
      · exact h.all i' c (.inr ⟨g0, by omega⟩) g1 g2 g3 g4 g5 g6⟩
theorem part_set {f : Fd} {need t : Int} {m nx : List Int} {i k : Int} (hb : nx.length = 65) (h : PartM f need t m nx i k) (h0 : 0 ≤ i) (h1 : 0 ≤ k) (h2 : i + k ≤ fBars f) (h3 : fBars f < 65) (h4 : 0 ≤ gM m i) (h5 : k ≤ slF f t) (h6 : need ≤ gM m i + k * prF f t) (h7 : gM nx (i + k) < gM m i + k * prF f t) :
    PartM f need t m (nx.set (i + k).toNat (gM m i + k * prF f t)) i (k + 1) := by
  constructor
  · intro j j0 j1 j2
    rw [gM_set hb (by omega) (by omega) j0] at j2 ⊢
    by_cases e : j = i + k
    · rw [if_pos e]
      exact ⟨i, k, h0, h4, h1, h5, e.symm, h6, rfl⟩
    · rw [if_neg e] at j2 ⊢
      exact h.low j j0 j1 j2
  · intro i' c g0 g1 g2 g3 g4 g5 g6
    rw [gM_set hb (by omega) (by omega) (by omega)]
    have old : befo i k i' c → gM m i' + c * prF f t ≤ if i' + c = i + k then gM m i + k * prF f t else gM nx (i' + c) := fun hbf => by
      have := h.all i' c hbf g1 g2 g3 g4 g5 g6
      by_cases e : i' + c = i + k
      · rw [if_pos e]; rw [e] at this; omega
      · rw [if_neg e]; exact this
    rcases g0 with g0 | ⟨g0, g7⟩
    · exact old (.inl g0)
    · by_cases e : c = k
      · rw [g0, e, if_pos rfl]; exact Int.le_refl _
      · exact old (.inr ⟨g0, by omega⟩)
theorem h59c (ns : List Int) (f : Fd) (z m : List Int) (t : Int) (nx : List Int) (i k : Int) (Q : LQ) : s59c ns f z m t nx i k Q → xloop2 Try.prog {} 5 59 2 lc59c (fun _ => some (sh59b, 4)) (fun (_, _, _, _, _, _, _, k, _) => (66 - k).toNat) (ns, f, z, m, t, nx, i, k, ()) Q := by
  intro ⟨⟨hM, ht, h0, h1, h2, h3, hb, hp⟩, hQ⟩
  rw [v59c]
  obtain ⟨hN, t0, t1, hl, hmb⟩ := id hM
  obtain ⟨hf, n12, nl, b0, b1, nb⟩ := id hN
  have hA := okA_iff.1 (okF_parts hf).1
  have hs := slF_bd hf t
  have hlp : (t : Int) < f.2.2.2.2.1.length := by have := hA; dsimp only [fPrices, fIn] at *; omega
  have hls : (t : Int) < f.2.2.2.1.length := by have := hA; dsimp only [fSell, fIn] at *; omega
  have hmi := hmb i h0 (by omega)
  have hnl := hb.1
  have hmul : k ≤ slF f t → 0 ≤ k * prF f t ∧ k * prF f t ≤ 67108864 := fun g => mul64 (bdF hf) h2 g
  have fin : ¬ (0 ≤ gM m i ∧ k ≤ slF f t ∧ i + k ≤ fBars f) → Q (.exit 4) (stS 4 sh59b (ns, f, z, m, t, nx, i, ())) := fun h => hQ nx hb (part_all hp h)
  simp only [fork_iff, req_iff, decide_eq_true_eq, decide_eq_false_iff_not, Nat.zero_add]
  refine ⟨⟨h0, by omega⟩, by omega, fun c1 => ⟨⟨t0, hls⟩, fun c2 => ⟨inR_i64.2 (by omega), fun c3 => ?_, fun c3 => fin fun h => c3 h.2.2⟩, fun c2 => fin fun h => c2 h.2.1⟩, fun c1 => fin fun h => c1 h.1⟩
  have c1' : 0 ≤ gM m i := c1
  have c2' : k ≤ slF f t := c2
  have c3' : i + k ≤ fBars f := c3
  have hm := hmul c2
  have e1 : m.getD i.toNat 0 = gM m i := rfl
  have e2 : (f.2.2.2.2.1.getD t.toNat (0, 0)).1 = prF f t := rfl
  have e3 : nx.getD (i + k).toNat 0 = gM nx (i + k) := rfl
  rw [e1, e2, e3]
  have nx2 : ∀ nx', bdM nx' (t + 1) → PartM f (ns.getD t.toNat 0) t m nx' i (k + 1) → (66 - (k + 1)).toNat < (66 - k).toNat ∧ LC2.spec lc59c (ns, f, z, m, t, nx', i, k + 1, ()) Q := fun nx' hb' hp' =>
    ⟨by omega, show s59c ns f z m t nx' i (k + 1) Q from ⟨⟨hM, ht, h0, h1, by omega, by omega, hb', hp'⟩, hQ⟩⟩
  refine ⟨⟨h0, by omega⟩, by omega, ⟨t0, hlp⟩, inR_i64.2 (show -9223372036854775808 ≤ k * prF f t ∧ k * prF f t ≤ 9223372036854775807 by omega), inR_i64.2 (show -9223372036854775808 ≤ gM m i + k * prF f t ∧ gM m i + k * prF f t ≤ 9223372036854775807 by omega), ⟨t0, ht⟩, fun c4 => ⟨inR_i64.2 (by omega), ⟨by omega, by omega⟩, by omega, fun c5 => ⟨inR_i64.2 (by omega), ⟨by omega, by omega⟩, by omega, inR_i64.2 (by omega), nx2 _ ⟨by rw [List.length_set]; exact hnl, fun j j0 j1 => ?_⟩ (part_set hnl hp h0 h2 c3' (by omega) c1' c2' c4 (by omega))⟩, fun c5 => ⟨inR_i64.2 (by omega), nx2 _ hb (part_skip hp fun _ => by omega)⟩⟩, fun c4 => ⟨inR_i64.2 (by omega), nx2 _ hb (part_skip hp fun h => absurd h c4)⟩⟩
  have := hb.2 j j0 j1
  rw [gM_set hnl (by omega) (by omega) j0]
  split
  · omega
  · exact this
theorem ok59c : Lp2Ok Try.prog 59 2 lc59c := lp2_of (n := 5) (ex := fun _ => some (sh59b, 4)) (m := fun (_, _, _, _, _, _, _, k, _) => (66 - k).toNat) (good2_nil _) fun (ns, f, z, m, t, nx, i, k, ()) Q hx => h59c ns f z m t nx i k Q hx
theorem h59b (ns : List Int) (f : Fd) (z m : List Int) (t : Int) (nx : List Int) (i : Int) (Q : LQ) : s59b ns f z m t nx i Q → xloop2 Try.prog { l2 := [(59, 2, lc59c)] } 5 59 1 lc59b (fun _ => some (sh59x, 4)) (fun (_, _, _, _, _, _, i, _) => (66 - i).toNat) (ns, f, z, m, t, nx, i, ()) Q := by
  intro ⟨⟨hM, ht, h0, h1, hb, hp⟩, hQ⟩
  rw [v59b]
  obtain ⟨hN, t0, t1, hl, hmb⟩ := id hM
  obtain ⟨hf, n12, nl, b0, b1, nb⟩ := id hN
  rw [show f.2.2.2.2.2.2.2.2 = fBars f from rfl]
  simp only [fork_iff, req_iff, decide_eq_true_eq, decide_eq_false_iff_not, Nat.zero_add]
  refine ⟨fun hi => ⟨⟨hM, ht, h0, hi, by omega, by omega, hb, hp⟩, fun nx' hb' hp' => ⟨inR_i64.2 (by omega), by show (66 - (i + 1)).toNat < (66 - i).toNat; omega, show s59b ns f z m t nx' (i + 1) Q from ⟨⟨hM, ht, by omega, by omega, hb', hp'⟩, hQ⟩⟩⟩, fun hi => hQ nx hb ?_⟩
  rw [show fBars f + 1 = i by omega]
  exact hp
theorem ok59b : Lp2Ok Try.prog 59 1 lc59b := lp2_of (n := 5) (ex := fun _ => some (sh59x, 4)) (m := fun (_, _, _, _, _, _, i, _) => (66 - i).toNat) ((good2_nil _).addL2 ok59c) fun (ns, f, z, m, t, nx, i, ()) Q hx => h59b ns f z m t nx i Q hx
theorem part_step {f : Fd} {need t : Int} {m nx : List Int} (h : PartM f need t m nx (fBars f + 1) 0) : StepM (prF f) (slF f) (fBars f) need t (gM m) (gM nx) :=
  ⟨h.low, fun i c g0 g1 g2 g3 g4 g5 => h.all i c (.inl (by omega)) g0 g1 g2 g3 g4 g5⟩
theorem h59a (ns : List Int) (f : Fd) (z m : List Int) (t : Int) (Q : LQ) : s59a ns f z m t Q → xloop2 Try.prog { f := [(77, fcNone)], l2 := [(59, 1, lc59b)] } 5 59 0 lc59a (fun _ => some (sh59e, 2)) (fun (ns, _, _, _, t, _) => mL ns t) (ns, f, z, m, t, ()) Q := by
  intro ⟨⟨hM, hz⟩, hQ⟩
  rw [v59a]
  obtain ⟨hN, t0, t1, hl, hmb⟩ := id hM
  obtain ⟨hf, n12, nl, b0, b1, nb⟩ := id hN
  simp only [fork_iff, req_iff, decide_eq_true_eq, decide_eq_false_iff_not, Nat.zero_add]
  refine ⟨fun hi r hr => ?_, fun hi => hQ m ⟨hl, fun b hb0 hb1 => ?_⟩⟩
  · have hrl : r.length = 65 := by rw [hr]; simp
    refine ⟨hrl, hrl, ⟨hM, hi, by omega, by omega, ⟨hrl, fun j j0 j1 => by rw [hr, gM_none j j0 j1]; omega⟩, ⟨fun j j0 j1 j2 => ?_, fun i' c g0 => ?_⟩⟩, fun nx hb hp => ⟨hb.1, hb.1, by rw [hb.1, hl], inR_i64.2 (by omega), mL_lt hi, show s59a ns f z nx (t + 1) Q from ⟨⟨⟨hN, by omega, by omega, hb⟩, hz⟩, fun r' hr' => hQ r' ⟨hr'.1, fun b hb0 hb1 => ?_⟩⟩⟩⟩
    · rw [hr, gM_none j j0 (by omega)] at j2; omega
    · intro g1 _ g3
      rcases g0 with g0 | g0 <;> omega
    · rw [hr'.2 b hb0 hb1, drop_step 0 t0 hi]
      exact step_feas (bdF hf) (part_step hp) fun k hk => by omega
  · rw [drop_end hi]
    constructor
    · intro h; exact ⟨b, hb0, hb1, h, rfl⟩
    · rintro ⟨i, _, _, h, e⟩
      have e : i = b := e
      rw [← e]; exact h
theorem ok59a : Lp2Ok Try.prog 59 0 lc59a := lp2_of (n := 5) (ex := fun _ => some (sh59e, 2)) (m := fun (ns, _, _, _, t, _) => mL ns t) (((good2_nil _).addL2 ok59b).addF ok77) fun (ns, f, z, m, t, ()) Q hx => h59a ns f z m t Q hx
theorem h59F (f : Fd) (ns : List Int) (t b br : Int) (K : dens [AM] → Prop) : ((needB f ns (fBars f) ∧ 0 ≤ t ∧ t ≤ ns.length ∧ 0 ≤ b ∧ b ≤ fBars f ∧ 0 ≤ br ∧ br ≤ 1073741824) ∧
  ∀ r : List Int, r.length = 65 → (∀ b', 0 ≤ b' → b' ≤ fBars f → (0 ≤ gM r b' ↔ feas (prF f) (slF f) (· = b') (ns.drop t.toNat) t b br)) → K (r, ())) → xfn1 Try.prog { f := [(77, fcNone)], l2 := [(59, 0, lc59a)] } 5 59 fcSold (f, ns, t, b, br, ()) K := by
  intro ⟨⟨hN, t0, t1, h0, h1, h2, h3⟩, hK⟩
  rw [v59F]
  obtain ⟨hf, n12, nl, b0, b1, nb⟩ := id hN
  intro r hr
  have hrl : r.length = 65 := by rw [hr]; simp
  have hg : ∀ j, 0 ≤ j → j < 65 → gM (r.set b.toNat br) j = if j = b then br else -1 := fun j j0 j1 => by
    rw [gM_set hrl h0 (by omega) j0]
    by_cases e : j = b
    · rw [if_pos e, if_pos e]
    · rw [if_neg e, if_neg e, hr, gM_none j j0 j1]
  simp only [req_iff, decide_eq_true_eq, Nat.zero_add]
  refine ⟨hrl, hrl, ⟨h0, by omega⟩, by omega, ⟨⟨hN, t0, t1, by rw [List.length_set]; exact hrl, fun j j0 j1 => ?_⟩, trivial⟩, fun r' hr' => ⟨hr'.1, hr'.1, hr'.1, hr'.1, hr'.1, hK r' hr'.1 fun b' g0 g1 => ?_⟩⟩
  · rw [hg j j0 j1]
    split <;> omega
  · rw [hr'.2 b' g0 g1]
    constructor
    · rintro ⟨i, i0, i1, i2, i3⟩
      rw [hg i i0 (by omega)] at i2 i3
      by_cases e : i = b
      · rw [if_pos e] at i3; rw [e] at i3; exact i3
      · rw [if_neg e] at i2; omega
    · intro h
      refine ⟨b, h0, h1, ?_, ?_⟩
      · rw [hg b h0 (by omega), if_pos rfl]; exact h2
      · rw [hg b h0 (by omega), if_pos rfl]; exact h
theorem ok59 : FnOk Try.prog 59 fcSold := fn1_of (n := 5) (((good2_nil _).addL2 ok59a).addF ok77) fun (f, ns, t, b, br, ()) K hx => h59F f ns t b br K hx

/-! the fewest -/
theorem h58L (ns : List Int) (f : Fd) (r : List Int) (i : Int) (Q : LQ) : ((okF f = true ∧ r.length = 65 ∧ 0 ≤ i ∧ i ≤ fBars f + 1 ∧ (∀ b, 0 ≤ b → b ≤ fBars f → (0 ≤ gM r b ↔ askF f ns b true 0 0 ≤ 0))) ∧
  (fewI f ns (fBars f + 1 - i).toNat i < 0 → Q (.exit 0) (stS 0 .nil ())) ∧ (∀ v, v = fewI f ns (fBars f + 1 - i).toNat i → 0 ≤ v → Q .ret (stS 0 (S [(4, .v I)]) (v, ())))) → xloop2 Try.prog {} 5 58 0 (lc58 ns) ex58 (fun (_, _, i, _) => (66 - i).toNat) (f, r, i, ()) Q := by
  intro ⟨⟨hf, hr, h0, h1, hg⟩, hQ1, hQ2⟩
  rw [v58L]
  have hB := okB_iff.1 (okF_parts hf).2.2.1
  have hb : fBars f ≤ 64 := hB.2.2.2.2.2
  rw [show f.2.2.2.2.2.2.2.2 = fBars f from rfl]
  simp only [fork_iff, req_iff, decide_eq_true_eq, decide_eq_false_iff_not, Nat.zero_add]
  refine ⟨fun hi => ⟨⟨h0, by omega⟩, by omega, fun c => hQ2 i ?_ h0, fun c => ⟨inR_i64.2 (by omega), by show (66 - (i + 1)).toNat < (66 - i).toNat; omega, ?_⟩⟩, fun hi => hQ1 ?_⟩
  · rw [show (fBars f + 1 - i).toNat = (fBars f + 1 - (i + 1)).toNat + 1 by omega]
    simp only [fewI]
    rw [if_pos ((hg i h0 hi).1 c)]
  · rw [show (fBars f + 1 - i).toNat = (fBars f + 1 - (i + 1)).toNat + 1 by omega] at hQ1 hQ2
    simp only [fewI] at hQ1 hQ2
    rw [if_neg (fun h => c ((hg i h0 hi).2 h))] at hQ1 hQ2
    have g1 : 0 ≤ i + 1 := by omega
    have g2 : i + 1 ≤ fBars f + 1 := by omega
    exact ⟨⟨hf, hr, g1, g2, hg⟩, hQ1, hQ2⟩
  · rw [show (fBars f + 1 - i).toNat = 0 by omega]
    simp [fewI]
theorem ok58L (ns : List Int) : Lp2Ok Try.prog 58 0 (lc58 ns) := lp2_of (n := 5) (ex := ex58) (m := fun (_, _, i, _) => (66 - i).toNat) (good2_nil _) fun (f, r, i, ()) Q hx => h58L ns f r i Q hx
theorem fn1_dep {c : FC} {k n : Nat} (T : densA c.as → Tb) (hT : ∀ x, Good2 Try.prog (T x)) (h : ∀ x K, c.spec x K → xfn1 Try.prog (T x) n k c x K) : FnOk Try.prog k c := fun x K hx =>
  fn1_of (c := ⟨c.as, c.rs, fun y K => y = x ∧ c.spec y K⟩) (n := n) (hT x) (fun y K' hy => by
    obtain ⟨e, hy⟩ := hy
    rw [e] at hy ⊢
    have := h x K' hy
    unfold xfn1 at this ⊢
    exact this) x K ⟨rfl, hx⟩
theorem h58F (f : Fd) (ns : List Int) (K : dens [I] → Prop) : (needB f ns (fBars f) ∧ ∀ v, v = fewN f ns → K (v, ())) → xfn1 Try.prog { f := [(59, fcSold)], l2 := [(58, 0, lc58 ns)] } 5 58 fcFew (f, ns, ()) K := by
  intro ⟨hN, hK⟩
  obtain ⟨hf, n12, nl, b0, b1, nb⟩ := id hN
  rw [v58F]
  simp only [req_iff, decide_eq_true_eq, List.drop_zero, Int.sub_zero]
  have z0 : (0 : Int) ≤ 0 := Int.le_refl _
  have z1 : (0 : Int) ≤ 1073741824 := by omega
  have z2 : (0 : Int) ≤ ns.length := by omega
  have z3 : (0 : Int) ≤ fBars f + 1 := by omega
  refine ⟨⟨hN, z0, z2, z0, b0, z0, z1⟩, fun r hr hg => ⟨hr, hr, ⟨hf, hr, z0, z3, fun b g0 g1 => ?_⟩, fun c => hK _ ?_, fun v e _ => hK v e⟩⟩
  · rw [hg b g0 g1, ask0_iff (needB_le hN g0 g1) (by omega) (by omega)]
    exact Iff.rfl
  · unfold fewN
    rcases fewI_spec (f := f) (ns := ns) (fBars f + 1).toNat 0 with h | h <;> omega

theorem ok58 : FnOk Try.prog 58 fcFew := fn1_dep (n := 5) (fun x => { f := [(59, fcSold)], l2 := [(58, 0, lc58 x.2.1)] }) (fun x => ((good2_nil _).addL2 (ok58L x.2.1)).addF ok59) fun x K hx => h58F x.1 x.2.1 K hx

/-! the least plan -/
theorem okP_feas {f : Fd} {ns : List Int} {B i k m : Int} {out : List Int} (h : okP f ns B i k m out) (hi : i < ns.length) :
    ∀ c', 0 ≤ c' → c' < cF f ns B i k m → ¬ (ns.getD i.toNat 0 ≤ m + c' * prF f i ∧ feas (prF f) (slF f) (· = B) (ns.drop (i + 1).toNat) (i + 1) (k + c') (m + c' * prF f i)) := by
  obtain ⟨hN, h0, h1, h2, h3, h4, h5, h6, h7⟩ := h
  obtain ⟨hf, n12, nl, b0, b1, nb⟩ := id hN
  have hb := bdF hf
  have hd := drop_step (l := ns) 0 h0 hi
  have hlen : (ns.drop i.toNat).length ≤ 12 := by rw [List.length_drop]; omega
  unfold feF at h7
  rw [hd] at h7 hlen
  have hc : cF f ns B i k m = firstC (okCh (prF f) (slF f) B (ns.getD i.toNat 0) (ns.drop (i + 1).toNat) i k m) (askC (slF f) B i k) 0 := rfl
  exact (plan_step hb hc (by omega) (by omega) h7).2.2.2.2.2.2
theorem h21b (f : Fd) (ns : List Int) (B : Int) (out : List Int) (k m i n : Int) (Q : LQ) : s21b f ns B out k m i n Q → xloop2 Try.prog { f := [(30, fcFrom), (59, fcSold)] } 5 21 1 lc21b (fun _ => some (sh21b, 2)) (fun (_, _, _, _, _, _, _, n, _) => (66 - n).toNat) (f, ns, B, out, k, m, i, n, ()) Q := by
  intro ⟨⟨⟨hNf, hBf, hP⟩, hi, h0, h1⟩, hQ⟩
  rw [v21b, seg_all' (l := out) rfl]
  obtain ⟨hN, g0, g1, g2, g3, g4, g5, g6, g7⟩ := id hP
  obtain ⟨hf, n12, nl, b0, b1, nb⟩ := id hN
  have hb := bdF hf
  have hA := okA_iff.1 (okF_parts hf).1
  obtain ⟨k1, k2, k3, k4, _, _, k7, k8⟩ := okP_step hP hi
  have hfe : feas (prF f) (slF f) (· = B) (ns.drop (i + 1).toNat) (i + 1) (k + cF f ns B i k m) (m + cF f ns B i k m * prF f i) := k7.2.2.2.2.2.2.2.2
  have hno := okP_feas hP hi
  have hs := slF_bd hf i
  have hlp : (i : Int) < f.2.2.2.2.1.length := by have := hA; dsimp only [fPrices, fIn] at *; omega
  have hls : (i : Int) < f.2.2.2.1.length := by have := hA; dsimp only [fSell, fIn] at *; omega
  have hm := mul64 hb h0 (t := i) (c := n) (by omega)
  have hns : n ≤ f.2.2.2.1.getD i.toNat 0 := by have : n ≤ slF f i := by omega
                                                exact this
  have e2 : (f.2.2.2.2.1.getD i.toNat (0, 0)).1 = prF f i := rfl
  rw [e2]
  have nx : ¬ (ns.getD i.toNat 0 ≤ m + n * prF f i ∧ feas (prF f) (slF f) (· = B) (ns.drop (i + 1).toNat) (i + 1) (k + n) (m + n * prF f i)) → (66 - (n + 1)).toNat < (66 - n).toNat ∧ LC2.spec lc21b (f, ns, B, out, k, m, i, n + 1, ()) Q := fun h => by
    have hne : n ≠ cF f ns B i k m := fun e => h (by rw [e]; exact ⟨k4, hfe⟩)
    exact ⟨by omega, show s21b f ns B out k m i (n + 1) Q from ⟨⟨⟨hNf, hBf, hP⟩, hi, by omega, by omega⟩, hQ⟩⟩
  have q1 : 0 ≤ i + 1 := by omega
  have q2 : i + 1 ≤ ns.length := by omega
  have q3 : 0 ≤ k + n := by omega
  have q4 : k + n ≤ fBars f := by omega
  have q5 : 0 ≤ m + n * prF f i := by omega
  have q6 : m + n * prF f i ≤ 1073741824 := by omega
  have i1 : -9223372036854775808 ≤ n * prF f i ∧ n * prF f i ≤ 9223372036854775807 := by omega
  have i2 : -9223372036854775808 ≤ m + n * prF f i ∧ m + n * prF f i ≤ 9223372036854775807 := by omega
  simp only [fork_iff, req_iff, decide_eq_true_eq, decide_eq_false_iff_not, Nat.zero_add, Bool.not_eq_true', Bool.not_eq_false']
  refine ⟨⟨g0, hls⟩, fun c => absurd ⟨h0, hns⟩ c, fun _ => ⟨⟨g0, hlp⟩, inR_i64.2 i1, inR_i64.2 i2, ⟨g0, hi⟩, fun c => ⟨inR_i64.2 (by omega), Nat.le_refl _, nx fun h => by omega⟩, fun c => ⟨inR_i64.2 (by omega), inR_i64.2 (by omega), ⟨g0, hlp⟩, inR_i64.2 i1, inR_i64.2 i2, ⟨hNf, q1, q2, q3, q4, q5, q6⟩, fun r hr hg => ⟨⟨by omega, by omega⟩, by omega, fun c2 => ⟨inR_i64.2 (by omega), Nat.le_refl _, nx fun h => ?_⟩, fun c2 => ⟨Nat.le_refl _, ?_⟩⟩⟩⟩⟩
  · have h2 : 0 ≤ gM r B := (hg B (by omega) hBf).2 h.2
    have c2 : gM r B < 0 := c2
    omega
  · have h2 : feas (prF f) (slF f) (· = B) (ns.drop (i + 1).toNat) (i + 1) (k + n) (m + n * prF f i) := (hg B (by omega) hBf).1 (by
      have c2 : ¬ gM r B < 0 := c2
      omega)
    have e : n = cF f ns B i k m := by
      by_cases e : n = cF f ns B i k m
      · exact e
      · exact absurd ⟨by omega, h2⟩ (hno n h0 (by omega))
    rw [← e] at hQ
    exact hQ
theorem ok21b : Lp2Ok Try.prog 21 1 lc21b := lp2_of (n := 5) (ex := fun _ => some (sh21b, 2)) (m := fun (_, _, _, _, _, _, _, n, _) => (66 - n).toNat) (((good2_nil _).addF ok59).addF ok30) fun (f, ns, B, out, k, m, i, n, ()) Q hx => h21b f ns B out k m i n Q hx
theorem h21a (f : Fd) (ns : List Int) (B : Int) (out : List Int) (k m i : Int) (Q : LQ) : s21a f ns B out k m i Q → xloop2 Try.prog { l2 := [(21, 1, lc21b)] } 5 21 0 lc21a (fun _ => some (sh21e, 1)) (fun (_, ns, _, _, _, _, i, _) => mL ns i) (f, ns, B, out, k, m, i, ()) Q := by
  intro ⟨⟨hNf, hBf, hP⟩, hQ⟩
  rw [v21a, seg_all' (l := out) rfl, seg_app5]
  obtain ⟨hN, g0, g1, g2, g3, g4, g5, g6, g7⟩ := id hP
  obtain ⟨hf, n12, nl, b0, b1, nb⟩ := id hN
  have hA := okA_iff.1 (okF_parts hf).1
  have e2 : (f.2.2.2.2.1.getD i.toNat (0, 0)).1 = prF f i := rfl
  rw [e2]
  simp only [fork_iff, req_iff, decide_eq_true_eq, decide_eq_false_iff_not, Nat.zero_add]
  refine ⟨fun hi => ?_, fun hi => ⟨Nat.le_refl _, ?_⟩⟩
  · obtain ⟨k1, k2, k3, k4, _, _, k7, k8⟩ := okP_step hP hi
    have hlp : (i : Int) < f.2.2.2.2.1.length := by have := hA; dsimp only [fPrices, fIn] at *; omega
    have hm := mul64 (bdF hf) k1 k2
    refine ⟨Nat.le_refl _, ⟨⟨hNf, hBf, hP⟩, hi, by omega, k1⟩, Nat.le_refl _, fits_small (by omega), inR_i64.2 (by omega), ⟨g0, hlp⟩, inR_i64.2 (by omega), inR_i64.2 (by omega), trivial, trivial, inR_i64.2 (by omega), by simp [seg], mL_lt hi, show s21a f ns B (out ++ [cF f ns B i k m]) _ _ (i + 1) Q from ⟨⟨hNf, hBf, k7⟩, ?_⟩⟩
    rw [k8] at hQ
    rw [List.append_assoc]; exact hQ
  · have : plK f ns B i k m = [] := by unfold plK; rw [drop_end hi]; rfl
    rw [this, List.append_nil] at hQ; exact hQ
theorem ok21a : Lp2Ok Try.prog 21 0 lc21a := lp2_of (n := 5) (ex := fun _ => some (sh21e, 1)) (m := fun (_, ns, _, _, _, _, i, _) => mL ns i) ((good2_nil _).addL2 ok21b) fun (f, ns, B, out, k, m, i, ()) Q hx => h21a f ns B out k m i Q hx
theorem ok21 : FnOk Try.prog 21 fcLeast := fn1_of (n := 5) (((((good2_nil _).addL2 ok21a).addF ok58).addF ok57).addF ok36) fun (f, ()) K hx => by
  obtain ⟨hb, hK⟩ := hx
  have hb : bigF f := hb
  have hK : K ((leastR f).1, (leastR f).2.1, (leastR f).2.2, ()) := hK
  rw [v21F, chkE_ne]
  unfold leastR at hK
  simp only [fork_iff, req_iff, Bool.not_eq_true', Bool.not_eq_false', decide_eq_true_eq, decide_eq_false_iff_not, Nat.zero_add, List.nil_append]
  refine ⟨hb, fun h => ?_, fun h => ⟨h, needsL_B h, fun v hv => ?_⟩⟩
  · unfold chkE; rw [h] at hK ⊢; exact hK
  · subst hv
    rw [if_pos h] at hK
    refine ⟨fun c => ?_, fun c => ⟨⟨needsL_B h, ?_⟩, Nat.le_refl _, ?_⟩⟩
    · rw [if_pos c] at hK; exact hK
    · rcases few_cases (f := f) (ns := needsL f) with h1 | ⟨h1, h2, h3, h4⟩
      · omega
      · have hN := needB_le (needsL_B h) h1 h2
        refine ⟨h2, hN, by omega, by omega, by simp, by omega, h1, by omega, by omega, ?_⟩
        have := (ask0_iff hN (ex := true) (by omega) (by omega)).1 h3
        exact this
    · rw [if_neg c] at hK; rw [seg_all' rfl]; exact hK

/-! the capital -/
theorem h24a (f : Fd) (ns : List Int) (lo hi t : Int) (Q : LQ) : s24a f ns lo hi t Q → xloop2 Try.prog {} 5 24 0 lc24a (fun _ => some (sh24b, 1)) (fun (_, ns, _, _, t, _) => mL ns t) (f, ns, lo, hi, t, ()) Q := by
  intro ⟨⟨hH, h0, h1, h2, h3⟩, hQ⟩
  have hH : needH f ns := hH
  rw [v24a]
  obtain ⟨⟨hf, n12, nl, b0, b1, nb⟩, hb⟩ := id hH
  simp only [fork_iff, req_iff, decide_eq_true_eq, decide_eq_false_iff_not, Nat.zero_add]
  refine ⟨fun c => ⟨⟨h0, c⟩, inR_i64.2 (by omega), mL_lt c, ?_⟩, fun c => hQ hi (Int.le_refl _) h3 fun x hx => ?_⟩
  · have hx := hb _ (getD_mem (d := ns) (i := t.toNat) (by omega) 0)
    rw [drop_step 0 h0 c] at hQ
    generalize ns.getD t.toNat 0 = x at *
    have hm : hi ≤ (if x > hi then x else hi) ∧ x ≤ (if x > hi then x else hi) ∧ (if x > hi then x else hi) ≤ 562949953421312 := by split <;> omega
    refine (show s24a f ns lo (if x > hi then x else hi) (t + 1) Q from ⟨⟨hH, by omega, by omega, Int.le_trans h2 hm.1, hm.2.2⟩, fun h g0 g1 g2 => hQ h (Int.le_trans hm.1 g0) g1 fun z hz => ?_⟩)
    rcases List.mem_cons.1 hz with rfl | hz
    · exact Int.le_trans hm.2.1 g0
    · exact g2 z hz
  · rw [drop_end c] at hx; cases hx
theorem ok24a : Lp2Ok Try.prog 24 0 lc24a := lp2_of (n := 5) (ex := (fun _ => some (sh24b, 1))) (m := (fun (_, ns, _, _, t, _) => mL ns t)) (good2_nil _) fun (f, ns, lo, hi, t, ()) Q hx => h24a f ns lo hi t Q hx
theorem h24c (f : Fd) (ns : List Int) (lo hi mid : Int) (less : List Int) (t : Int) (Q : LQ) : s24c f ns lo hi mid less t Q → xloop2 Try.prog {} 5 24 2 lc24c (fun _ => some (sh24d, 1)) (fun (_, ns, _, _, _, _, t, _) => mL ns t) (f, ns, lo, hi, mid, less, t, ()) Q := by
  intro ⟨⟨hH, h0, h1, h2, h3, h4⟩, hQ⟩
  have hH : needH f ns := hH
  have h2 : (less.length : Int) ≤ t := h2
  rw [v24c, seg_app5, seg_all' (l := less) rfl]
  obtain ⟨⟨hf, n12, nl, b0, b1, nb⟩, hb⟩ := id hH
  simp only [fork_iff, req_iff, decide_eq_true_eq, decide_eq_false_iff_not, Nat.zero_add]
  refine ⟨fun c => ⟨⟨h0, c⟩, ?_⟩, fun c => ⟨Nat.le_refl _, ?_⟩⟩
  · have hx := hb _ (getD_mem (d := ns) (i := t.toNat) (by omega) 0)
    rw [drop_step 0 h0 c] at hQ
    generalize ns.getD t.toNat 0 = x at *
    refine ⟨inR_i64.2 (by omega), Nat.le_refl _, fits_small (by omega), inR_i64.2 (by omega), by simp [seg], mL_lt c, show s24c f ns lo hi mid (less ++ [x - mid]) (t + 1) Q from ⟨⟨hH, by omega, by omega, by simp; omega, h3, h4⟩, ?_⟩⟩
    rw [List.append_assoc]; exact hQ
  · rw [drop_end c, List.map_nil, List.append_nil] at hQ; exact hQ
theorem ok24c : Lp2Ok Try.prog 24 2 lc24c := lp2_of (n := 5) (ex := (fun _ => some (sh24d, 1))) (m := (fun (_, ns, _, _, _, _, t, _) => mL ns t)) (good2_nil _) fun (f, ns, lo, hi, mid, less, t, ()) Q hx => h24c f ns lo hi mid less t Q hx
theorem h24b (f : Fd) (ns : List Int) (lo hi : Int) (Q : LQ) : s24b f ns lo hi Q → xloop2 Try.prog { f := [(58, fcFew)], l2 := [(24, 2, lc24c)] } 5 24 1 lc24b (fun _ => some (sh24e, 0)) (fun (_, _, lo, hi, _) => (hi - lo).toNat) (f, ns, lo, hi, ()) Q := by
  intro ⟨⟨hH, h0, h1, h2, h3⟩, hQ⟩
  have hH : needH f ns := hH
  rw [v24b]
  simp only [fork_iff, req_iff, decide_eq_true_eq, decide_eq_false_iff_not, Nat.zero_add, List.nil_append, List.drop_zero]
  refine ⟨inR_i64.2 (by omega), fun c => ?_, fun c => hQ hi (by omega)⟩
  rw [show (lo + hi).tdiv 2 = (lo + hi) / 2 from Int.tdiv_eq_ediv_of_nonneg (by omega)]
  have hm0 : lo < (lo + hi) / 2 := by omega
  have hm1 : (lo + hi) / 2 < hi := by omega
  generalize (lo + hi) / 2 = mid at *
  refine ⟨inR_i64.2 (by omega), inR_i64.2 (by omega), ⟨hH, by omega, by omega, by simp, by omega, by omega⟩, needH_less hH (by omega) (by omega), fun v hv => ?_⟩
  have hfew := few_less hH (d := mid) (by omega) (by omega)
  rw [← hv] at hfew
  refine ⟨fun g => ⟨by omega, show s24b f ns lo mid Q from ⟨⟨hH, h0, h1, hfew.1 g, by omega⟩, hQ⟩⟩, fun g => ⟨by omega, show s24b f ns mid hi Q from ⟨⟨hH, by omega, ?_, h2, h3⟩, hQ⟩⟩⟩
  have : ¬ askF f ns (fBars f) false 0 0 ≤ mid := fun h => g (hfew.2 h)
  omega
theorem ok24b : Lp2Ok Try.prog 24 1 lc24b := lp2_of (n := 5) (ex := (fun _ => some (sh24e, 0))) (m := (fun (_, _, lo, hi, _) => (hi - lo).toNat)) (((good2_nil _).addL2 ok24c).addF ok58) fun (f, ns, lo, hi, ()) Q hx => h24b f ns lo hi Q hx
theorem ok24 : FnOk Try.prog 24 fcCap := fn1_of (n := 5) ((((((good2_nil _).addL2 ok24b).addL2 ok24a).addF ok58).addF ok57).addF ok36) fun (f, ()) K hx => by
  obtain ⟨hb, hK⟩ := hx
  have hb : bigF f := hb
  have hK : K (capR f, chkE f, ()) := hK
  rw [v24F, chkE_ne]
  unfold capR at hK
  simp only [fork_iff, req_iff, Bool.not_eq_true', Bool.not_eq_false', decide_eq_true_eq, decide_eq_false_iff_not, List.drop_zero]
  refine ⟨hb, fun h => ?_, fun h => ⟨h, needsL_B h, fun v hv => ?_⟩⟩
  · rw [h] at hK; exact hK
  · subst hv
    have hc : chkE f = 0 := by unfold chkE; rw [h]; rfl
    rw [if_pos h, hc] at hK
    have hH := needsL_H h
    have hl := lackF_iff h
    have ha : lackF f = maxI 0 (askF f (needsL f) (fBars f) false 0 0) := rfl
    have hmx : ∀ x : Int, maxI 0 x = if 0 < x then x else 0 := fun x => rfl
    refine ⟨fun c => ?_, fun c => ⟨⟨hH, by omega, by omega, by omega, by omega⟩, fun m g0 g1 g2 => ⟨⟨hH, by omega, ?_, ?_, g1⟩, fun a ea => ?_⟩⟩⟩
    · have := hl.2 c
      have e : lackF f = 0 := by rw [ha, hmx] at this ⊢; split at this <;> split <;> omega
      rw [e] at hK; exact hK
    · have : ¬ lackF f ≤ 0 := fun h => c (hl.1 h)
      rw [ha, hmx] at this
      split at this <;> omega
    · exact (ask_all_iff hH.1 g0 (by omega)).2 (feas_zero (pr := prF f) (fin := finB (fBars f) false) (fun t => (slF_bd h t).1) (show (0 : Int) ≤ fBars f from hH.1.2.2.2.1) g2)
    · have : ¬ lackF f ≤ 0 := fun h => c (hl.1 h)
      have e : lackF f = a := by rw [ha, hmx] at this ⊢; rw [ea]; split at this <;> split <;> omega
      rw [e] at hK; exact hK

/-! how many groups -/
theorem ok63 : FnOk Try.prog 63 fcPoss := fn1_of (n := 5) (((good2_nil _).addF ok58).addF ok57) fun (f, ()) K hx => by
  obtain ⟨hf, hK⟩ := hx
  have hf : okF f = true := hf
  have hK : K (decide (lackF f ≤ 0), ()) := hK
  rw [v63F]
  refine ⟨hf, rfl, needsL_B hf, fun v hv => ?_⟩
  rw [hv, show decide (fewN f (needsL f) ≥ 0) = decide (lackF f ≤ 0) from decide_eq_decide.2 (lackF_iff hf).symm]
  exact hK
theorem h26L (f : Fd) (n : Int) (Q : LQ) : s26 f n Q → xloop2 Try.prog { f := [(63, fcPoss)] } 5 26 0 lc26 ex26 (fun (_, n, _) => (n + 1).toNat) (f, n, ()) Q := by
  intro ⟨⟨hf, h0, h1⟩, hQ1, hQ2⟩
  have h1 : n ≤ (fGroups f).length := h1
  have hn := okF_n hf
  rw [v26L]
  change Go.Lom.fork (decide (n ≥ 0)) (okF (wB f n) = true ∧ Go.Lom.fork (decide (lackF (wB f n) ≤ 0)) _ _) _
  simp only [fork_iff, req_iff, decide_eq_true_eq, decide_eq_false_iff_not]
  refine ⟨fun c => ⟨okF_wB hf c h1, fun g => hQ2 n ?_ c, fun g => ⟨inR_i64.2 (by omega), by show (n - 1 + 1).toNat < (n + 1).toNat; omega, show s26 f (n - 1) Q from ?_⟩⟩, fun c => hQ1 ?_⟩
  · rw [show (n + 1).toNat = n.toNat + 1 by omega]
    simp only [topI]
    have hn' : ((n.toNat : Nat) : Int) = n := by omega
    rw [hn', if_neg]
    unfold lackB
    simpa using g
  · rw [show (n + 1).toNat = n.toNat + 1 by omega] at hQ1 hQ2
    simp only [topI] at hQ1 hQ2
    have hn' : ((n.toNat : Nat) : Int) = n := by omega
    have hl : lackB f n = true := by unfold lackB; exact decide_eq_true (by omega)
    rw [hn', if_pos hl] at hQ1 hQ2
    refine ⟨⟨hf, by omega, by omega⟩, ?_, ?_⟩
    · rw [show (n - 1 + 1).toNat = n.toNat by omega]; exact hQ1
    · rw [show (n - 1 + 1).toNat = n.toNat by omega]; exact hQ2
  · rw [show (n + 1).toNat = 0 by omega]
    simp [topI]
theorem ok26L : Lp2Ok Try.prog 26 0 lc26 := lp2_of (n := 5) (ex := ex26) (m := (fun (_, n, _) => (n + 1).toNat)) ((good2_nil _).addF ok63) fun (f, n, ()) Q hx => h26L f n Q hx
theorem ok26 : FnOk Try.prog 26 fcBears := fn1_of (n := 5) (((good2_nil _).addL2 ok26L).addF ok36) fun (f, ()) K hx => by
  obtain ⟨hb, hK⟩ := hx
  have hb : bigF f := hb
  have hK : K ((bearsR f).1, (bearsR f).2, ()) := hK
  rw [v26F, chkE_ne, show f.2.2.2.2.2.1 = fGroups f from rfl]
  unfold bearsR at hK
  simp only [fork_iff, Bool.not_eq_true', Bool.not_eq_false']
  refine ⟨hb, fun h => ?_, fun h => ?_⟩
  · unfold chkE; rw [h] at hK ⊢; exact hK
  · have ht := top_bear h
    rw [show (((fGroups f).length : Int) + 1).toNat = (fGroups f).length + 1 by omega, ht]
    rw [if_pos h] at hK
    have hc := bearA_cases f
    refine ⟨⟨h, by omega, by omega⟩, fun c => ?_, fun v hv c => ?_⟩
    · have e : bearA f = 0 := by split at c <;> omega
      rw [if_pos e] at hK; exact hK
    · by_cases e : bearA f = -1
      · rw [if_pos e] at hv
        rw [if_neg (by omega), if_pos e] at hK
        rw [hv]; exact hK
      · rw [if_neg e] at hv
        rw [if_neg (by omega), if_neg e] at hK
        rw [hv]; exact hK
end Go.P9
