/- Tickets: what can be read of a code: the contracts are kept. No conditions. -/
import Derived.Test.YtcpdcpfbgmiaoaaDoorReadS
import Derived.Test.YtcpdcpfbgmiaoaaDoorTickP
set_option linter.constructorNameAsVariable false
set_option linter.unusedVariables false
set_option linter.unusedSimpArgs false
set_option maxRecDepth 100000
namespace Go.P3
open Go.Lom Go.Proofs Go

theorem seg_app1 {α : Type} (l : List α) (x : α) : seg 0 (l.length + (seg 0 1 [x]).length) (seg 0 l.length l ++ seg 0 1 [x]) = l ++ [x] := by
  rw [seg_self, show seg 0 1 [x] = [x] from rfl]
  have := seg_self (l ++ [x])
  rw [List.length_append] at this
  exact this
theorem fits_small {n : Nat} (h : n ≤ 100000) : fitsN n 8 = true := by
  unfold fitsN
  rw [Bool.and_eq_true]
  exact ⟨Nat.ble_eq_true_of_le (by omega), Nat.ble_eq_true_of_le (by unfold maxLen; omega)⟩
theorem h18A (s : List UInt8) (b : List Int) (m i : Int) (Q : LQ) : s18a s b m i Q → xloop2 Tryd.prog {} 5 18 0 lc18a ex18 (fun (_, _, m, i, _) => (m - i).toNat) (s, b, m, i, ()) Q := by
  intro ⟨⟨hs, hm, h0, h1, h2, h3⟩, hN, hS⟩
  subst hm
  rw [v18A]
  have hc : ((s.getD i.toNat 0).toNat : Int) = cI s i := rfl
  rw [hc, seg_app1, seg_self]
  simp only [fork_iff, req_iff, decide_eq_true_eq, decide_eq_false_iff_not, beq_iff_eq]
  refine ⟨fun hi => ⟨⟨h0, by omega⟩, fun h63 => ?_, fun h63 => ?_⟩, fun hi => ?_⟩
  · have ek : (10 - i).toNat = (10 - (i + 1)).toNat + 1 := by omega
    rw [ek] at hN hS
    simp only [blankK] at hN hS
    rw [if_pos h63] at hN
    have hS : ∀ r, blankK s (10 - (i + 1)).toNat (i + 1) (b ++ [i]) = some r → r.length ≤ 10 → (∀ x ∈ r, 0 ≤ x ∧ x < 10) → Q (.exit 0) (stS 2 sh18e (s, r, ())) := fun r hr => hS r (by rw [if_pos h63]; exact hr)
    refine ⟨by omega, fits_small (by show b.length + 1 ≤ _; omega), inR_i64.2 (by omega), by simp [show (seg 0 1 [i]).length = 1 from rfl], by omega, ⟨hs, rfl, by omega, by omega, by simp; omega, fun x hx => ?_⟩, hN, hS⟩
    rcases List.mem_append.1 hx with hx | hx
    · exact h3 x hx
    · rw [List.mem_singleton.1 hx]; omega
  · have h63 : ¬ cI s i = 63 := by simpa using h63
    have ek : (10 - i).toNat = (10 - (i + 1)).toNat + 1 := by omega
    rw [ek] at hN hS
    simp only [blankK] at hN hS
    rw [if_neg h63] at hN
    refine ⟨⟨h0, by omega⟩, fun hl => hN (if_pos (.inl hl)), fun hl => ⟨⟨h0, by omega⟩, fun hg => hN (if_pos (.inr hg)), fun hg => ?_⟩⟩
    have hn : ¬ (cI s i < 48 ∨ cI s i > 57) := fun h => h.elim hl hg
    rw [if_neg hn] at hN
    have hS : ∀ r, blankK s (10 - (i + 1)).toNat (i + 1) b = some r → r.length ≤ 10 → (∀ x ∈ r, 0 ≤ x ∧ x < 10) → Q (.exit 0) (stS 2 sh18e (s, r, ())) := fun r hr => hS r (by rw [if_neg h63, if_neg hn]; exact hr)
    exact ⟨inR_i64.2 (by omega), by omega, by omega, ⟨hs, rfl, by omega, by omega, by omega, h3⟩, hN, hS⟩
  · have e : (10 - i).toNat = 0 := by omega
    rw [e] at hS
    exact ⟨by omega, hS b rfl (by omega) h3⟩
theorem ok18A : Lp2Ok Tryd.prog 18 0 lc18a := lp2_of (n := 5) (ex := ex18) (m := fun (_, _, m, i, _) => (m - i).toNat) (good2_nil _) fun (s, b, m, i, ()) Q hx => h18A s b m i Q hx
theorem tenK_eq : ∀ k, tenK k = 10 ^ k
  | 0 => rfl
  | k + 1 => by simp only [tenK]; rw [tenK_eq k, Int.pow_succ]
theorem tenK_le {k : Nat} (h : k ≤ 3) : 1 ≤ tenK k ∧ tenK k ≤ 1000 := by
  match k, h with
  | 0, _ => decide
  | 1, _ => decide
  | 2, _ => decide
  | 3, _ => decide
theorem h18B (s : List UInt8) (b : List Int) (t m i : Int) (Q : LQ) : s18b s b t m i Q → xloop2 Tryd.prog {} 5 18 1 lc18b (fun _ => some (sh18be, 2)) (fun (_, _, _, m, i, _) => (m - i).toNat) (s, b, t, m, i, ()) Q := by
  intro ⟨⟨hm, h0, h1, ht⟩, hQ⟩
  rw [v18B, seg_self]
  simp only [fork_iff, req_iff, decide_eq_true_eq, decide_eq_false_iff_not, Nat.zero_add, Nat.le_refl, true_and]
  have hb := tenK_le (k := i.toNat) (by omega)
  refine ⟨fun hi => ⟨inR_i64.2 (by omega), inR_i64.2 (by omega), by omega, ?_⟩, fun hi => ?_⟩
  · refine ⟨⟨hm, by omega, by omega, ?_⟩, hQ⟩
    rw [show (i + 1).toNat = i.toNat + 1 by omega, ht]; rfl
  · rw [show i = m by omega] at ht
    rw [ht]; exact hQ
theorem ok18B : Lp2Ok Tryd.prog 18 1 lc18b := lp2_of (n := 5) (ex := fun _ => some (sh18be, 2)) (m := fun (_, _, _, m, i, _) => (m - i).toNat) (good2_nil _) fun (s, b, t, m, i, ()) Q hx => h18B s b t m i Q hx

theorem fillD_len (b : List Int) : ∀ (k : Nat) (n i : Int) (w : List Int), (fillD b k n i w).length = w.length
  | 0, _, _, _ => rfl
  | k + 1, n, i, w => by simp only [fillD]; rw [fillD_len b k]; simp
theorem h85C (w : Wb) (n m i : Int) (Q : LQ) : s85B w n m i Q → xloop2 Tryd.prog {} 5 85 0 lc85B (fun _ => some (sh85Be, 9)) (fun (_, _, m, i, _) => (m - i).toNat) (w, n, m, i, ()) Q := by
  obtain ⟨⟨b, w, ⟨⟩⟩, rg⟩ := w
  intro ⟨⟨hrg, hb3, hbx, hlen, hm, h0, h1, h2, h3⟩, hQ⟩
  have hrg : rg = rngOf Tryd.prog 18 0 := hrg
  have hlen : w.length = 10 := hlen
  have hb3 : b.length ≤ 3 := hb3
  have hbx : ∀ x ∈ b, 0 ≤ x ∧ x < 10 := hbx
  have hm : m = (b.length : Int) := hm
  subst hrg
  have h0 : (0 : Int) ≤ i := h0
  have h1 : i ≤ m := h1
  have h2 : (0 : Int) ≤ n := h2
  have h3 : n ≤ (1000 : Int) := h3
  obtain ⟨e1, e2⟩ := tm10 h2
  have hQ : Q (.exit 0) (stS 9 sh85Be (mkB (rngOf Tryd.prog 18 0) b (fillD b (m - i).toNat n i w), restD (m - i).toNat n, ())) := hQ
  show xloop2 Tryd.prog {} 5 85 0 lc85B (fun _ => some (sh85Be, 9)) (fun (_, _, m, i, _) => (m - i).toNat) (((b, w, ()), rngOf Tryd.prog 18 0), n, m, i, ()) Q
  rw [v85C]
  simp only [fork_iff, req_iff, decide_eq_true_eq, decide_eq_false_iff_not, Nat.zero_add, Nat.add_zero, List.length_set]
  rw [seg_self b, seg_self w]
  refine ⟨fun hi => ?_, fun hi => ⟨Nat.le_refl _, Nat.le_refl _, ?_⟩⟩
  · have hlt : ((b.length : Int) - 1 - i).toNat < b.length := by omega
    have hg : b.getD ((b.length : Int) - 1 - i).toNat 0 ∈ b := by
      rw [List.getD_eq_getElem?_getD, List.getElem?_eq_getElem hlt]; exact List.getElem_mem hlt
    obtain ⟨g1, g2⟩ := hbx _ hg
    refine ⟨inR_i64.2 (by omega), inR_i64.2 (by omega), ⟨by omega, by omega⟩, hlt, inR_i64.2 (by omega), inR_iff.2 ⟨?_, ?_⟩, ⟨g1, by omega⟩, by omega, inR_i64.2 (by omega), inR_i64.2 (by omega), Nat.le_refl _, Nat.le_refl _, by omega, ?_⟩
    · show (0 : Int) ≤ _; omega
    · show _ ≤ (255 : Int); omega
    · generalize hp : (b.getD ((b.length : Int) - 1 - i).toNat 0).toNat = p
      have e : seg 0 w.length (w.set p (48 + n.tmod 10)) = w.set p (48 + n.tmod 10) := by
        have := seg_self (w.set p (48 + n.tmod 10)); rw [List.length_set] at this; exact this
      rw [e]
      refine (show s85B (mkB (rngOf Tryd.prog 18 0) b (w.set p (48 + n.tmod 10))) (n.tdiv 10) m (i + 1) Q from ⟨⟨rfl, hb3, hbx, by show (w.set p _).length = 10; simp [hlen], hm, by omega, by omega, by omega, by omega⟩, ?_⟩)
      rw [show (m - i).toNat = (m - (i + 1)).toNat + 1 by omega] at hQ
      simp only [fillD, hp] at hQ
      exact hQ
  · have e : (m - i).toNat = 0 := by omega
    rw [e] at hQ; exact hQ
theorem ok85C : Lp2Ok Tryd.prog 85 0 lc85B := lp2_of (n := 5) (ex := fun _ => some (sh85Be, 9)) (m := fun (_, _, m, i, _) => (m - i).toNat) (good2_nil _) fun (w, n, m, i, ()) Q hx => h85C w n m i Q hx
theorem h85D (w : Wb) (m n : Int) (K : post85B.den → Prop) : fc85B.spec (w, m, n, ()) K → xfn2 Tryd.prog { l2 := [(85, 0, lc85B)] } 5 85 fc85B (w, m, n, ()) K := by
  obtain ⟨⟨b, w, ⟨⟩⟩, rg⟩ := w
  intro ⟨⟨hrg, hb3, hbx, hlen, hm, h2, h3⟩, hK⟩
  have hrg : rg = rngOf Tryd.prog 18 0 := hrg
  have hlen : w.length = 10 := hlen
  have hb3 : b.length ≤ 3 := hb3
  have hbx : ∀ x ∈ b, 0 ≤ x ∧ x < 10 := hbx
  have hm : m = (b.length : Int) := hm
  subst hrg
  have hK : K (mkB (rngOf Tryd.prog 18 0) b (fillD b b.length n 0 w), (), (), ()) := hK
  show xfn2 Tryd.prog { l2 := [(85, 0, lc85B)] } 5 85 fc85B (((b, w, ()), rngOf Tryd.prog 18 0), m, n, ()) K
  rw [v85D, seg_self b, seg_self w]
  simp only [fork_iff, req_iff, decide_eq_true_eq, decide_eq_false_iff_not, Nat.zero_add]
  rw [show (m - 0).toNat = b.length by omega]
  rw [seg_self, seg_self]
  exact ⟨Nat.le_refl _, Nat.le_refl _, ⟨trivial, hb3, hbx, hlen, hm, by omega, by omega, h2, h3⟩, Nat.le_refl _, Nat.le_refl _, hK⟩
theorem ok85D : F2Ok Tryd.prog 85 fc85B := fn2_of (n := 5) ((good2_nil _).addL2 ok85C) fun (w, m, n, ()) K hx => h85D w m n K hx
theorem h18C (s : List UInt8) (b o : List Int) (t x : Int) (Q : LQ) : s18c s b o t x Q → xloop2 Tryd.prog { f2 := [(85, fc85B)], f := [(16, fcNumber)] } 5 18 2 lc18c (fun _ => some (sh18ce, 1)) (fun (_, _, _, t, x, _) => (t - x).toNat) (s, b, o, t, x, ()) Q := by
  intro ⟨⟨hs, hb3, hbx, ht, h0, h1, h2⟩, hQ⟩
  rw [v18C]
  have e1 : seg 0 s.length (s.map fun b => (b.toNat : Int)) = byI s := by
    have := seg_self (byI s)
    rw [show (byI s).length = s.length from by simp [byI]] at this
    exact this
  rw [seg_self b, e1]
  rw [seg_self b, seg_self, seg_app1, seg_self o]
  have hfl : (fillD b b.length x 0 (byI s)).map byteI = fillS s b x := rfl
  rw [hfl]
  simp only [fork_iff, req_iff, decide_eq_true_eq, decide_eq_false_iff_not, Nat.zero_add, Nat.le_refl, true_and, beq_iff_eq]
  refine ⟨fun hx => ⟨by simp, ⟨hb3, hbx, by simp [byI, hs], h0, by omega⟩, fun hz => ?_, fun hz => ?_⟩, fun hx => ?_⟩
  · refine ⟨fits_small (by show o.length + 1 ≤ _; omega), inR_i64.2 (by omega), by simp [show ∀ y : Int, (seg 0 1 [y]).length = 1 from fun _ => rfl], by omega, ?_⟩
    refine (show s18c s b (o ++ [(numberI (fillS s b x)).1]) t (x + 1) Q from ⟨⟨hs, hb3, hbx, ht, by omega, by omega, by simp; omega⟩, ?_⟩)
    rw [show (t - x).toNat = (t - (x + 1)).toNat + 1 by omega] at hQ
    simp only [readK] at hQ
    rw [if_pos hz] at hQ
    exact hQ
  · have hz : ¬ (numberI (fillS s b x)).2 = 0 := by simpa using hz
    refine ⟨inR_i64.2 (by omega), by omega, ?_⟩
    refine (show s18c s b o t (x + 1) Q from ⟨⟨hs, hb3, hbx, ht, by omega, by omega, by omega⟩, ?_⟩)
    rw [show (t - x).toNat = (t - (x + 1)).toNat + 1 by omega] at hQ
    simp only [readK] at hQ
    rw [if_neg hz] at hQ
    exact hQ
  · have e : (t - x).toNat = 0 := by omega
    rw [e] at hQ; exact hQ
theorem ok18C : Lp2Ok Tryd.prog 18 2 lc18c := lp2_of (n := 5) (ex := fun _ => some (sh18ce, 1)) (m := fun (_, _, _, t, x, _) => (t - x).toNat) (((good2_nil _).addF2 ok85D).addF ok16) fun (s, b, o, t, x, ()) Q hx => h18C s b o t x Q hx
theorem h18F (s : List UInt8) (K : dens [L, I] → Prop) : K ((readsI s).1, (readsI s).2, ()) → xfn1 Tryd.prog { l2 := [(18, 0, lc18a), (18, 1, lc18b), (18, 2, lc18c)] } 5 18 fcReads (s, ()) K := by
  intro hK
  rw [v18F]
  unfold readsI at hK
  rw [fork_iff]
  refine ⟨fun h => ?_, fun h => ?_⟩
  · have h : s.length ≠ 10 := by
      intro e; rw [e] at h; simp at h
    rw [if_pos h] at hK; exact hK
  · have h : s.length = 10 := by
      have : ((s.length : Int) != 10) = false := h
      simp at this; omega
    rw [if_neg (by omega)] at hK
    refine ⟨⟨h, by rw [h]; rfl, by omega, by omega, by omega, fun x hx => by cases hx⟩, fun hn => ?_, fun r hr h0 h1 => ?_⟩
    · rw [hn] at hK; exact hK
    · rw [hr] at hK
      simp only at hK
      rw [fork_iff]
      refine ⟨fun e => ?_, fun e => ?_⟩
      · have e : r.length > 3 := by have := of_decide_eq_true e; omega
        rw [if_pos e] at hK; exact hK
      · have e : ¬ r.length > 3 := by have := of_decide_eq_false e; omega
        rw [if_neg e] at hK
        rw [seg_self r, seg_self r]
        have et : ((r.length : Int)).toNat = r.length := by omega
        rw [et]
        have ht := tenK_le (k := r.length) (by omega)
        simp only [req_iff, decide_eq_true_eq, Nat.zero_add, Nat.le_refl, true_and]
        rw [show (tenK r.length - 0).toNat = (tenK r.length).toNat by omega, seg_self]
        exact ⟨⟨by omega, by omega, by omega, trivial⟩, ⟨h, by omega, h1, by omega, by omega, by omega, by omega⟩, hK⟩
theorem ok18 : FnOk Tryd.prog 18 fcReads := fn1_of (n := 5) ((((good2_nil _).addL2 ok18C).addL2 ok18B).addL2 ok18A) fun (s, ()) K hx => h18F s K hx
end Go.P3
