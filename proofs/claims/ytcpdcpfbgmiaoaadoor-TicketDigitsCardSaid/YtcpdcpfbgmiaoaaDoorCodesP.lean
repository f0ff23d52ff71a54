/- Tickets: what can be read of a code by the reference, and the law of codes: the contracts are kept. No conditions. -/
import Derived.Test.YtcpdcpfbgmiaoaaDoorCodeP
import Derived.Test.YtcpdcpfbgmiaoaaDoorFit2P
set_option linter.constructorNameAsVariable false
set_option linter.unusedVariables false
set_option linter.unusedSimpArgs false
set_option maxRecDepth 100000
namespace Go.P3
open Go.Lom Go.Proofs Go

theorem h19A (s : List UInt8) (c i : Int) (Q : LQ) : s19a s c i Q → xloop2 Tryd.prog {} 5 19 0 lc19a ex19a (fun (s, _, i, _) => s.length - i.toNat) (s, c, i, ()) Q := by
  intro ⟨⟨hl, h0, h1, h2, h3⟩, hN, hS⟩
  rw [v19A]
  have hc : ((s.getD i.toNat 0).toNat : Int) = cI s i := rfl
  rw [hc]
  simp only [fork_iff, req_iff, decide_eq_true_eq, decide_eq_false_iff_not, beq_iff_eq]
  refine ⟨fun hi => ⟨⟨h0, hi⟩, fun h63 => ?_, fun h63 => ?_⟩, fun hi => ?_⟩
  · have ek : s.length - i.toNat = (s.length - (i + 1).toNat) + 1 := by omega
    rw [ek] at hN hS
    simp only [cntK] at hN hS
    rw [if_pos h63] at hN
    have hS : ∀ r, cntK s (s.length - (i + 1).toNat) (i + 1) (c + 1) = some r → Q (.exit 0) (stS 0 sh19ae (s, r, ())) := fun r hr => hS r (by rw [if_pos h63]; exact hr)
    exact ⟨inR_i64.2 (by omega), inR_i64.2 (by omega), by omega, ⟨hl, by omega, by omega, by omega, by omega⟩, hN, hS⟩
  · have h63 : ¬ cI s i = 63 := by simpa using h63
    have ek : s.length - i.toNat = (s.length - (i + 1).toNat) + 1 := by omega
    rw [ek] at hN hS
    simp only [cntK] at hN hS
    rw [if_neg h63] at hN
    refine ⟨⟨h0, hi⟩, fun hl => hN (if_pos (.inl hl)), fun hl2 => ⟨⟨h0, hi⟩, fun hg => hN (if_pos (.inr hg)), fun hg => ?_⟩⟩
    have hn : ¬ (cI s i < 48 ∨ cI s i > 57) := fun h => h.elim hl2 hg
    rw [if_neg hn] at hN
    have hS : ∀ r, cntK s (s.length - (i + 1).toNat) (i + 1) c = some r → Q (.exit 0) (stS 0 sh19ae (s, r, ())) := fun r hr => hS r (by rw [if_neg h63, if_neg hn]; exact hr)
    exact ⟨inR_i64.2 (by omega), by omega, ⟨hl, by omega, by omega, by omega, by omega⟩, hN, hS⟩
  · have e : s.length - i.toNat = 0 := by omega
    rw [e] at hS
    exact hS c rfl
theorem ok19A : Lp2Ok Tryd.prog 19 0 lc19a := lp2_of (n := 5) (ex := ex19a) (m := fun (s, _, i, _) => s.length - i.toNat) (good2_nil _) fun (s, c, i, ()) Q hx => h19A s c i Q hx
theorem h19B (s : List UInt8) (c : Int) (o : List Int) (t i : Int) (Q : LQ) : s19b s c o t i Q → xloop2 Tryd.prog {} 5 19 1 lc19b (fun _ => some (sh19be, 1)) (fun (_, c, _, _, i, _) => (c - i).toNat) (s, c, o, t, i, ()) Q := by
  intro ⟨⟨hm, h0, h1, ht⟩, hQ⟩
  rw [v19B, seg_self]
  simp only [fork_iff, req_iff, decide_eq_true_eq, decide_eq_false_iff_not, Nat.zero_add, Nat.le_refl, true_and]
  have hb := tenK_le (k := i.toNat) (by omega)
  refine ⟨fun hi => ⟨inR_i64.2 (by omega), inR_i64.2 (by omega), by omega, ?_⟩, fun hi => ?_⟩
  · refine ⟨⟨hm, by omega, by omega, ?_⟩, hQ⟩
    rw [show (i + 1).toNat = i.toNat + 1 by omega, ht, Int.mul_comm]; rfl
  · rw [show i = c by omega] at ht
    rw [ht]; exact hQ
theorem ok19B : Lp2Ok Tryd.prog 19 1 lc19b := lp2_of (n := 5) (ex := fun _ => some (sh19be, 1)) (m := fun (_, c, _, _, i, _) => (c - i).toNat) (good2_nil _) fun (s, c, o, t, i, ()) Q hx => h19B s c o t i Q hx
theorem h19D (s : List UInt8) (t : Int) (o : List Int) (x : Int) (w : List Int) (n i : Int) (Q : LQ) : s19d s t o x w n i Q → xloop2 Tryd.prog {} 5 19 3 lc19d (fun _ => some (sh19de, 3)) (fun (_, _, _, _, _, _, i, _) => (i + 1).toNat) (s, t, o, x, w, n, i, ()) Q := by
  intro ⟨⟨hw, h0, h1, h2, h3⟩, hQ⟩
  obtain ⟨e1, e2⟩ := tm10 h2
  rw [v19D]
  rw [seg_self o, seg_self w]
  simp only [fork_iff, req_iff, decide_eq_true_eq, decide_eq_false_iff_not, Nat.zero_add, Nat.add_zero, Nat.le_refl, true_and, beq_iff_eq, List.length_set]
  refine ⟨fun hi => ⟨⟨hi, by omega⟩, by omega, fun h63 => ?_, fun h63 => ?_⟩, fun hi => ?_⟩
  · have e : seg 0 w.length (w.set i.toNat (48 + n.tmod 10)) = w.set i.toNat (48 + n.tmod 10) := by
      have := seg_self (w.set i.toNat (48 + n.tmod 10)); rw [List.length_set] at this; exact this
    rw [e]
    refine ⟨inR_i64.2 (by omega), inR_iff.2 ⟨by show (0 : Int) ≤ _; omega, by show _ ≤ (255 : Int); omega⟩, ⟨hi, by omega⟩, by omega, inR_i64.2 (by omega), inR_i64.2 (by omega), by show (i - 1 + 1 : Int).toNat < (i + 1 : Int).toNat; omega, ?_⟩
    refine ⟨⟨by simp [hw], by omega, by omega, by omega, by omega⟩, ?_⟩
    rw [show (i + 1).toNat = (i - 1 + 1).toNat + 1 by omega] at hQ
    simp only [backK] at hQ
    rw [if_pos h63] at hQ
    exact hQ
  · have h63 : ¬ w.getD i.toNat 0 = 63 := by simpa using h63
    refine ⟨inR_i64.2 (by omega), by show (i - 1 + 1 : Int).toNat < (i + 1 : Int).toNat; omega, ?_⟩
    refine ⟨⟨hw, by omega, by omega, h2, h3⟩, ?_⟩
    rw [show (i + 1).toNat = (i - 1 + 1).toNat + 1 by omega] at hQ
    simp only [backK] at hQ
    rw [if_neg h63] at hQ
    exact hQ
  · rw [show (i + 1).toNat = 0 by omega] at hQ
    exact hQ
theorem ok19D : Lp2Ok Tryd.prog 19 3 lc19d := lp2_of (n := 5) (ex := fun _ => some (sh19de, 3)) (m := fun (_, _, _, _, _, _, i, _) => (i + 1).toNat) (good2_nil _) fun (s, t, o, x, w, n, i, ()) Q hx => h19D s t o x w n i Q hx
theorem backK_len : ∀ (k : Nat) (i n : Int) (w : List Int), (backK k i n w).length = w.length
  | 0, _, _, _ => rfl
  | k + 1, i, n, w => by
    simp only [backK]
    split
    · rw [backK_len k]; simp
    · rw [backK_len k]
theorem seg_app2 {α : Type} (l : List α) (x : α) : seg 0 (l.length + (seg 0 1 [x]).length) (l ++ seg 0 1 [x]) = l ++ [x] := by
  have := seg_self (l ++ [x])
  rw [List.length_append] at this
  exact this
theorem h19C (s : List UInt8) (t : Int) (o : List Int) (x : Int) (Q : LQ) : s19c s t o x Q → xloop2 Tryd.prog { f := [(17, fcNumber)], l2 := [(19, 3, lc19d)] } 5 19 2 lc19c (fun _ => some (sh19ce, 1)) (fun (_, t, _, x, _) => (t - x).toNat) (s, t, o, x, ()) Q := by
  intro ⟨⟨hs, ht, h0, h1, h2⟩, hQ⟩
  rw [v19C]
  have e1 : seg 0 s.length (s.map fun b => (b.toNat : Int)) = byI s := by
    have := seg_self (byI s)
    rw [show (byI s).length = s.length from by simp [byI]] at this
    exact this
  rw [seg_self o, seg_self o, e1, seg_self, seg_app2]
  have hfl : (backK 10 9 x (byI s)).map byteI = backS s x := rfl
  rw [hfl]
  simp only [fork_iff, req_iff, decide_eq_true_eq, decide_eq_false_iff_not, Nat.zero_add, Nat.le_refl, true_and, beq_iff_eq]
  refine ⟨fun hx => ⟨by simp, ⟨by simp [byI, hs], by omega, by omega, h0, by omega⟩, fun hz => ?_, fun hz => ?_⟩, fun hx => ?_⟩
  · refine ⟨fits_small (by show o.length + 1 ≤ _; omega), inR_i64.2 (by omega), by simp [show ∀ y : Int, (seg 0 1 [y]).length = 1 from fun _ => rfl], by omega, ?_⟩
    refine (show s19c s t (o ++ [(numberI (backS s x)).1]) (x + 1) Q from ⟨⟨hs, ht, by omega, by omega, by simp; omega⟩, ?_⟩)
    rw [show (t - x).toNat = (t - (x + 1)).toNat + 1 by omega] at hQ
    simp only [rbackK] at hQ
    rw [if_pos hz] at hQ
    exact hQ
  · have hz : ¬ (numberI (backS s x)).2 = 0 := by simpa using hz
    refine ⟨inR_i64.2 (by omega), by omega, ?_⟩
    refine (show s19c s t o (x + 1) Q from ⟨⟨hs, ht, by omega, by omega, by omega⟩, ?_⟩)
    rw [show (t - x).toNat = (t - (x + 1)).toNat + 1 by omega] at hQ
    simp only [rbackK] at hQ
    rw [if_neg hz] at hQ
    exact hQ
  · have e : (t - x).toNat = 0 := by omega
    rw [e] at hQ; exact hQ
theorem ok19C : Lp2Ok Tryd.prog 19 2 lc19c := lp2_of (n := 5) (ex := fun _ => some (sh19ce, 1)) (m := fun (_, t, _, x, _) => (t - x).toNat) (((good2_nil _).addL2 ok19D).addF ok17) fun (s, t, o, x, ()) Q hx => h19C s t o x Q hx

/-! both fill in the same -/
def fillR : List Int → Int → List Int → List Int
  | [], _, w => w
  | p :: ps, n, w => fillR ps (n.tdiv 10) (w.set p.toNat (48 + n.tmod 10))
/-- The places below k that cannot be read, the last one first. -/
def posK (w : List Int) : Nat → List Int
  | 0 => []
  | k + 1 => if w.getD k 0 = 63 then (k : Int) :: posK w k else posK w k
theorem posK_set {w : List Int} {j : Nat} {d : Int} : ∀ k, k ≤ j → posK (w.set j d) k = posK w k
  | 0, _ => rfl
  | k + 1, h => by
    simp only [posK]
    rw [posK_set k (by omega), show (w.set j d).getD k 0 = w.getD k 0 by simp [List.getD_eq_getElem?_getD, List.getElem?_set, show j ≠ k by omega]]
theorem backK_fill : ∀ (k : Nat) (n : Int) (w : List Int), backK k ((k : Int) - 1) n w = fillR (posK w k) n w
  | 0, n, w => rfl
  | k + 1, n, w => by
    simp only [backK, posK]
    rw [show (((k + 1 : Nat) : Int) - 1).toNat = k by omega, show ((k + 1 : Nat) : Int) - 1 - 1 = (k : Int) - 1 by omega]
    split
    · rw [backK_fill k, posK_set k (Nat.le_refl _)]; rfl
    · rw [backK_fill k]
theorem byI_getD (s : List UInt8) (i : Nat) : (byI s).getD i 0 = ((s.getD i 0).toNat : Int) := by
  unfold byI
  simp only [List.getD_eq_getElem?_getD, List.getElem?_map]
  cases s[i]? <;> rfl
theorem blankK_pos {s : List UInt8} : ∀ (k : Nat) (i : Int) (b r : List Int), blankK s k i b = some r → 0 ≤ i → b.reverse = posK (byI s) i.toNat → r.reverse = posK (byI s) (i.toNat + k)
  | 0, i, b, r, h, _, hb => by
    simp only [blankK, Option.some.injEq] at h; subst h; exact hb
  | k + 1, i, b, r, h, h0, hb => by
    simp only [blankK] at h
    have hg : (byI s).getD i.toNat 0 = cI s i := byI_getD s i.toNat
    rw [show i.toNat + (k + 1) = (i + 1).toNat + k by omega]
    split at h
    · rename_i h63
      refine blankK_pos k (i + 1) _ r h (by omega) ?_
      rw [show (i + 1).toNat = i.toNat + 1 by omega]
      simp only [posK]
      rw [if_pos (by rw [hg]; exact h63), List.reverse_append, hb, show ((i.toNat : Nat) : Int) = i by omega]; rfl
    · rename_i h63
      split at h
      · cases h
      · refine blankK_pos k (i + 1) _ r h (by omega) ?_
        rw [show (i + 1).toNat = i.toNat + 1 by omega]
        simp only [posK]
        rw [if_neg (by rw [hg]; exact h63), hb]
theorem fillD_fill {b : List Int} : ∀ (k : Nat) (n i : Int) (w : List Int), (k : Int) + i = b.length → 0 ≤ i → fillD b k n i w = fillR (b.reverse.drop i.toNat) n w
  | 0, n, i, w, h, h0 => by
    rw [List.drop_of_length_le (by simp; omega)]; rfl
  | k + 1, n, i, w, h, h0 => by
    simp only [fillD]
    have hlt : i.toNat < b.reverse.length := by simp; omega
    rw [List.drop_eq_getElem_cons hlt, fillD_fill k _ (i + 1) _ (by omega) (by omega), show (i + 1).toNat = i.toNat + 1 by omega]
    simp only [fillR]
    have e : b.getD ((b.length : Int) - 1 - i).toNat 0 = b.reverse[i.toNat] := by
      rw [List.getElem_reverse, List.getD_eq_getElem?_getD, List.getElem?_eq_getElem (by omega)]
      simp only [Option.getD_some]
      congr 1
      omega
    rw [e]
theorem fill_back {s : List UInt8} {b : List Int} (h : blankK s 10 0 [] = some b) (x : Int) : backS s x = fillS s b x := by
  unfold backS fillS
  rw [show backK 10 9 x (byI s) = fillR (posK (byI s) 10) x (byI s) from backK_fill 10 x (byI s), fillD_fill b.length x 0 _ (by omega) (by omega), blankK_pos 10 0 [] b h (by omega) rfl]
  rfl
theorem read_back {s : List UInt8} {b : List Int} (h : blankK s 10 0 [] = some b) : ∀ (k : Nat) (x : Int) (o : List Int), rbackK s k x o = readK s b k x o
  | 0, _, _ => rfl
  | k + 1, x, o => by simp only [rbackK, readK]; rw [fill_back h, read_back h k]
theorem cnt_blank {s : List UInt8} : ∀ (k : Nat) (i : Int) (b : List Int), cntK s k i b.length = (blankK s k i b).map fun r => (r.length : Int)
  | 0, _, _ => rfl
  | k + 1, i, b => by
    simp only [cntK, blankK]
    split
    · have := cnt_blank (s := s) k (i + 1) (b ++ [i])
      rw [show ((b ++ [i]).length : Int) = b.length + 1 by simp] at this
      exact this
    · split
      · rfl
      · exact cnt_blank k (i + 1) b
theorem h19F (s : List UInt8) (K : dens [L, I] → Prop) (hl : (s.length : Int) ≤ 9223372036854775807) (hK : K ((readsI s).1, (readsI s).2, ())) : xfn1 Tryd.prog { l2 := [(19, 0, lc19a), (19, 1, lc19b), (19, 2, lc19c)] } 5 19 fcReadsB (s, ()) K := by
  rw [v19F]
  have hcb := cnt_blank (s := s) (s.length - 0) 0 []
  have hcb : cntK s (s.length - 0) 0 0 = (blankK s (s.length - 0) 0 []).map fun r => (r.length : Int) := hcb
  unfold readsI at hK
  refine ⟨⟨hl, by omega, by omega, by omega, by omega⟩, fun hn => ?_, fun r hr => ?_⟩
  · by_cases h : s.length = 10
    · rw [if_neg (by omega)] at hK
      rw [hcb, h] at hn
      have hb : blankK s 10 0 [] = none := by
        cases hb : blankK s 10 0 [] with
        | none => rfl
        | some b => rw [show (10 - 0 : Nat) = 10 from rfl, hb] at hn; cases hn
      rw [hb] at hK; exact hK
    · rw [if_pos h] at hK; exact hK
  · rw [fork_iff]
    refine ⟨fun h => ?_, fun h => ?_⟩
    · have h : s.length ≠ 10 := by
        intro e; rw [e] at h; simp at h
      rw [if_pos h] at hK; exact hK
    · have h : s.length = 10 := by
        have : ((s.length : Int) != 10) = false := h
        simp at this; omega
      rw [if_neg (by omega)] at hK
      rw [hcb, h] at hr
      obtain ⟨b, hb, rfl⟩ := Option.map_eq_some_iff.1 hr
      have hb : blankK s 10 0 [] = some b := hb
      rw [hb] at hK
      simp only at hK
      rw [fork_iff]
      refine ⟨fun e => ?_, fun e => ?_⟩
      · have e : b.length > 3 := by have := of_decide_eq_true e; omega
        rw [if_pos e] at hK; exact hK
      · have e : ¬ b.length > 3 := by have := of_decide_eq_false e; omega
        rw [if_neg e] at hK
        have et : ((b.length : Int)).toNat = b.length := by omega
        rw [et]
        have ht := tenK_le (k := b.length) (by omega)
        simp only [req_iff, decide_eq_true_eq, Nat.zero_add, Nat.le_refl, true_and]
        rw [show (tenK b.length - 0).toNat = (tenK b.length).toNat by omega, seg_self, show seg 0 0 ([] : List Int) = [] from rfl, read_back hb]
        exact ⟨⟨by omega, by omega, by omega, trivial⟩, ⟨h, by omega, by omega, by omega, by omega⟩, hK⟩
theorem ok19 : FnOk Tryd.prog 19 fcReadsB := fn1_of (n := 5) ((((good2_nil _).addL2 ok19C).addL2 ok19B).addL2 ok19A) fun (s, ()) K hx => h19F s K hx.1 hx.2

/-! the law -/
theorem eqK_self (a : List Int) : ∀ (k : Nat) (i : Int), eqK a a k i true = true
  | 0, _ => rfl
  | k + 1, i => by simp only [eqK, if_true, beq_self_eq_true]; exact eqK_self a k (i + 1)
theorem h20L (a b : List Int) (r : Bool) (i : Int) (Q : LQ) : s20 a b r i Q → xloop2 Tryd.prog {} 5 20 0 lc20 (ex1 sh20e) (fun (a, _, _, i, _) => a.length - i.toNat) (a, b, r, i, ()) Q := by
  intro ⟨⟨hl, hr, h0, h1⟩, hQ⟩
  rw [v20L]
  simp only [fork_iff, req_iff, decide_eq_true_eq, decide_eq_false_iff_not]
  refine ⟨fun ht => ⟨fun hi => ?_, fun hi => ?_⟩, fun hf => ?_⟩
  · have := hr ht
    refine ⟨⟨h0, hi⟩, ⟨h0, by omega⟩, inR_i64.2 (by omega), by omega, ⟨hl, fun _ => this, by omega, by omega⟩, ?_⟩
    rw [show a.length - i.toNat = (a.length - (i + 1).toNat) + 1 by omega] at hQ
    simp only [eqK] at hQ
    rw [if_pos ht] at hQ
    exact hQ
  · rw [show a.length - i.toNat = 0 by omega] at hQ
    exact hQ
  · cases hk : a.length - i.toNat with
    | zero => rw [hk] at hQ; exact hQ
    | succ k =>
      rw [hk] at hQ
      simp only [eqK] at hQ
      rw [if_neg (by rw [hf]; simp)] at hQ
      exact hQ
theorem ok20L : Lp2Ok Tryd.prog 20 0 lc20 := lp2_of (n := 5) (ex := ex1 sh20e) (m := fun (a, _, _, i, _) => a.length - i.toNat) (good2_nil _) fun (a, b, r, i, ()) Q hx => h20L a b r i Q hx
theorem h20F (a b : List Int) (K : dens [.b] → Prop) (hab : a = b) (hl : a.length ≤ 100000) (hK : K (true, ())) : xfn1 Tryd.prog { l2 := [(20, 0, lc20)] } 5 20 fcSame (a, b, ()) K := by
  subst hab
  rw [v20F]
  refine ⟨⟨hl, fun _ => rfl, by omega, by omega⟩, ?_⟩
  rw [show ((a.length : Int) == (a.length : Int)) = true by simp, eqK_self]
  exact hK
theorem ok20 : FnOk Tryd.prog 20 fcSame := fn1_of (n := 5) ((good2_nil _).addL2 ok20L) fun (a, b, ()) K hx => h20F a b K hx.1.1 hx.1.2 hx.2
theorem readK_len (s : List UInt8) (b : List Int) : ∀ (k : Nat) (x : Int) (o : List Int), (readK s b k x o).length ≤ o.length + k
  | 0, _, _ => Nat.le_refl _
  | k + 1, x, o => by
    simp only [readK]
    refine Nat.le_trans (readK_len s b k (x + 1) _) ?_
    split
    · simp; omega
    · omega
theorem readsI_len (s : List UInt8) : (readsI s).1.length ≤ 100000 := by
  unfold readsI
  split
  · simp
  · split
    · simp
    · rename_i b hb
      split
      · simp
      · have ht := tenK_le (k := b.length) (by omega)
        have := readK_len s b (tenK b.length).toNat 0 []
        simp only [List.length_nil] at this
        show (readK s b (tenK b.length).toNat 0 []).length ≤ _
        omega
theorem h3F (n : Int) (s t : List UInt8) (K : dens [.b] → Prop) (hl : (t.length : Int) ≤ 9223372036854775807) (hK : K (true, ())) : xfn1 Tryd.prog { f := [(14, fcCode), (15, fcCode), (16, fcNumber), (17, fcNumber), (18, fcReads), (19, fcReadsB), (20, fcSame), (21, fcWorks)] } 5 3 fcCodesL (n, s, t, ()) K := by
  rw [v3F]
  simp only [fork_iff, beq_self_eq_true, bne_self_eq_false, Bool.not_true]
  refine ⟨fun h => ?_, fun _ => ⟨fun h => ?_, fun _ => ⟨fun h => ?_, fun _ => ⟨fun h => ?_, fun _ => ⟨hl, ⟨trivial, readsI_len t⟩, fun _ => hK, fun h => ?_⟩⟩⟩⟩⟩ <;> simp at h
theorem okCodes (hw : FnOk Tryd.prog 21 fcWorks) : FnOk Tryd.prog 3 fcCodesL := fn1_of (n := 5) (((((((((good2_nil _).addF hw).addF ok20).addF ok19).addF ok18).addF ok17).addF ok16).addF ok15).addF ok14) fun (n, s, t, ()) K hx => h3F n s t K hx.1 hx.2
end Go.P3
