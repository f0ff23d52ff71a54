/- Tickets: the law of digits keeps its contract. No conditions. -/
import Derived.Test.YtcpdcpfbgmiaoaaDoorDigP
set_option linter.constructorNameAsVariable false
set_option linter.unusedVariables false
set_option linter.unusedSimpArgs false
set_option maxRecDepth 100000
namespace Go.P3
open Go.Lom Go.Proofs Go

theorem seg_len {α : Type} {w : List α} {n : Nat} (h : w.length = n) : seg 0 n w = w := by rw [← h]; exact seg_self w
set_option simprocs false in
theorem h5F (n a0 a1 a2 d : Int) (K : dens [.b] → Prop) (hK : K (true, ())) : xfn1 Tryd.prog { f := [(14, fcCodeN), (16, fcNumberN), (18, fcReadsN), (26, fcRingN), (27, fcSeekN), (21, fcWorks)], l2 := [(5, 0, lc5a), (5, 1, lc5b)] } 5 5 fcDigits (n, (a0, a1, a2), d, ()) K := by
  rw [v5F]
  refine ⟨⟨by show (0 : Int) < 99999999; omega, by show (99999999 : Int) ≤ 99999999; omega⟩, fun r r0 r1 => ?_⟩
  have hN1 : 1 ≤ 1 + r := by omega
  have hN2 : 1 + r ≤ 99999999 := by omega
  rw [req_iff]
  refine ⟨inR_i64.2 (by omega), ⟨hN1, hN2⟩, fun s hs r1' e he => ?_⟩
  generalize 1 + r = N at *
  subst hs
  rw [num_code hN1 hN2] at he
  injection he with he1 he2
  subst he1 he2
  obtain ⟨v1, v2⟩ := code_val (n := r1') (by omega) hN2
  have hlen := code_len r1'
  have hbl : (byI (codeS r1')).length = 10 := by rw [byI_len, hlen]
  have ebs : (codeS r1').map (fun b => (b.toNat : Int)) = byI (codeS r1') := rfl
  have eg : ∀ k : Nat, (((codeS r1').getD k 0).toNat : Int) = (byI (codeS r1')).getD k 0 := fun k => (byI_getD _ k).symm
  have esg := seg_len hbl
  rw [ebs]
  simp only [eg, hlen]
  generalize hw : byI (codeS r1') = w at *
  simp only [fork_iff, req_iff, decide_eq_true_eq, decide_eq_false_iff_not, Nat.add_zero, Nat.zero_add, List.length_set, hbl, esg]
  have T10 : (0 : Int) < 10 ∧ (10 : Int) ≤ 99999999 := by omega
  have T9 : (0 : Int) < 9 ∧ (9 : Int) ≤ 99999999 := by omega
  refine ⟨fun h => absurd h (by decide), fun _ => ⟨fun h => absurd h (by simp), fun _ => ⟨fun h => absurd h (by decide), fun _ => ⟨T10, fun i i0 i1 => ?_⟩⟩⟩⟩
  have gi := v2 _ (getD_mem (l := w) (i := i.toNat) (by omega))
  refine ⟨⟨i0, by omega⟩, by omega, inR_iff.2 ⟨by show (0 : Int) ≤ _; omega, by show _ ≤ (255 : Int); omega⟩, inR_i64.2 (by omega), inR_i64.2 (by omega), T9, fun q q0 q1 => ?_⟩
  obtain ⟨e1, _⟩ := tm10 (n := w.getD i.toNat 0 - 48 + 1 + q) (by omega)
  refine ⟨⟨inR_i64.2 (by omega), trivial⟩, ⟨by omega, trivial⟩, inR_i64.2 (by omega), inR_i64.2 (by omega), inR_iff.2 ⟨by show (0 : Int) ≤ _; omega, by show _ ≤ (255 : Int); omega⟩, ⟨i0, by omega⟩, by omega, Nat.le_refl _, fun r4 e4 h4 => ?_⟩
  rw [seg_len (by rw [List.length_set, hbl])] at h4
  have h30 := change_30 (N := r1') (c := 48 + (w.getD i.toNat 0 - 48 + 1 + q).tmod 10) (i := i.toNat) hN1 hN2 (by omega) (by omega) (by rw [hw]; omega)
  rw [hw, ← h4] at h30
  have h30 : e4 = 30 := h30
  subst h30
  refine ⟨fun h => absurd h (by decide), fun _ => ⟨T9, fun k k0 k1 => ?_⟩⟩
  refine ⟨inR_i64.2 (by omega), inR_i64.2 (by omega), ⟨by omega, by omega⟩, by omega, ⟨k0, by omega⟩, by omega, ⟨k0, by omega⟩, by omega, ⟨by omega, by omega⟩, by omega, Nat.le_refl _, fun r6 e6 h6 => ?_⟩
  rw [show (k + 1).toNat = k.toNat + 1 by omega, seg_len (by rw [List.length_set, List.length_set, hbl])] at h6
  have hsw := swap_iff (N := r1') (k := k.toNat) hN1 hN2 (by omega)
  rw [hw] at hsw
  unfold swapL at hsw
  rw [← h6] at hsw
  have hsw : e6 = 0 ↔ w.getD k.toNat 0 = w.getD (k.toNat + 1) 0 := hsw
  refine ⟨⟨k0, by omega⟩, inR_i64.2 (by omega), ⟨by omega, by omega⟩, ?_⟩
  rw [show (k + 1).toNat = k.toNat + 1 by omega]
  have hb : ((e6 == 0) == (w.getD k.toNat 0 == w.getD (k.toNat + 1) 0)) = true := by
    by_cases e : w.getD k.toNat 0 = w.getD (k.toNat + 1) 0
    · rw [hsw.2 e, e]; simp
    · have : e6 ≠ 0 := fun h => e (hsw.1 h)
      rw [beq_eq_false_iff_ne.2 this, beq_eq_false_iff_ne.2 e]; rfl
  refine ⟨fun h => by rw [hb] at h; exact absurd h (by decide), fun _ => ⟨Nat.le_refl _, ⟨trivial, by omega, by omega⟩, Nat.le_refl _, fun l e hle => ?_⟩⟩
  obtain ⟨m1, m2, m3⟩ := mark_prop (a0, a1, a2) 3 0 w hbl
  rw [pos_none hbl v2] at m3
  obtain ⟨l', hr, hin, hE⟩ := reads_law (N := r1') (M := markK (a0, a1, a2) 3 0 w) hN1 hN2 m1 (by rw [hw]; exact m2) (by simpa using m3)
  have hl := readsI_len ((markK (a0, a1, a2) 3 0 w).map byteI)
  rw [hr] at hl
  rw [seg_self, hr] at hle
  injection hle with ha hb2
  subst ha hb2
  refine ⟨fun h => absurd h (by decide), fun _ => ⟨hl, fun r7 h7 => ⟨fun h => absurd (seekI_hit hin) (by omega), fun _ => ⟨Nat.le_refl _, ⟨?_, hl, by omega, by omega, ?_⟩, hK⟩⟩⟩⟩
  · rw [seg_self]; exact m1
  · rw [seg_self]; exact hE
theorem okDigits (hw : FnOk Tryd.prog 21 fcWorks) : FnOk Tryd.prog 5 fcDigits := fn1_of (n := 5) (((((((((good2_nil _).addL2 ok5B).addL2 ok5A).addF hw).addF okSeekN).addF okRingN).addF okReadsN).addF okNumberN).addF okCodeN) fun (n, (a0, a1, a2), d, ()) K hK => h5F n a0 a1 a2 d K hK
end Go.P3
