/- Tickets: the law of digits: the contracts are kept. No conditions. -/
import Derived.Test.YtcpdcpfbgmiaoaaDoorDigN
set_option linter.constructorNameAsVariable false
set_option linter.unusedVariables false
set_option linter.unusedSimpArgs false
set_option maxRecDepth 100000
namespace Go.P3
open Go.Lom Go.Proofs Go

theorem ringI_bd {n m : Int} (h : 0 < m) : 0 ≤ ringI n m ∧ ringI n m < m := by
  unfold ringI
  have h1 : -m < n.tmod m ∧ n.tmod m < m := ⟨Int.lt_tmod_of_pos n h, Int.tmod_lt_of_pos n h⟩
  have h2 : 0 ≤ n.tmod m + m := by omega
  rw [Int.tmod_eq_emod_of_nonneg h2]
  exact ⟨Int.emod_nonneg _ (by omega), Int.emod_lt_of_pos _ h⟩
theorem h26F (n m : Int) (K : dens [I] → Prop) (h0 : 0 < m) (h1 : m ≤ 99999999) (hK : K (ringI n m, ())) : xfn1 Tryd.prog {} 5 26 fcRing (n, m, ()) K := by
  rw [v26F]
  have h2 : -m < n.tmod m ∧ n.tmod m < m := ⟨Int.lt_tmod_of_pos n h0, Int.tmod_lt_of_pos n h0⟩
  simp only [fork_iff, req_iff, decide_eq_true_eq, decide_eq_false_iff_not]
  refine ⟨fun h => absurd h (by omega), fun _ => ?_⟩
  unfold ringI at hK
  repeat' (first | exact hK | (refine And.intro ?_ ?_) | exact inR_i64.2 (by omega) | omega | (simp; omega))
theorem ok26 : FnOk Tryd.prog 26 fcRing := fn1_of (n := 5) (good2_nil _) fun (n, m, ()) K hx => h26F n m K hx.1.1 hx.1.2 hx.2
theorem h27L (l : List Int) (n i : Int) (Q : LQ) : s27 l n i Q → xloop2 Tryd.prog {} 5 27 0 lc27 ex27 (fun (l, _, i, _) => l.length - i.toNat) (l, n, i, ()) Q := by
  intro ⟨⟨hl, h0, h1⟩, hS, hN⟩
  rw [v27L]
  simp only [fork_iff, req_iff, decide_eq_true_eq, decide_eq_false_iff_not, beq_iff_eq]
  refine ⟨fun hi => ?_, fun hi => ?_⟩
  · have ek : l.length - i.toNat = (l.length - (i + 1).toNat) + 1 := by omega
    rw [ek] at hS hN
    simp only [seekK] at hS hN
    refine ⟨⟨h0, hi⟩, fun he => hS i (if_pos he), fun he => ?_⟩
    have he : ¬ l.getD i.toNat 0 = n := by simpa using he
    rw [if_neg he] at hN
    exact ⟨inR_i64.2 (by omega), by omega, ⟨hl, by omega, by omega⟩, fun r hr => hS r (by rw [if_neg he]; exact hr), hN⟩
  · rw [show l.length - i.toNat = 0 by omega] at hN
    exact hN rfl
theorem ok27L : Lp2Ok Tryd.prog 27 0 lc27 := lp2_of (n := 5) (ex := ex27) (m := fun (l, _, i, _) => l.length - i.toNat) (good2_nil _) fun (l, n, i, ()) Q hx => h27L l n i Q hx
theorem h27F (l : List Int) (n : Int) (K : dens [I] → Prop) (hl : l.length ≤ 100000) (hK : K (seekI l n, ())) : xfn1 Tryd.prog { l2 := [(27, 0, lc27)] } 5 27 fcSeek (l, n, ()) K := by
  rw [v27F]
  unfold seekI at hK
  refine ⟨⟨hl, by omega, by omega⟩, fun r hr => ?_, fun hr => ?_⟩
  · have hr : seekK l n l.length 0 = some r := hr
    rw [hr] at hK; exact hK
  · have hr : seekK l n l.length 0 = none := hr
    rw [hr] at hK; exact hK
theorem ok27 : FnOk Tryd.prog 27 fcSeek := fn1_of (n := 5) ((good2_nil _).addL2 ok27L) fun (l, n, ()) K hx => h27F l n K hx.1 hx.2

/-! the same contracts, with names for what is answered -/
theorem okRingN : FnOk Tryd.prog 26 fcRingN := fun x K hx => ok26 x K ⟨hx.1, hx.2 _ (ringI_bd hx.1.1).1 (ringI_bd hx.1.1).2⟩
theorem okCodeN : FnOk Tryd.prog 14 fcCodeN := fun x K hx => ok14 x K (by
  show K (if 1 ≤ x.1 ∧ x.1 ≤ 99999999 then codeS x.1 else [], if 1 ≤ x.1 ∧ x.1 ≤ 99999999 then 0 else 7, ())
  rw [if_pos hx.1, if_pos hx.1]; exact hx.2 _ rfl)
theorem okNumberN : FnOk Tryd.prog 16 fcNumberN := fun x K hx => ok16 x K (hx _ _ rfl)
theorem okReadsN : FnOk Tryd.prog 18 fcReadsN := fun x K hx => ok18 x K (hx _ _ rfl)
theorem okSeekN : FnOk Tryd.prog 27 fcSeekN := fun x K hx => ok27 x K ⟨hx.1, hx.2 _ rfl⟩

/-! the law's loops -/
theorem seg_set {b : List Int} {p : Nat} {c : Int} : seg 0 b.length (b.set p c) = b.set p c := by
  have := seg_self (b.set p c); rw [List.length_set] at this; exact this
theorem h5A (n : Int) (a : Int × Int × Int) (b : List Int) (j : Int) (Q : LQ) : s5a n a b j Q → xloop2 Tryd.prog { f := [(26, fcRing)] } 5 5 0 lc5a (fun _ => some (sh5ae, 1)) (fun (_, _, _, j, _) => (3 - j).toNat) (n, a, b, j, ()) Q := by
  obtain ⟨a0, a1, a2⟩ := a
  intro ⟨⟨hl, h0, h1⟩, hQ⟩
  have hj : j = 0 ∨ j = 1 ∨ j = 2 ∨ j = 3 := by omega
  rcases hj with rfl | rfl | rfl | rfl
  · rw [v5A0]
    have hr := ringI_bd (n := a0) (m := 10) (by omega)
    simp only [req_iff, decide_eq_true_eq, Nat.add_zero]
    rw [seg_set]
    exact ⟨⟨by show (0 : Int) < 10; omega, by show (10 : Int) ≤ 99999999; omega⟩, ⟨hr.1, by omega⟩, by omega, inR_i64.2 (by omega), by simp, by omega, ⟨⟨by simp [hl], by omega, by omega⟩, hQ⟩⟩
  · rw [v5A1]
    have hr := ringI_bd (n := a1) (m := 10) (by omega)
    simp only [req_iff, decide_eq_true_eq, Nat.add_zero]
    rw [seg_set]
    exact ⟨⟨by show (0 : Int) < 10; omega, by show (10 : Int) ≤ 99999999; omega⟩, ⟨hr.1, by omega⟩, by omega, inR_i64.2 (by omega), by simp, by omega, ⟨⟨by simp [hl], by omega, by omega⟩, hQ⟩⟩
  · rw [v5A2]
    have hr := ringI_bd (n := a2) (m := 10) (by omega)
    simp only [req_iff, decide_eq_true_eq, Nat.add_zero]
    rw [seg_set]
    exact ⟨⟨by show (0 : Int) < 10; omega, by show (10 : Int) ≤ 99999999; omega⟩, ⟨hr.1, by omega⟩, by omega, inR_i64.2 (by omega), by simp, by omega, ⟨⟨by simp [hl], by omega, by omega⟩, hQ⟩⟩
  · rw [v5A3, req_iff, seg_self]
    exact ⟨by simp, hQ⟩
theorem ok5A : Lp2Ok Tryd.prog 5 0 lc5a := lp2_of (n := 5) (ex := fun _ => some (sh5ae, 1)) (m := fun (_, _, _, j, _) => (3 - j).toNat) ((good2_nil _).addF ok26) fun (n, a, b, j, ()) Q hx => h5A n a b j Q hx
theorem h5C (b l : List Int) (j : Int) (t : List UInt8) (k : Int) (Q : LQ) : s5c b l j t k Q → xloop2 Tryd.prog {} 5 5 2 lc5c (fun _ => some (sh5ce, 0)) (fun (_, _, _, _, k, _) => (10 - k).toNat) (b, l, j, t, k, ()) Q := by
  intro ⟨⟨hb, ht, h0, h1, hf⟩, hQ⟩
  rw [v5C]
  have hc : ((t.getD k.toNat 0).toNat : Int) = cI t k := rfl
  rw [hc]
  simp only [fork_iff, req_iff, decide_eq_true_eq, decide_eq_false_iff_not]
  have go : k < 10 → inR .i64 (k + 1) = true ∧ (10 - (k + 1)).toNat < (10 - k).toNat ∧ lc5c.spec (b, l, j, t, k + 1, ()) Q := fun hk => ⟨inR_i64.2 (by omega), by omega, ⟨hb, ht, by omega, by omega, hf⟩, hQ⟩
  refine ⟨fun hk => ⟨⟨h0, by omega⟩, fun h63 => ⟨⟨h0, by omega⟩, ⟨h0, by omega⟩, fun hne => ?_, fun _ => go hk⟩, fun _ => go hk⟩, fun _ => hQ⟩
  exfalso
  have h63 : b.getD k.toNat 0 ≠ 63 := by simpa using h63
  have hne : b.getD k.toNat 0 ≠ cI t k := by simpa using hne
  rcases hf k h0 hk with h | h
  · exact h63 h
  · exact hne h
theorem ok5C : Lp2Ok Tryd.prog 5 2 lc5c := lp2_of (n := 5) (ex := fun _ => some (sh5ce, 0)) (m := fun (_, _, _, _, k, _) => (10 - k).toNat) (good2_nil _) fun (b, l, j, t, k, ()) Q hx => h5C b l j t k Q hx
theorem h5B (b l : List Int) (j : Int) (Q : LQ) : s5b b l j Q → xloop2 Tryd.prog { f := [(14, fcCode)], l2 := [(5, 2, lc5c)] } 5 5 1 lc5b (fun _ => some (.nil, 0)) (fun (_, l, j, _) => l.length - j.toNat) (b, l, j, ()) Q := by
  intro ⟨⟨hb, hl, h0, h1, hE⟩, hQ⟩
  rw [v5B, fork_iff]
  refine ⟨fun hj => ?_, fun _ => hQ⟩
  have hj : j < l.length := of_decide_eq_true hj
  obtain ⟨g1, g2, g3⟩ := hE j h0 hj
  have hif : (1 ≤ l.getD j.toNat 0 ∧ l.getD j.toNat 0 ≤ 99999999) := g1
  simp only [if_pos hif]
  have fin : (b.length = 10 ∧ (codeS (l.getD j.toNat 0)).length = 10 ∧ (0 : Int) ≤ 0 ∧ (0 : Int) ≤ 10 ∧ fitsB b (codeS (l.getD j.toNat 0))) ∧ req (inR .i64 (j + 1)) (l.length - (j + 1).toNat < l.length - j.toNat ∧ lc5b.spec (b, l, j + 1, ()) Q) :=
    ⟨⟨hb, code_len _, by omega, by omega, g3⟩, req_iff.2 ⟨inR_i64.2 (by omega), by omega, ⟨hb, hl, by omega, by omega, hE⟩, hQ⟩⟩
  simp only [fork_iff, req_iff, decide_eq_true_eq, decide_eq_false_iff_not]
  refine ⟨⟨h0, hj⟩, fun h => by simp at h, fun _ => ⟨fun h => by rw [code_len] at h; simp at h, fun _ => ⟨fun hp => ⟨inR_i64.2 (by omega), ⟨by omega, by omega⟩, ⟨h0, hj⟩, fun hge => ?_, fun _ => ?_⟩, fun _ => ?_⟩⟩⟩
  · exact absurd (g2 hp) (by omega)
  · simpa only [req_iff] using fin
  · simpa only [req_iff] using fin
theorem ok5B : Lp2Ok Tryd.prog 5 1 lc5b := lp2_of (n := 5) (ex := fun _ => some (.nil, 0)) (m := fun (_, l, j, _) => l.length - j.toNat) (((good2_nil _).addL2 ok5C).addF ok14) fun (b, l, j, ()) Q hx => h5B b l j Q hx
theorem mark_prop (a : Int × Int × Int) : ∀ (k : Nat) (j : Int) (b : List Int), b.length = 10 → (markK a k j b).length = 10 ∧ (∀ i : Nat, i < 10 → (markK a k j b).getD i 0 = 63 ∨ (markK a k j b).getD i 0 = b.getD i 0) ∧ (posK (markK a k j b) 10).length ≤ (posK b 10).length + k
  | 0, j, b, h => ⟨h, fun i _ => .inr rfl, Nat.le_refl _⟩
  | k + 1, j, b, h => by
    have hr := ringI_bd (n := atI a j) (m := 10) (by omega)
    simp only [markK]
    obtain ⟨m1, m2, m3⟩ := mark_prop a k (j + 1) (b.set (ringI (atI a j) 10).toNat 63) (by simp [h])
    have h1 := posK_one (w := b) (i := (ringI (atI a j) 10).toNat) (by omega) 10
    refine ⟨m1, fun i hi => ?_, by omega⟩
    rcases m2 i hi with e | e
    · exact .inl e
    · rw [e, getD_set (by omega)]
      split
      · exact .inl rfl
      · exact .inr rfl
theorem pos_none {w : List Int} (hl : w.length = 10) (hd : ∀ c ∈ w, 48 ≤ c ∧ c ≤ 57) : posK w 10 = [] := by
  refine List.eq_nil_iff_forall_not_mem.2 fun p hp => ?_
  obtain ⟨a, b, c⟩ := (posK_mem 10 p).1 hp
  have := hd _ (getD_mem (l := w) (i := p.toNat) (by omega))
  omega
end Go.P3
