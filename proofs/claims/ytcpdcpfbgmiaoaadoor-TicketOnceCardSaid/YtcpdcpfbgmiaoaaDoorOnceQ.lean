/- TicketOnce: the code keeps its contract. No conditions. -/
import Derived.Test.YtcpdcpfbgmiaoaaDoorOnceP
set_option linter.constructorNameAsVariable false
set_option linter.unusedVariables false
set_option linter.unusedSimpArgs false
set_option maxRecDepth 100000
set_option maxHeartbeats 4000000
namespace Go.P3
open Go.Lom Go.Proofs Go

theorem h9B (l : List Cl) (r : rolV) (o : List Tx) (a b : List Tk) (i k : Int) (Q : AX → St → Prop) (hk : keptT a b) (hb : b.length ≤ 256) (k0 : 0 ≤ k) (k1 : k ≤ a.length) (hQ : Q (.exit 2) (stS 4 sh9bx (l, r, o, i, b, ()))) :
    xloop2 Tryd.prog { f := [(28, fcFrom)] } 5 9 1 lc9b (fun _ => some (sh9bx, 4)) (fun (_, _, _, a, _, _, k, _) => mL a k) (l, r, o, a, i, b, k, ()) Q := by
  rw [v9B]
  simp only [fork_iff, req_iff, decide_eq_true_eq, decide_eq_false_iff_not, beq_iff_eq, beq_eq_false_iff_ne, bne_iff_ne, bne_eq_false_iff_eq, ne_eq, Nat.zero_add, seg_self, Nat.le_refl, true_and, Bool.not_eq_true', Bool.not_eq_false']
  refine ⟨fun hi => ?_, fun hi => hQ⟩
  have hj := hk.2 k.toNat (by omega)
  have hl := hk.1
  rw [show (0, [], 0, [], 0, 0) = T0 from rfl]
  generalize a.getD k.toNat T0 = x at *
  generalize b.getD k.toNat T0 = y at *
  have go : inR .i64 (k + 1) = true := inR_i64.2 (by omega)
  have gm : mL a (k + 1) < mL a k := mL_lt hi
  have c1 : (0 : Int) ≤ k + 1 := by omega
  have c2 : k + 1 ≤ (a.length : Int) := by omega
  repeat' (first
    | exact hk
    | refine And.intro ?_ ?_
    | (intro hne; exact absurd (hj.2 (by assumption)) hne)
    | (intro hne; exact absurd hj.1.symm hne)
    | intro _
    | exact go
    | exact gm
    | exact hk
    | exact hb
    | exact c1
    | exact c2
    | exact hQ
    | omega)
theorem ok9B : Lp2Ok Tryd.prog 9 1 lc9b := lp2_of (n := 5) (ex := fun _ => some (sh9bx, 4)) (m := fun (_, _, _, a, _, _, k, _) => mL a k) ((good2_nil _).addF ok28) fun (l, r, o, a, i, b, k, ()) Q hx => by
  obtain ⟨⟨g1, g2, g3, g4⟩, hQ⟩ := hx
  exact h9B l r o a b i k Q g1 g2 g3 g4 hQ
theorem h9L (w d0 : Int) (ts : List Tk) (es : List Ev) (l : List Cl) (o : List Tx) (i : Int) (Q : AX → St → Prop) (hok : okR (w, d0, ts, es)) (hl : okLs l) (hinv : InvO (w, d0, ts, es) o) (h0 : 0 ≤ i) (h1 : i ≤ 60) (h2 : (es.length : Int) ≤ i) (h3 : (o.length : Int) ≤ i)
    (hQ : ∀ (w1 d1 : Int) (ts1 : List Tk) (es1 : List Ev) (o1 : List Tx), okR (w1, d1, ts1, es1) → InvO (w1, d1, ts1, es1) o1 → es1.length ≤ 60 → o1.length ≤ 60 → Q (.exit 0) (stS 4 sh9e ((w1, d1, ts1, es1, true, ()), o1, ()))) :
    xloop2 Tryd.prog { nm := true, f := [(39, fcSeekT)], f2 := [(31, fcCall), (30, fcTix)], l2 := [(9, 1, lc9b)] } 5 9 0 lc9 (fun _ => some (sh9e, 4)) (fun (_, _, _, _, i, _) => (60 - i).toNat) (l, (w, d0, ts, es, true, ()), o, ts, i, ()) Q := by
  rw [v9L]
  simp only [fork_iff, req_iff, decide_eq_true_eq, decide_eq_false_iff_not, beq_iff_eq, beq_eq_false_iff_ne, bne_iff_ne, bne_eq_false_iff_eq, ne_eq, Nat.zero_add, seg_self, Nat.le_refl, true_and, ge_iff_le, Decidable.not_not]
  refine ⟨fun hi => ⟨fun h60 => ⟨⟨h0, hi⟩, ?_⟩, fun h60 => hQ _ _ _ _ _ hok hinv (by omega) (by omega)⟩, fun hi => hQ _ _ _ _ _ hok hinv (by omega) (by omega)⟩
  have hc : l.getD i.toNat C0 ∈ l := getC_mem (by omega)
  have hcl := hl.all _ hc
  rw [show (0, 0, [], [], [], [], []) = C0 from rfl]
  generalize l.getD i.toNat C0 = cl at *
  refine ⟨⟨hok, fits100 (by omega), hcl⟩, fun w1 d1 ts1 es1 tx l1 e hcall => ?_⟩
  obtain ⟨kept, inv⟩ := call_inv hok cl hinv
  obtain ⟨g1, g2, g3⟩ := call_ok hok cl
  rw [← hcall] at kept inv g1 g2 g3
  have g3 : es1.length ≤ es.length + 1 := g3
  have kept : keptT ts ts1 := kept
  have hm := num_mem g1
  have hlen := g1.len
  simp only at hm hlen inv
  have hed : ∀ t ∈ ts1, t.2.2.2.1.length ≤ 100 := fun t ht => Nat.le_trans (hm t ht).2 (by decide)
  have hlen1 := kept.1
  have go : inR .i64 (i + 1) = true := inR_i64.2 (by omega)
  have gm : ((60 : Int) - (i + 1)).toNat < ((60 : Int) - i).toNat := by omega
  have c1 : (0 : Int) ≤ i + 1 := by omega
  have c2 : i + 1 ≤ (60 : Int) := by omega
  have c3 : (es1.length : Int) ≤ i + 1 := by omega
  have ob : o.length ≤ 9223372036854775807 := by omega
  have rest : ¬ ((cl.1 = 6 ∨ cl.1 = 7) ∧ e = 0) → InvO (w1, d1, ts1, es1) o := fun h => by rw [if_neg h] at inv; exact inv
  have over : (cl.1 = 6 ∨ cl.1 = 7) → e = 0 → ∃ q, tx = [q] ∧ o.any (eqT q) = false ∧ InvO (w1, d1, ts1, es1) (o ++ [q]) := fun a b => by rw [if_pos ⟨a, b⟩] at inv; exact inv
  have oc : (o.length : Int) ≤ i + 1 := by omega
  have one : (cl.1 = 6 ∨ cl.1 = 7) → e = 0 → (tx.length : Int) = 1 := fun a b => by
    obtain ⟨q, rfl, -, -⟩ := over a b; rfl
  have fresh : (cl.1 = 6 ∨ cl.1 = 7) → e = 0 → ∀ r : Int, r = firstIx (fun t => decide (t = tx.getD 0 [])) o 0 → ¬ 0 ≤ r := fun a b r hr h => by
    obtain ⟨q, rfl, hq, -⟩ := over a b
    have := (firstIx_iff hr).1 h
    rw [show ([q] : List Tx).getD 0 [] = q from rfl, hq] at this; cases this
  have inv2 : (cl.1 = 6 ∨ cl.1 = 7) → e = 0 → ∀ ys : List Tx, ys = o ++ [tx.getD 0 []] → InvO (w1, d1, ts1, es1) (seg 0 (o.length + 1) ys) ∧ ((seg 0 (o.length + 1) ys).length : Int) ≤ i + 1 ∧ o.length + 1 ≤ ys.length := fun a b ys hys => by
    obtain ⟨q, rfl, -, hi⟩ := over a b
    have hyl : ys.length = o.length + 1 := by rw [hys, List.length_append]; rfl
    rw [seg_exact hyl.symm, hys]
    refine ⟨hi, ?_, ?_⟩
    · rw [List.length_append]; simp; omega
    · rw [List.length_append]; exact Nat.le_refl _
  repeat' (first
    | exact kept
    | exact g1
    | exact hed
    | exact hQ
    | exact hlen
    | refine And.intro ?_ ?_
    | (intro hne; exact absurd (one (by first | exact .inl (by assumption) | exact .inr (by assumption)) (by assumption)) hne)
    | (intro r hr; have hfr := fresh (by first | exact .inl (by assumption) | exact .inr (by assumption)) (by assumption) r hr)
    | (intro ys hys; have hi2 := inv2 (by first | exact .inl (by assumption) | exact .inr (by assumption)) (by assumption) ys hys)
    | (intro lt hlt; subst hlt)
    | (intro hne; exact absurd hne (by assumption))
    | (intro hne; exact absurd hne (by omega))
    | intro _
    | exact go
    | exact gm
    | exact g1
    | exact hl
    | exact kept
    | exact hlen
    | exact hed
    | exact c1
    | exact c2
    | exact c3
    | exact oc
    | exact ob
    | exact (by assumption : _ ∧ _ ∧ _).1
    | exact (by assumption : _ ∧ _ ∧ _).2.1
    | exact (by assumption : _ ∧ _ ∧ _).2.2
    | exact rest (by intro hh; omega)
    | exact Int.le_refl (0 : Int)
    | exact Int.natCast_nonneg _
    | exact hQ
    | exact fits100 (by omega)
    | rfl
    | trivial
    | omega)
theorem ok9L : Lp2Ok Tryd.prog 9 0 lc9 := lp2_of (n := 5) (ex := fun _ => some (sh9e, 4)) (m := fun (_, _, _, _, i, _) => ((60 : Int) - i).toNat) (((((good2_nilN _).addL2 ok9B).addF2 ok30).addF2 ok31).addF ok39) fun (l, (w, d0, ts, es, b, ()), o, a, i, ()) Q hx => by
  obtain ⟨⟨hok, hb, ha, hl, hinv, h0, h1, h2, h3⟩, hQ⟩ := hx
  have hb : b = true := hb
  have ha : a = ts := ha
  subst hb; subst ha
  exact h9L w d0 a es l o i Q hok hl hinv h0 h1 h2 h3 hQ
theorem inv0 (w d : Int) : InvO (w, d, [], []) [] where
  cnt := fun p hp => Bool.noConfusion hp
  ov := fun p hp => nomatch hp
  days := ⟨fun i hi => absurd hi (Nat.not_lt_zero _), fun e he => nomatch he⟩
theorem okOnce (hw : FnOk Tryd.prog 21 fcWorks) : FnOk Tryd.prog 9 fcLawC := fn1_of (n := 5) (((((good2_nil _).addL2 ok9L).addF2 ok40).addF hw).addF ok49) fun (wt, l, ()) K hx => by
  obtain ⟨hl, hK⟩ := hx
  rw [v9F]
  simp only [fork_iff, req_iff, decide_eq_true_eq, decide_eq_false_iff_not, Bool.not_eq_true', Bool.not_eq_false', Nat.zero_add, seg_self, Nat.le_refl, true_and]
  refine ⟨fun _ => hK, fun hwt => ⟨⟨new_ok (by first | exact hwt | (have := hwt; simpa using this)), rfl, hl, inv0 _ _, Int.le_refl (0 : Int), show (0 : Int) ≤ 60 by decide, Int.le_refl 0, Int.le_refl 0⟩, fun w1 d1 ts1 es1 o1 hok hinv he ho => ?_⟩⟩
  refine ⟨⟨hok, by omega, by omega, hinv.days.1, fun j hj => hinv.cnt _ ?_⟩, hK⟩
  rw [List.any_eq_true]
  exact ⟨_, getC_mem hj, decide_eq_true rfl⟩
end Go.P3
