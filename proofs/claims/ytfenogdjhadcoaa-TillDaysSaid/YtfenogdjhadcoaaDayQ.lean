/- TillDays: the code keeps its contract. No conditions. -/
import Derived.Test.YtfenogdjhadcoaaDayP9
set_option linter.all false
set_option maxRecDepth 100000
set_option maxHeartbeats 4000000
namespace Go.P8
open Go.Lom Go.Proofs Go
theorem h23L (o cn : List Int) (ps : List Po) (i : Int) (Q : AX -> St -> Prop) (hd : dayOk (o, ps, cn) = true) (i0 : 0 <= i) (i1 : i <= 4) (hN : explFrom ps (offI (o, ps, cn)) i.toNat = none -> Q (.exit 0) (stS 0 .nil ())) (hS : ∀ l, explFrom ps (offI (o, ps, cn)) i.toNat = some l -> Q .ret (stS 0 sh23r (l, 0, ()))) :
  xloop2 Try.prog { nm := true, f := [(55, fc55), (61, fc61 4)] } 5 23 0 lc23 ex23 (fun (_, i, _) => (4 - i).toNat) ((o, ps, cn), i, ()) Q := by
 rw [v23L]
 have hy := dayOk_iff.1 hd
 have hlen : 2 <= o.length /\ o.length <= 8 /\ cn.length = o.length /\ ps.length <= 16 := hy.len
 have hbal : offB (33 * 1073741824) (balI o ps) := day_bal hy
 have hof : offI (o, ps, cn) = subI (balI o ps) cn := rfl
 simp only [fork_iff, req_iff, decide_eq_true_eq, decide_eq_false_iff_not, true_and]
 refine ⟨fun hi => ⟨hd, fun r hr => ⟨⟨⟨hd, by rw [hr]; exact balI_len ps o, fun x hx => ?_, by omega⟩, by show i < (4 : Int); omega, Int.le_refl (0 : Int), by show (0 : Int) <= 16; decide⟩, fun q b h1 h2 => ?_⟩⟩, fun hi => ?_⟩
 ·rw [hr] at hx
  have := hbal x hx
  unfold bd
  omega
 ·rw [from_step ps _ (show i.toNat < 4 by omega), hof] at hN hS
  rw [hr] at h1 h2
  refine ⟨fun hb => ?_, fun hb => ?_⟩
  ·rw [hb] at h1
   obtain ⟨l, hl⟩ := Option.isSome_iff_exists.1 h1.symm
   rw [hl] at hS
   rw [h2 l hl]
   exact hS l rfl
  ·rw [hb] at h1
   have hnone : expl ps i.toNat (subI (balI o ps) cn) 0 = none := by
    cases hc : expl ps i.toNat (subI (balI o ps) cn) 0 with
    | none => rfl
    | some l => rw [hc] at h1; cases h1
   rw [hnone] at hN hS
   have e1 : (i + 1).toNat = i.toNat + 1 := by omega
   refine ⟨inR_i64.2 (by omega), by omega, ⟨⟨hd, by show (0 : Int) <= i + 1; omega, by show i + 1 <= (4 : Int); omega⟩, fun h => ?_, fun l h => ?_⟩⟩
   ·have h : explFrom ps (offI (o, ps, cn)) (i + 1).toNat = none := h
    rw [e1, hof] at h; exact hN h
   ·have h : explFrom ps (offI (o, ps, cn)) (i + 1).toNat = some l := h
    rw [e1, hof] at h; exact hS l h
 ·have : i.toNat = 4 := by omega
  rw [this] at hN
  exact hN rfl
theorem ok23L : Lp2Ok Try.prog 23 0 lc23 := lp2_of (n := 5) (ex := ex23) (m := fun (_, i, _) => (4 - i).toNat) (((good2_nilN _).addF (ok61 4)).addF ok55) fun ((o, ps, cn), i, ()) Q hx => by
 obtain ⟨⟨g1, g2, g3⟩, hN, hS⟩ := hx
 exact h23L o cn ps i Q g1 g2 g3 hN hS
theorem ok23 : FnOk Try.prog 23 fc22 := fn1_of (n := 5) (((good2_nilN _).addL2 ok23L).addF ok54) fun ((o, ps, cn), ()) K hx => by
 obtain ⟨hb, hK⟩ := hx
 show xfn1 Try.prog { nm := true, f := [(54, fc54)], l2 := [(23, 0, lc23)] } 5 23 fc22 ((o, ps, cn), ()) K
 rw [v23F]
 simp only [fork_iff, bne_iff_ne, ne_eq, bne_eq_false_iff_eq]
 refine ⟨hb, fun e he => ?_⟩
 cases hd : dayOk (o, ps, cn) with
 | true =>
  rw [hd, if_pos rfl] at he
  subst he
  refine ⟨fun c => absurd rfl c, fun _ => ⟨⟨rfl, Int.le_refl (0 : Int), by show (0 : Int) <= 4; decide⟩, fun h => hK _ _ ?_, fun l h => hK _ _ ?_⟩⟩
  ·show _ = explE (o, ps, cn)
   unfold explE
   rw [hd, show explFrom (o, ps, cn).2.1 (offI (o, ps, cn)) 0 = none from h]; rfl
  ·show _ = explE (o, ps, cn)
   unfold explE
   rw [hd, show explFrom (o, ps, cn).2.1 (offI (o, ps, cn)) 0 = some l from h]; rfl
 | false =>
  rw [hd, if_neg (by decide)] at he
  subst he
  refine ⟨fun _ => hK _ _ ?_, fun c => by cases c⟩
  show _ = explE (o, ps, cn)
  unfold explE
  rw [hd]; rfl
theorem from_len {ps : List Po} {off : List Int} {l : List Mi} (h : explFrom ps off 0 = some l) : l.length <= 3 := by
 unfold explFrom at h
 obtain ⟨n, hn, h⟩ := List.exists_of_findSome?_eq_some h
 rw [List.mem_range'_1] at hn
 have := (expl_ok ps _ _ _ l h).1
 omega
theorem explE_len {d : Dy} {r : List Mi} {e : Int} (h : (r, e) = explE d) : r.length <= 3 := by
 unfold explE at h
 split at h
 ·split at h
  ·rename_i l hl
   rw [(Prod.mk.inj h).1]
   exact from_len hl
  ·rw [(Prod.mk.inj h).1]; exact Nat.zero_le _
 ·rw [(Prod.mk.inj h).1]; exact Nat.zero_le _
theorem balE_len {d : Dy} {r : List Int} {e : Int} (h : (r, e) = balE d) : r.length <= 8 := by
 unfold balE at h
 split at h
 ·rename_i hd
  rw [(Prod.mk.inj h).1, balI_len]
  exact (dayOk_iff.1 hd).len.2.1
 ·rw [(Prod.mk.inj h).1]; exact Nat.zero_le _
theorem h24L (a : List Mi) (i : Int) (Q : AX -> St -> Prop) (hl : a.length <= 1000) (i0 : 0 <= i) (i1 : i <= a.length) (hQ : Q (.exit 0) (stS 0 sh24e (true, ()))) :
  xloop2 Try.prog {} 5 24 0 lc24 (fun _ => some (sh24e, 0)) (fun (a, _, _, i, _) => mL a i) (a, a, true, i, ()) Q := by
 rw [v24L]
 simp only [fork_iff, req_iff, decide_eq_true_eq, decide_eq_false_iff_not, beq_self_eq_true, Bool.and_self]
 exact ⟨fun hi => ⟨⟨i0, hi⟩, ⟨i0, hi⟩, inR_i64.2 (by omega), mL_dec hi, ⟨⟨trivial, hl, trivial, by show (0 : Int) <= i + 1; omega, by show i + 1 <= (a.length : Int); omega⟩, hQ⟩⟩, fun _ => hQ⟩
theorem ok24L : Lp2Ok Try.prog 24 0 lc24 := lp2_of (n := 5) (ex := fun _ => some (sh24e, 0)) (m := fun (a, _, _, i, _) => mL a i) (good2_nil _) fun (a, b, ok, i, ()) Q hx => by
 obtain ⟨⟨g1, g2, g3, g4, g5⟩, hQ⟩ := hx
 have g1 : a = b := g1
 have g3 : ok = true := g3
 subst g1 g3
 exact h24L a i Q g2 g4 g5 hQ
theorem ok24 : FnOk Try.prog 24 fc24 := fn1_of (n := 5) ((good2_nil _).addL2 ok24L) fun (a, b, ()) K hx => by
 obtain ⟨⟨g1, g2⟩, hK⟩ := hx
 have g1 : a = b := g1
 subst g1
 show xfn1 Try.prog { l2 := [(24, 0, lc24)] } 5 24 fc24 (a, a, ()) K
 rw [v24F]
 exact ⟨⟨rfl, g2, beq_self_eq_true _, Int.le_refl (0 : Int), Int.natCast_nonneg _⟩, hK⟩
theorem okDays (hw : FnOk Try.prog 19 fcWorks) : FnOk Try.prog 4 fc4 := fn1_of (n := 5) ((((((((good2_nilN _).addF hw).addF ok14).addF ok24).addF ok23).addF ok22).addF ok21).addF ok20) fun ((o, ps, cn), ()) K hx => by
 obtain ⟨hb, hK⟩ := hx
 show xfn1 Try.prog { nm := true, f := [(20, fc20), (21, fc20), (22, fc22), (23, fc22), (24, fc24), (14, fcSame), (19, fcWorks)] } 5 4 fc4 ((o, ps, cn), ()) K
 rw [v4F]
 refine ⟨hb, fun r e h1 => ⟨hb, fun r1 e1 h2 => ⟨Nat.le_trans (balE_len h1) (by decide), fun q hq => ?_⟩⟩⟩
 obtain ⟨rfl, rfl⟩ := Prod.mk.inj (h1.trans h2.symm)
 have hq : q = true := hq.trans (decide_eq_true rfl)
 subst hq
 simp only [fork_iff, Bool.not_true, Bool.false_eq_true, false_imp_iff, true_and, true_imp_iff, bne_self_eq_false]
 refine ⟨hb, fun r2 e2 h3 => ⟨hb, fun r3 e3 h4 => ?_⟩⟩
 obtain ⟨rfl, rfl⟩ := Prod.mk.inj (h3.trans h4.symm)
 refine ⟨⟨rfl, Nat.le_trans (explE_len h3) (by decide)⟩, ?_⟩
 simp only [beq_self_eq_true, true_imp_iff, Bool.true_eq_false, false_imp_iff, and_true]
 exact hK
end Go.P8
