/- Balances: the statement. No conditions. -/
import Derived.Test.YtfenogdjhadcoaaBalP1
set_option linter.all false
set_option maxRecDepth 100000
set_option maxHeartbeats 4000000
namespace Go.P8
open Go.Lom Go.Proofs Go
theorem set_sum : ∀ (l : List Int) (i : Nat) (x : Int), i < l.length -> (l.set i (l.getD i 0 + x)).sum = l.sum + x
 | [], i, x, h => by simp at h
 | a :: l, 0, x, _ => by
  show (a + x) + l.sum = a + l.sum + x
  omega
 | a :: l, i + 1, x, h => by
  have := set_sum l i x (by simpa using h)
  show a + (l.set i (l.getD i 0 + x)).sum = a + l.sum + x
  omega
theorem move_sum {l : List Int} {f t s : Int} (hf : f.toNat < l.length) (ht : t.toNat < l.length) : (moveI l f t s).sum = l.sum := by
 have h1 : (addAt l f (-s)).sum = l.sum + -s := set_sum l _ _ hf
 have h2 : (moveI l f t s).sum = (addAt l f (-s)).sum + s := set_sum _ _ _ (by rw [addAt_len]; exact ht)
 omega
theorem po_in {k : Nat} {p : Po} (h : poOk k p = true) : p.1.toNat < k /\ p.2.1.toNat < k := by
 obtain ⟨a1, a2, -⟩ := poOk_iff.1 h
 omega
theorem bal_sum : ∀ (ps : List Po) (l : List Int), (∀ p ∈ ps, poOk l.length p = true) -> (balI l ps).sum = l.sum
 | [], _, _ => rfl
 | p :: ps, l, h => by
  have hp := po_in (h p (List.mem_cons_self ..))
  show (balI (moveI l p.1 p.2.1 p.2.2) ps).sum = _
  rw [bal_sum ps _ fun q hq => by rw [moveI_len]; exact h q (List.mem_cons_of_mem _ hq), move_sum hp.1 hp.2]
theorem xpl_sum {ps : List Po} : ∀ (l : List Mi) (x y : List Int) (low : Int), 0 <= low -> (∀ p ∈ ps, poOk x.length p = true) -> xplT ps x low l = some y -> y.sum = x.sum
 | [], x, y, low, _, _, h => by rw [<- Option.some.inj (show some x = some y from h)]
 | m :: l, x, y, low, h0, hp, h => by
  unfold xplT at h
  split at h
  ·rename_i c
   have hq := po_in (hp _ (po_mem (by omega) c.1.2))
   rw [xpl_sum l _ y (m.1 + 1) (by omega) (by rw [moveI_len]; exact hp) h]
   exact move_sum hq.1 hq.2
  ·cases h
theorem from_ok {ps : List Po} {off : List Int} {l : List Mi} (h : explFrom ps off 0 = some l) : explOk ps off 0 l /\ l.length <= 3 := by
 refine ⟨?_, from_len h⟩
 unfold explFrom at h
 obtain ⟨n, hn, h⟩ := List.exists_of_findSome?_eq_some h
 exact (expl_ok ps _ _ _ l h).2
theorem from_best {ps : List Po} {off : List Int} {l : List Mi} (h : explOk ps off 0 l) (hl : l.length <= 3) : ∃ k, explFrom ps off 0 = some k /\ (k.length < l.length \/ k.length = l.length /\ befM l k = false) := by
 obtain ⟨k, hk, hb⟩ := expl_best ps l.length off 0 l rfl h
 obtain ⟨z, c, z1, z2, z3, z4⟩ := first_range (f := fun n => expl ps n off 0) 4 0 l.length k (Nat.zero_le _) (by omega) hk
 refine ⟨c, z3, ?_⟩
 have hc := (expl_ok ps _ _ _ c z4).1
 by_cases e : z = l.length
 ·subst e
  have z4 : expl ps l.length off 0 = some c := z4
  rw [hk] at z4
  rw [<- Option.some.inj z4]
  exact .inr ⟨(expl_ok ps _ _ _ k hk).1, hb⟩
 ·exact .inl (by omega)
theorem ok6 (hw : FnOk Try.prog 19 fcWorks) : FnOk Try.prog 6 fc6 := fn1_of (n := 5) (((((((good2_nilN _).addF hw).addF ok30).addF ok29).addF ok27b).addF ok22).addF ok20) fun ((o, ps, cn), l, ()) K hx => by
 obtain ⟨⟨hb, hlb⟩, hK⟩ := hx
 show xfn1 Try.prog { nm := true, f := [(20, fc20), (22, fc22), (27, fcSumB), (29, fc29), (30, fc30), (19, fcWorks)] } 5 6 fc6 ((o, ps, cn), l, ()) K
 rw [v6F]
 refine ⟨hb, fun r e h1 => ⟨hb, fun r1 e1 h2 => ?_⟩⟩
 have hK : K (true, ()) := hK
 have hlb : l.length <= 9223372036854775807 := hlb
 simp only [fork_iff, req_iff, decide_eq_true_eq, decide_eq_false_iff_not, beq_iff_eq, beq_eq_false_iff_ne, bne_iff_ne, bne_eq_false_iff_eq, ne_eq, Bool.not_eq_true', Bool.not_eq_false', true_and]
 unfold balE at h1
 unfold explE at h2
 cases hd : dayOk (o, ps, cn) with
 | false =>
  rw [hd] at h1 h2
  obtain ⟨rfl, rfl⟩ := Prod.mk.inj h1
  obtain ⟨rfl, rfl⟩ := Prod.mk.inj h2
  refine ⟨fun _ => ⟨fun _ => ⟨fun _ => ⟨fun _ => ⟨fun _ => hK, fun c => absurd rfl c⟩, fun c => absurd rfl c⟩, fun c => absurd rfl c⟩, fun c => absurd rfl c⟩, fun c => by cases c⟩
 | true =>
  rw [hd, if_pos rfl] at h1 h2
  obtain ⟨rfl, rfl⟩ := Prod.mk.inj h1
  have hy := dayOk_iff.1 hd
  have hlen : 2 <= o.length /\ o.length <= 8 /\ cn.length = o.length /\ ps.length <= 16 := hy.len
  have hpos : ∀ p ∈ ps, poOk o.length p = true := hy.pos
  have hbl : (balI o ps).length = o.length := balI_len ps o
  have hbal : offB (33 * 1073741824) (balI o ps) := day_bal hy
  have hbs : (balI o ps).sum = o.sum := bal_sum ps o hpos
  have hob : ∀ z : List Int, (∀ y ∈ z, sumOk y = true) -> offB 1099511627776 z := fun z hz y hy => by
   have := hz y hy
   unfold sumOk at this
   have := of_decide_eq_true this
   omega
  have hd2 := hd
  unfold dayOk at hd2
  simp only [Bool.and_eq_true, List.all_eq_true] at hd2
  have ho : offB 1099511627776 o := hob o hd2.1.1.2
  have hcn : offB 1099511627776 cn := hob cn hd2.1.2
  have hbw : offB 1099511627776 (balI o ps) := fun y hy => by have := hbal y hy; omega
  have hof : offI (o, ps, cn) = subI (balI o ps) cn := rfl
  rw [hof] at h2
  dsimp only at h2
  clear hd2 hob
  rw [hbl, hbs]
  refine ⟨fun c => absurd rfl c, fun _ => ⟨fun c => absurd rfl c, fun _ => ⟨⟨by omega, hbw⟩, fun r2 hr2 => ⟨⟨by omega, ho⟩, fun r3 hr3 => ⟨fun c => absurd (hr2.trans hr3.symm) c, fun _ => ⟨⟨rfl, rfl, hbal, hlb⟩, fun so hso => ?_⟩⟩⟩⟩⟩⟩
  cases hf : explFrom ps (subI (balI o ps) cn) 0 with
  | none =>
   rw [hf] at h2
   obtain ⟨rfl, rfl⟩ := Prod.mk.inj h2
   refine ⟨fun _ => ⟨fun _ => ⟨fun _ => ⟨fun _ => hK, fun c => ?_⟩, fun c => absurd rfl c⟩, fun c => absurd rfl c⟩, fun c => absurd c (by decide)⟩
   obtain ⟨k1, k2⟩ := hso.1 c
   obtain ⟨k, hk, -⟩ := from_best k1 k2
   rw [hf] at hk; cases hk
  | some k =>
   rw [hf] at h2
   obtain ⟨rfl, rfl⟩ := Prod.mk.inj h2
   obtain ⟨k1, k2⟩ := from_ok hf
   refine ⟨fun c => absurd rfl c, fun _ => ⟨⟨rfl, rfl, hbal, by omega⟩, fun b1 hb1 => ⟨fun c => ?_, fun _ => ⟨⟨by omega, hcn⟩, fun r4 hr4 => ⟨⟨by omega, ho⟩, fun r5 hr5 => ⟨fun c => ?_, fun _ => ⟨fun _ => hK, fun hs => ?_⟩⟩⟩⟩⟩⟩⟩
   ·have := hb1.2 ⟨k1, k2⟩
    rw [c] at this; cases this
   ·have := (xpl_ok (cn := cn) r1 (balI o ps) 0 (Int.le_refl 0) (by omega)).1 k1
    have := xpl_sum _ _ _ 0 (Int.le_refl 0) (by rw [hbl]; exact hpos) this
    exact absurd (hr4.trans (this.trans (hbs.trans hr5.symm))) c
   ·obtain ⟨j1, j2⟩ := hso.1 hs
    obtain ⟨k', hk', hbest⟩ := from_best j1 j2
    rw [hf] at hk'
    have := Option.some.inj hk'
    subst this
    refine ⟨fun _ => hK, fun c => ⟨fun _ => ⟨hlb, fun q hq => ⟨fun _ => hK, fun c2 => ?_⟩⟩, fun c2 => ?_⟩⟩
    ·rcases hbest with h | h
     ·exact absurd (show (r1.length : Int) < l.length by omega) c
     ·rw [h.2] at hq; rw [hq] at c2; cases c2
    ·rcases hbest with h | h
     ·exact absurd (show (r1.length : Int) < l.length by omega) c
     ·exact absurd (show (r1.length : Int) = l.length by omega) c2
end Go.P8
