/- Days: Explain: the code keeps its contracts. No conditions. -/
import Derived.Test.YtfenogdjhadcoaaDayP4
set_option linter.all false
set_option maxRecDepth 100000
set_option maxHeartbeats 4000000
namespace Go.P8
open Go.Lom Go.Proofs Go
theorem ok56B {c : Nat} (h : F2Ok Try.prog 56 (fc56 c)) : Lp2Ok Try.prog 56 1 (lc56b c) := lp2_of (n := 5) (ex := ex56b) (m := fun (_, _, _, _, _, _, _, _, _, m, k, _) => (m - k).toNat) ((good2_nilI _).addF2 h) fun ((z, n), more, fo, off, (o, ps, cn), ((), (), (), (), (), ()), i, (p1, p2, p3), ns, m, k, ()) Q hx => by
 obtain ⟨⟨g1, g2, g3, ⟨g4, g5⟩, g6, g7, g8, g9, g10⟩, hN, hS⟩ := hx
 have g8 : m = (ns.length : Int) := g8
 subst g8
 exact h56B c z n more fo off o cn ps i p1 p2 p3 ns k Q g1 g2 g3 g4 g5 g6 g7 g9 g10 hN hS
theorem h56L (c : Nat) (z : List Mi) (n : Nat) (more : Int) (fo : List Mi) (off o cn : List Int) (ps : List Po) (i : Int) (Q : AX -> St -> Prop)
  (hx : okX (z, n) off (o, ps, cn) more) (hm1 : 1 <= more) (hmc : more <= c) (i0 : 0 <= i) (i1 : i <= 16)
  (hN : expl ps more.toNat off i.toNat = none -> ∀ z' fo' : List Mi, z'.take n = z.take n -> n <= z'.length -> Q (.exit 0) (stS 7 sh56e ((z', n), fo', off, (o, ps, cn), ((), (), (), (), (), ()), ())))
  (hS : ∀ l, expl ps more.toNat off i.toNat = some l -> ∀ z' : List Mi, z'.take n = z.take n -> n <= z'.length -> Q .ret (stS 7 sh56r ((z', n), z.take n ++ l, off, (o, ps, cn), ((), (), (), (), (), ()), true, ()))) :
  xloop2 Try.prog { nm := true, ip := true, f := [(60, fcReally)], l2 := [(56, 1, lc56b c)] } 5 56 0 (lc56 c) ex56 (fun (_, _, _, _, _, _, i, _) => (17 - i).toNat) ((z, n), more, fo, off, (o, ps, cn), ((), (), (), (), (), ()), i, ()) Q := by
 rw [v56L]
 have hn0 : n <= z.length /\ (n : Int) + more <= 3 := hx.room
 have hday := dayOk_iff.1 hx.day
 have hps : ps.length <= 16 := hday.len.2.2.2
 have hm : more.toNat = (more - 1).toNat + 1 := by omega
 simp only [fork_iff, req_iff, decide_eq_true_eq, decide_eq_false_iff_not, true_and, List.drop_zero]
 refine ⟨inR_i64.2 (by omega), fun hi => ?_, fun hi => ⟨ble_of hn0.1, hN (expl_few ps _ _ _ (by omega) (by omega)) z fo rfl hn0.1⟩⟩
 have hil : i < (ps.length : Int) := by omega
 have hpo := poOk_iff.1 (show poOk off.length (poA ps i.toNat) = true from okX_po hx i0 hil)
 have e1 : poA ps i.toNat = ps.getD i.toNat (0, 0, 0) := rfl
 have hst := expl_step ps (more - 1).toNat off (i := i.toNat) (by omega)
 rw [<- hm] at hst
 rw [hst] at hN hS
 rw [e1] at hpo hN hS
 have hi1 : (i + 1).toNat = i.toNat + 1 := by omega
 refine ⟨⟨i0, hil⟩, ⟨hpo.2.2.2.1, hpo.2.2.2.2⟩, fun r hr => ⟨ble_of hn0.1, ⟨hx, hm1, hmc, ⟨i0, hil⟩, e1.symm, hr, Int.le_refl (0 : Int), Int.natCast_nonneg _⟩, fun h z' fo' q1 q2 => ?_, fun l h z' q1 q2 => ?_⟩⟩
 ·rw [hr] at h
  rw [h] at hN hS
  refine ⟨inR_i64.2 (by omega), ble_of q2, by omega, ⟨⟨⟨hx.day, hx.len, hx.bnd, hx.cnt, q2, hn0.2⟩, hm1, hmc, by show (0 : Int) <= i + 1; omega, by show i + 1 <= (16 : Int); omega⟩, fun h2 z2 f2 w1 w2 => ?_, fun l h2 z2 w1 w2 => ?_⟩⟩
  ·have h2 : expl ps more.toNat off (i + 1).toNat = none := h2
   rw [hi1] at h2
   exact hN h2 z2 f2 (w1.trans q1) w2
  ·have h2 : expl ps more.toNat off (i + 1).toNat = some l := h2
   rw [hi1] at h2
   have := hS l h2 z2 (w1.trans q1) w2
   show Q .ret (stS 7 sh56r ((z2, n), z'.take n ++ l, off, (o, ps, cn), ((), (), (), (), (), ()), true, ()))
   rw [q1]; exact this
 ·rw [hr] at h
  rw [h] at hS
  exact ⟨ble_of q2, hS l rfl z' q1 q2⟩
theorem ok56L {c : Nat} (h : Lp2Ok Try.prog 56 1 (lc56b c)) : Lp2Ok Try.prog 56 0 (lc56 c) := lp2_of (n := 5) (ex := ex56) (m := fun (_, _, _, _, _, _, i, _) => (17 - i).toNat) (((good2_nilI _).addL2 h).addF ok60) fun ((z, n), more, fo, off, (o, ps, cn), ((), (), (), (), (), ()), i, ()) Q hx => by
 obtain ⟨⟨g1, g2, g3, g4, g5⟩, hN, hS⟩ := hx
 exact h56L c z n more fo off o cn ps i Q g1 g2 g3 g4 g5 hN hS
theorem h56F (c : Nat) (z : List Mi) (n : Nat) (i more : Int) (fo : List Mi) (off o cn : List Int) (ps : List Po) (K : post56.den -> Prop)
  (hx : okX (z, n) off (o, ps, cn) more) (hmc : more < c + 1) (i0 : 0 <= i) (i1 : i <= 16)
  (hK : ∀ (z' fo' : List Mi) (b : Bool), z'.take n = z.take n -> n <= z'.length -> b = (expl ps more.toNat off i.toNat).isSome -> (∀ l, expl ps more.toNat off i.toNat = some l -> fo' = z.take n ++ l) -> K ((z', n), (), (), fo', off, (o, ps, cn), ((), (), (), (), (), ()), b, ())) :
  xfn2 Try.prog { nm := true, ip := true, f := [(58, fc58z)], f2 := [(57, fc57)], l2 := [(56, 0, lc56 c)] } 5 56 (fc56 (c + 1)) ((z, n), i, more, fo, off, (o, ps, cn), ((), (), (), (), (), ()), ()) K := by
 rw [v56F]
 have hn0 : n <= z.length /\ (n : Int) + more <= 3 := hx.room
 have hm3 := hx.cnt
 have hol : off.length <= 8 := by rw [hx.len]; exact (dayOk_iff.1 hx.day).len.2.1
 have hs : seg 0 n z = z.take n := rfl
 simp only [fork_iff, req_iff, decide_eq_true_eq, decide_eq_false_iff_not, true_and, Nat.zero_add, Nat.le_refl, seg_all, beq_iff_eq, beq_eq_false_iff_ne, ne_eq]
 rw [hs]
 refine ⟨fun hm => ⟨hn0.1, by rw [List.length_take]; omega, fun r hr => ⟨by show off.length <= 9223372036854775807; omega, fun b hb => ⟨ble_of hn0.1, ?_⟩⟩⟩, fun hm => ⟨ble_of hn0.1, ⟨hx, by show (1 : Int) <= more; omega, by show more <= (c : Int); omega, i0, i1⟩, fun h z' fo' q1 q2 => ⟨ble_of q2, hK z' fo' false q1 q2 (by rw [h]; rfl) (fun l hl => by rw [h] at hl; cases hl)⟩, fun l h z' q1 q2 => ⟨ble_of q2, hK z' _ true q1 q2 (by rw [h]; rfl) (fun l' hl => by rw [h] at hl; injection hl with hl; rw [hl])⟩⟩⟩
 have e : expl ps more.toNat off i.toNat = if zeroB off = true then some [] else none := by rw [hm]; rfl
 refine hK z r (!b) rfl hn0.1 ?_ (fun l hl => ?_)
 ·rw [e, hb]
  cases zeroB off <;> rfl
 ·rw [e] at hl
  split at hl
  ·injection hl with hl
   rw [<- hl, List.append_nil]; exact hr
  ·cases hl
theorem no_more {m : Int} (h0 : 0 <= m) (h : m < ((0 : Nat) : Int)) : False := by omega
theorem one_more {m : Int} {c : Nat} (h : m < ((c + 1 : Nat) : Int)) : m < c + 1 := by omega
theorem ok56 : ∀ c : Nat, F2Ok Try.prog 56 (fc56 c)
 | 0 => fun ((z, n), i, more, fo, off, (o, ps, cn), u, ()) K hx => by
  obtain ⟨⟨g1, g2, -⟩, -⟩ := hx
  exact (no_more g1.cnt.1 g2).elim
 | c + 1 => fn2_of (n := 5) ((((good2_nilI _).addL2 (ok56L (ok56B (ok56 c)))).addF2 ok57).addF ok58z) fun ((z, n), i, more, fo, off, (o, ps, cn), ((), (), (), (), (), ()), ()) K hx => by
  obtain ⟨⟨g1, g2, g3, g4⟩, hK⟩ := hx
  exact h56F c z n i more fo off o cn ps K g1 (one_more g2) g3 g4 hK
end Go.P8
