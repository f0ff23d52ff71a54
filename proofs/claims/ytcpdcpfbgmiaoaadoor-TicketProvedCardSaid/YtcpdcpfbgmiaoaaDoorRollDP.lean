/- Rolls: the loops of a ticket that is divided: the code keeps its contracts. No conditions. -/
import Derived.Test.YtcpdcpfbgmiaoaaDoorRollD
import Derived.Test.YtcpdcpfbgmiaoaaDoorRollB
set_option linter.all false
set_option maxRecDepth 100000
namespace Go.P3
open Go.Lom Go.Proofs Go
theorem allE_step {l : List (List Int)} {i : Int} (h0 : 0 <= i) (h1 : i < l.length) : allE l i = (inB 0 (l.getD i.toNat []) && allE l (i + 1)) := by
 unfold allE; rw [drop_step [] h0 h1, List.all_cons]
theorem allE_end {l : List (List Int)} {i : Int} (h1 : ¬ i < l.length) : allE l i = true := by
 unfold allE; rw [drop_end h1]; rfl
theorem h63g (l : List (List Int)) (m i : Int) (Q : LQ) : s63g l m i Q -> xloop2 Tryd.prog { f := [(57, fcEdge 0)] } 5 63 0 lc63g exB4 (fun (_, l, _, i, _) => mL l i) (((), ()), l, m, i, ()) Q := by
 intro ⟨⟨h0, h1, h2, h3⟩, hF, hT⟩
 subst h2
 rw [v63gL]
 simp only [fork_iff, req_iff, decide_eq_true_eq, decide_eq_false_iff_not]
 refine ⟨fun hi => ⟨⟨h0, hi⟩, fun hn => hF ?_, fun hn => ⟨inR_i64.2 (by omega), mL_lt hi, ⟨⟨by omega, by omega, rfl, h3⟩, fun hf => hF ?_, fun ht => hT ?_⟩⟩⟩, fun hi => hT (allE_end hi)⟩
 ·rw [allE_step h0 hi]; simp only [Bool.not_eq_true'] at hn; rw [hn, Bool.false_and]
 ·rw [allE_step h0 hi, hf, Bool.and_false]
 ·simp only [Bool.not_eq_false'] at hn
  rw [allE_step h0 hi, ht, hn]; rfl
theorem ok63gL : Lp2Ok Tryd.prog 63 0 lc63g := lp2_of (n := 5) (ex := exB4) (m := fun (_, l, _, i, _) => mL l i) ((good2_nil _).addF ok57) fun (((), ()), l, m, i, ()) Q hx => h63g l m i Q hx
theorem ok63g : FnOk Tryd.prog 63 fc63g := fn1_of (n := 5) ((good2_nil _).addL2 ok63gL) fun (l, ((), ()), ()) K hx => by
 obtain ⟨h1, hK⟩ := hx
 have hK : K (allE l 0, ()) := hK
 show xfn1 Tryd.prog { l2 := [(63, 0, lc63g)] } 5 63 fc63g (l, ((), ()), ()) K
 rw [v63gF]
 refine ⟨⟨by omega, by omega, rfl, h1⟩, fun h => ?_, fun h => ?_⟩ <;> (rw [h] at hK; exact hK)
theorem okNumX : FnOk Tryd.prog 16 fcNumX := fun x K hx => ok16 x K (hx _ _ rfl)
theorem okCodeX : FnOk Tryd.prog 50 fcCodeX := fun x K hx => ok50 x K ⟨hx.1, hx.2 _ rfl⟩
theorem okFitX : FnOk Tryd.prog 59 fcFitX := fun x K hx => ok59 x K ⟨hx.1, hx.2 _⟩
theorem goodTB : Good2 Tryd.prog TB := ((((((((((good2_nilN _).addF okCodeX).addF ok64).addF okFitX).addF ok58).addF ok57).addF ok138).addF ok133).addF ok49).addF okNumX).addF2 ok107
theorem goodTBd : Good2 Tryd.prog TBd := goodTB.addF ok137
theorem news_step {s : RS} {l : List Tx} {i : Int} (h0 : 0 <= i) (h1 : i < l.length) : newsB s l (l.length - i.toNat) i.toNat = ((wordB (l.getD i.toNat []) && !hadB s (l.getD i.toNat []) && !(l.take i.toNat).any (eqT (l.getD i.toNat []))) && newsB s l (l.length - (i + 1).toNat) (i + 1).toNat) := by
 rw [show l.length - i.toNat = (l.length - (i + 1).toNat) + 1 by omega, show (i + 1).toNat = i.toNat + 1 by omega]
 rfl
theorem h130a (w d0 : Int) (ts : List Tk) (ne n : Nat) (c : Tx) (h : List Int) (ps : List Tx) (eds : List (List Int)) (d : Int) (cs : List Tx) (pl : Tx) (i : Int) (r : Int × Int × List Tk × List Ev × Bool × Unit) (e : Int × Unit) (x : Int × Int × Int × Int × Int × Unit) (Q : AX -> St -> Prop)
  (h0 : 0 <= i) (h1 : i <= ps.length) (h2 : ps.length <= 4) (h3 : ts.length <= 256) (h4 : ∀ p ∈ ps, p.length <= big)
  (hT : newsB (rT ts) ps (ps.length - i.toNat) i.toNat = true -> Q (.exit 0) (stS 14 sh130ae ((w, d0, ts, ne, ()), n, (c, h, ps, eds, d, cs, pl, ()), r, ((), ()), e, x, ())))
  (hF : newsB (rT ts) ps (ps.length - i.toNat) i.toNat = false -> Q (.panic ref33) (stS 14 sh130p ((c, h, ps, eds, d, cs, pl, ()), r, ((), ()), e, ()))) :
  xloop2 Tryd.prog TBd 5 130 0 lc130a ex130a (fun (_, _, _, l, _, i, _) => mL l i) ((w, d0, ts, ne, ()), n, (c, h, ps, eds, d, cs, pl, ()), ps, (ps.length : Int), i, r, ((), ()), e, x, ()) Q := by
 rw [v130a w d0 0]
 have hbig := hbig
 have hbn : big = 9223372036854775807 := rfl
 simp only [fork_iff, req_iff, decide_eq_true_eq, decide_eq_false_iff_not, Nat.zero_add, seg_self, Nat.le_refl, true_and, Bool.not_not, List.drop_zero, Bool.not_eq_true', Bool.not_eq_false']
 refine ⟨fun hi => ?_, fun hi => hT ?_⟩
 ·have hst := news_step (s := rT ts) h0 hi
  have hw : (ps.getD i.toNat []).length <= big := h4 _ (by rw [List.getD_eq_getElem?_getD, List.getElem?_eq_getElem (show i.toNat < ps.length by omega)]; exact List.getElem_mem _)
  refine ⟨⟨h0, hi⟩, hw, fun hwd => ⟨by omega, fun hhad => ⟨by omega, by rw [List.length_take]; omega, fun hany => hF ?_, fun hany => ⟨inR_i64.2 (by omega), mL_lt hi, ?_⟩⟩, fun hhad => hF ?_⟩, fun hwd => hF ?_⟩
  ·rw [hst, hwd, hany]; simp
  ·have e1 : newsB (rT ts) ps (ps.length - i.toNat) i.toNat = newsB (rT ts) ps (ps.length - (i + 1).toNat) (i + 1).toNat := by
    rw [hst, hwd, hany, show hadB (rT ts) (ps.getD i.toNat []) = false from hhad]; simp
   rw [e1] at hT hF
   exact ⟨⟨show (0 : Int) <= i + 1 by omega, show i + 1 <= (ps.length : Int) by omega, h2, h3, h4⟩, hT, hF⟩
  ·rw [hst, hwd, show hadB (rT ts) (ps.getD i.toNat []) = true from hhad]; simp
  ·rw [hst, hwd]; simp
 ·rw [show ps.length - i.toNat = 0 by omega]; rfl
theorem ok130a : Lp2Ok Tryd.prog 130 0 lc130a := lp2_of (n := 5) (ex := ex130a) (m := fun (_, _, _, l, _, i, _) => mL l i) goodTBd fun ((w, d0, ts, ne, ()), n, (c, h, ps, eds, d, cs, pl, ()), l, m, i, r, ((), ()), e, x, ()) Q hx => by
 obtain ⟨⟨g1, g2, g3, g4, g5, g6, g7⟩, hT, hF⟩ := hx
 have g1 : l = ps := g1
 have g2 : m = l.length := g2
 subst g1 g2
 exact h130a w d0 ts ne n c h l eds d cs pl i r e x Q g3 g4 g5 g6 g7 hT hF
theorem adds_step {ts : List Tk} {ps : List Tx} {es : List (List Int)} {n i : Int} (h0 : 0 <= i) (h1 : i < ps.length) : addsI ts ps es n (ps.length - i.toNat) i.toNat = addsI (ts ++ [((ts.length : Int) + 1, ps.getD i.toNat [], 1, es.getD i.toNat [], 0, n)]) ps es n (ps.length - (i + 1).toNat) (i + 1).toNat := by
 rw [show ps.length - i.toNat = (ps.length - (i + 1).toNat) + 1 by omega, show (i + 1).toNat = i.toNat + 1 by omega]
 rfl
theorem h130b (w d0 f : Int) (ts : List Tk) (ne : Nat) (c : Tx) (h : List Int) (ps : List Tx) (eds : List (List Int)) (d : Int) (cs : List Tx) (pl : Tx) (i : Int) (r : Int × Int × List Tk × List Ev × Bool × Unit) (e : Int × Unit) (x : Int × Int × Int × Int × Int × Unit) (Q : AX -> St -> Prop)
  (h0 : 0 <= i) (h1 : i <= ps.length) (h2 : ps.length <= 4) (h3 : eds.length = ps.length) (h4 : eds.all (inB 0) = true) (h5 : (ts.length : Int) + (ps.length - i) <= 256) (h6 : (cs.length : Int) <= i)
  (hQ : Q (.exit 2) (stS 15 sh130be ((w, d0, addsI ts ps eds f (ps.length - i.toNat) i.toNat, ne, ()), (c, h, ps, eds, d, cs ++ codesI (ps.length - i.toNat) ((ts.length : Int) + 1), pl, ()), r, ((), ()), e, x, ()))) :
  xloop2 Tryd.prog TB 5 130 1 lc130b (fun _ => some (sh130be, 15)) (fun (_, _, _, l, _, i, _) => mL l i) ((w, d0, ts, ne, ()), (c, h, ps, eds, d, cs, pl, ()), f, ps, (ps.length : Int), i, r, ((), ()), e, x, ()) Q := by
 rw [v130b]
 simp only [fork_iff, req_iff, decide_eq_true_eq, decide_eq_false_iff_not, Nat.zero_add, seg_self, Nat.le_refl, true_and]
 refine ⟨fun hi => ?_, fun hi => ?_⟩
 ·have hin : inB 0 (eds.getD i.toNat []) = true := List.all_eq_true.1 h4 _ (by rw [List.getD_eq_getElem?_getD, List.getElem?_eq_getElem (show i.toNat < eds.length by omega)]; exact List.getElem_mem _)
  refine ⟨⟨h0, hi⟩, ⟨h0, by omega⟩, inR_i64.2 (by omega), Nat.le_trans (edge16 hin) (by decide), fun g hg => ⟨fits100 (by omega), fun ys hys => ⟨⟨show (0 : Int) <= (ts.length : Int) + 1 by omega, show (ts.length : Int) + 1 <= 99999999 by omega⟩, fun s hs => ⟨fits100 (by omega), fun zs hzs => ?_⟩⟩⟩⟩
  have l1 : ys.length = ts.length + 1 := by rw [hys, List.length_append]; rfl
  have l2 : zs.length = cs.length + 1 := by rw [hzs, List.length_append]; rfl
  refine ⟨inR_i64.2 (by omega), by omega, by omega, mL_lt hi, ⟨show (0 : Int) <= i + 1 by omega, show i + 1 <= (ps.length : Int) by omega, h2, h3, h4, ?_, ?_⟩, ?_⟩
  ·show ((seg 0 (ts.length + 1) ys).length : Int) + _ <= 256
   rw [seg_exact (by omega)]; omega
  ·show ((seg 0 (cs.length + 1) zs).length : Int) <= _
   rw [seg_exact (by omega)]; omega
  ·show Q (.exit 2) (stS 15 sh130be ((w, d0, addsI (seg 0 (ts.length + 1) ys) ps eds f (ps.length - (i + 1).toNat) (i + 1).toNat, ne, ()), (c, h, ps, eds, d, seg 0 (cs.length + 1) zs ++ codesI (ps.length - (i + 1).toNat) (((seg 0 (ts.length + 1) ys).length : Int) + 1), pl, ()), r, ((), ()), e, x, ()))
   rw [seg_exact (show ts.length + 1 = ys.length by omega), seg_exact (show cs.length + 1 = zs.length by omega)]
   rw [adds_step h0 hi, show ps.length - i.toNat = (ps.length - (i + 1).toNat) + 1 by omega] at hQ
   rw [hys, hzs, hs, hg, List.append_assoc]
   simp only [codesI] at hQ
   rw [List.length_append]
   exact hQ
 ·rw [show ps.length - i.toNat = 0 by omega] at hQ
  simp only [addsI, codesI, List.append_nil] at hQ
  exact hQ
theorem ok130b : Lp2Ok Tryd.prog 130 1 lc130b := lp2_of (n := 5) (ex := fun _ => some (sh130be, 15)) (m := fun (_, _, _, l, _, i, _) => mL l i) goodTB fun ((w, d0, ts, ne, ()), (c, h, ps, eds, d, cs, pl, ()), f, l, m, i, r, ((), ()), e, x, ()) Q hx => by
 obtain ⟨⟨g1, g2, g3, g4, g5, g6, g7, g8, g9⟩, hQ⟩ := hx
 have g1 : l = ps := g1
 have g2 : m = l.length := g2
 subst g1 g2
 exact h130b w d0 f ts ne c h l eds d cs pl i r e x Q g3 g4 g5 g6 g7 g8 g9 hQ
theorem goodTBe : Good2 Tryd.prog { TBd with f := (63, fc63g) :: TBd.f, l2 := [(130, 0, lc130a), (130, 1, lc130b)] } := ((goodTBd.addF ok63g).addL2 ok130b).addL2 ok130a
end Go.P3
