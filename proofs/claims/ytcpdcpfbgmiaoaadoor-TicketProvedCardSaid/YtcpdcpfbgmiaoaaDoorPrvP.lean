/- TicketProved: the code keeps its contracts. No conditions. -/
import Derived.Test.YtcpdcpfbgmiaoaaDoorPrvS
import Derived.Test.YtcpdcpfbgmiaoaaDoorPropR
import Derived.Test.YtcpdcpfbgmiaoaaDoorDigP
import Derived.Test.YtcpdcpfbgmiaoaaDoorRollO
set_option linter.all false
set_option maxRecDepth 100000
set_option maxHeartbeats 4000000
namespace Go.P3
open Go.Lom Go.Proofs Go
theorem h12B (wt a b w d0 : Int) (ts : List Tk) (es : List Ev) (rb : Bool) (t : List Tk) (x : List Ev) (i : Int) (l : List Int) (k : Int) (Q : AX -> St -> Prop) (hl : l.length <= 1000) (h1 : 1 <= k)
  (hf : ∀ j : Nat, 1 <= j -> j < l.length -> 1 <= l.getD j 0 /\ l.getD j 0 <= l.getD (j - 1) 0 - 1) (hb : ∀ j : Nat, j < l.length -> 1 <= l.getD j 0 /\ l.getD j 0 <= 256)
  (hQ : Q (.exit 2) (stS 4 sh12bx (wt, (a, b), (w, d0, ts, es, rb, ()), t, x, i, l, ()))) :
  xloop2 Tryd.prog { f := [(28, fcFrom)] } 5 12 1 lc12b (fun _ => some (sh12bx, 4)) (fun (_, _, _, _, _, _, l, k, _) => mL l k) (wt, (a, b), (w, d0, ts, es, rb, ()), t, x, i, l, k, ()) Q := by
 rw [v12B]
 simp only [fork_iff, req_iff, decide_eq_true_eq, decide_eq_false_iff_not, seg_self, Nat.zero_add, Nat.le_refl, true_and, Bool.not_eq_true', Bool.not_eq_false']
 refine ⟨fun hk => ?_, fun _ => hQ⟩
 have e1 : (k - 1).toNat = k.toNat - 1 := by omega
 have f1 := hf k.toNat (by omega) (by omega)
 have f2 := hb (k.toNat - 1) (by omega)
 rw [e1]
 refine ⟨⟨by omega, hk⟩, inR_i64.2 (by omega), ⟨by omega, by omega⟩, inR_i64.2 (by omega), fun c => absurd f1 c, fun _ => ⟨inR_i64.2 (by omega), mL_lt hk, ⟨hl, show (1 : Int) <= k + 1 by omega, hf, hb⟩, hQ⟩⟩
theorem ok12B : Lp2Ok Tryd.prog 12 1 lc12b := lp2_of (n := 5) (ex := fun _ => some (sh12bx, 4)) (m := fun (_, _, _, _, _, _, l, k, _) => mL l k) ((good2_nil _).addF ok28) fun (wt, (a, b), (w, d0, ts, es, r, ()), t, x, i, l, k, ()) Q hx => by
 obtain ⟨⟨g1, g2, g3, g4⟩, hQ⟩ := hx
 exact h12B wt a b w d0 ts es r t x i l k Q g1 g2 g3 g4 hQ
theorem line_of {s : RS} (h : okR s) {n : Int} (h1 : 1 <= n) (h2 : n <= s.2.2.1.length) : lineI s (codeS n) = (lineK s.2.2.1 n.toNat n, 0) := by
 have hl := h.len
 unfold lineI
 rw [num_code h1 (by omega), if_neg (fun c => c rfl), if_neg (by show ¬ n > _; omega)]
theorem h12L (wt a b w d0 : Int) (ts : List Tk) (es : List Ev) (x : List Ev) (i : Int) (Q : AX -> St -> Prop) (hok : okR (w, d0, ts, es)) (i0 : 0 <= i) (i1 : i <= ts.length)
  (hQ : Q (.exit 0) (stS 1 sh12x (wt, (a, b), ts, x, ()))) :
  xloop2 Tryd.prog { nm := true, f := [(14, fcCodeN)], f2 := [(44, fcLine)], l2 := [(12, 1, lc12b)] } 5 12 0 lc12 (fun _ => some (sh12x, 1)) (fun (_, _, _, t, _, i, _) => mL t i) (wt, (a, b), (w, d0, ts, es, true, ()), ts, x, i, ()) Q := by
 rw [v12L]
 have hl : ts.length <= 256 := hok.len
 simp only [fork_iff, req_iff, decide_eq_true_eq, decide_eq_false_iff_not, seg_self, Nat.zero_add, Nat.le_refl, true_and, Bool.not_eq_true', Bool.not_eq_false', beq_iff_eq, beq_eq_false_iff_ne, bne_iff_ne, ne_eq, bne_eq_false_iff_eq]
 refine ⟨fun hi => ?_, fun _ => hQ⟩
 have hn : (ts.getD i.toNat (0, [], 0, [], 0, 0)).1 = i + 1 := by
  have hm : ts[i.toNat]? = some (ts.getD i.toNat (0, [], 0, [], 0, 0)) := by
   rw [List.getElem?_eq_getElem (by omega), List.getD_eq_getElem?_getD, List.getElem?_eq_getElem (by omega)]; rfl
  have h := (hok.tk _ _ hm).num
  rw [Int.toNat_of_nonneg i0] at h
  exact h
 rw [hn]
 refine ⟨⟨i0, hi⟩, ⟨show (1 : Int) <= i + 1 by omega, show i + 1 <= (99999999 : Int) by omega⟩, fun s hs => ⟨⟨hok, trivial⟩, fun ln e he => ?_⟩⟩
 rw [hs, line_of hok (by omega) (by show i + 1 <= (ts.length : Int); omega)] at he
 obtain ⟨rfl, rfl⟩ := Prod.mk.inj he
 obtain ⟨f1, f2, f3, f4, f5, f6⟩ := line_falls hok (i + 1).toNat (i + 1) (by omega) (by show i + 1 <= (ts.length : Int); omega) (by omega)
 generalize lineK ts (i + 1).toNat (i + 1) = ln at *
 have e1 : ((ln.length : Int) - 1).toNat = ln.length - 1 := by omega
 have f7 := f2 (ln.length - 1) (by omega)
 have f7 : 1 <= ln.getD (ln.length - 1) 0 /\ ln.getD (ln.length - 1) 0 <= (ts.length : Int) := f7
 have f3 : (ts.getD (ln.getD (ln.length - 1) 0 - 1).toNat (0, [], 0, [], 0, 0)).2.2.2.2.2 = 0 := f3
 rw [e1]
 refine ⟨fun c => absurd rfl c, fun _ => ⟨fun c => by omega, fun _ => ⟨⟨Int.le_refl 0, by omega⟩, inR_i64.2 (by omega), fun c => absurd f6 c, fun _ => ⟨⟨by omega, Int.le_refl 1, f1, fun j hj => ?_⟩, inR_i64.2 (by omega), ⟨by omega, by omega⟩, inR_i64.2 (by omega), ⟨by omega, by omega⟩, fun c => absurd f3 c, fun _ => ⟨inR_i64.2 (by omega), mL_lt hi, ⟨hok, show (0 : Int) <= i + 1 by omega, show i + 1 <= (ts.length : Int) by omega⟩, hQ⟩⟩⟩⟩⟩
 have := f2 j hj
 have : 1 <= ln.getD j 0 /\ ln.getD j 0 <= (ts.length : Int) := this
 exact ⟨this.1, Int.le_trans this.2 (by omega)⟩
theorem ok12L : Lp2Ok Tryd.prog 12 0 lc12 := lp2_of (n := 5) (ex := fun _ => some (sh12x, 1)) (m := fun (_, _, _, t, _, i, _) => mL t i) ((((good2_nilN _).addL2 ok12B).addF2 ok44).addF okCodeN) fun (wt, (a, b), (w, d0, ts, es, r, ()), t, x, i, ()) Q hx => by
 obtain ⟨⟨g1, g2, g3, g4, g5⟩, hQ⟩ := hx
 have g2 : r = true := g2
 have g3 : t = ts := g3
 subst g2 g3
 exact h12L wt a b w d0 t es x i Q g1 g4 g5 hQ
theorem ok_tk {s : RS} (h : okR s) : okTk s.2.2.1 := ⟨Nat.le_trans h.len (by decide), fun t ht => by
 obtain ⟨i, hi, rfl⟩ := List.mem_iff_getElem.1 ht
 have hk := h.tk i _ (List.getElem?_eq_getElem hi)
 have h1 := hk.word
 unfold wordB at h1
 simp only [Bool.and_eq_true, decide_eq_true_eq] at h1
 exact ⟨Nat.le_trans h1.1.1.2 (by decide), Nat.le_trans (num_mem h _ ht).2 (by decide)⟩⟩
theorem pe_set {ts : List Tk} {i : Nat} {x : Tk} (h : ∀ y, ts[i]? = some y -> (x.2.1, x.2.2.2.1) = (y.2.1, y.2.2.2.1)) : pe (ts.set i x) = pe ts := by
 unfold pe
 exact map_set_same _ ts _ _ h
theorem h12F (wt : Int) (l : List Cl) (a b : Int) (K : dens [.b] -> Prop) (hw : 0 <= wt /\ wt <= 1000) (hl : okLs l) (hK : K (true, ())) :
  xfn1 Tryd.prog { nm := true, f := [(14, fcCodeN), (26, fcRingN), (28, fcFrom), (21, fcWorks), (42, fcProp)], f2 := [(41, fcAfter), (30, fcTix), (38, fcEvs), (44, fcLine)], l2 := [(12, 0, lc12)] } 5 12 fcProved (wt, l, (a, b), ()) K := by
 rw [v12F]
 simp only [fork_iff, req_iff, decide_eq_true_eq, decide_eq_false_iff_not, seg_self, Nat.zero_add, Nat.le_refl, true_and, List.drop_zero, List.nil_append, List.take_length, Bool.not_eq_true', Bool.not_eq_false', beq_iff_eq, beq_eq_false_iff_ne, bne_iff_ne, ne_eq, bne_eq_false_iff_eq]
 refine ⟨⟨hw.1, hw.2, hl⟩, fun w1 d1 ts1 es1 hr => ?_⟩
 obtain ⟨hok, hw1, hes⟩ := after_fact hw hr
 have hred : Redone wt (w1, d1, ts1, es1) := by rw [hr]; exact redone_fold _ (okR_start hw) (redone_start wt)
 have hlen : ts1.length <= 256 := hok.len
 replace hes : es1.length <= 60 := hes
 have hmem := num_mem hok
 simp only at hmem
 refine ⟨⟨hlen, fun t ht => Nat.le_trans (hmem t ht).2 (by decide)⟩, fun tl htl => ?_⟩
 subst htl
 refine ⟨by omega, fun xl hxl => ?_⟩
 subst hxl
 have htk : okTk tl := ok_tk hok
 refine ⟨⟨htk, fits100 (by omega)⟩, fun b0 e0 h0 => ?_⟩
 rw [show properI wt tl xl = (true, 0) from proper_yes hw hred] at h0
 obtain ⟨rfl, rfl⟩ := Prod.mk.inj h0
 refine ⟨fun c => absurd rfl c, fun _ => ⟨fun c => (by cases c), fun _ => ⟨⟨hok, rfl, Int.le_refl (0 : Int), Int.natCast_nonneg _⟩, fun hx0 => ⟨fun _ => hK, fun hx1 => absurd ?_ hx1⟩, fun hx0 => ⟨fun hx1 => ⟨fun _ => hK, fun c => absurd hx1 c⟩, fun ht0 => ?_⟩⟩⟩⟩
 ·have he : xl = [] := List.eq_nil_of_length_eq_zero (by omega)
  have := hred tl [] (by rw [List.append_nil])
  rw [he] at this
  have this : some (wt, 0, [], []) = some (w1, d1, tl, ([] : List Ev)) := this
  simp only [Option.some.injEq, Prod.mk.injEq] at this
  rw [<- this.2.2.1]; rfl
 have hT : ∀ r : Int, 0 <= r -> r < tl.length -> tl[r.toNat]? = some (tl.getD r.toNat T0) /\ 1 <= (tl.getD r.toNat T0).2.2.1 /\ (tl.getD r.toNat T0).2.2.1 <= 5 := fun r r0 r1 => by
  have e : tl[r.toNat]? = some (tl.getD r.toNat T0) := by
   rw [List.getElem?_eq_getElem (by omega), List.getD_eq_getElem?_getD, List.getElem?_eq_getElem (by omega)]; rfl
  exact ⟨e, (hok.tk _ _ e).st⟩
 refine ⟨⟨show (0 : Int) < (xl.length : Int) by omega, show (xl.length : Int) <= 99999999 by omega⟩, fun (r : Int) (r0 : 0 <= r) (r1 : r < (xl.length : Int)) => ?_⟩
 have hno := proper_no hw hred (k := r.toNat) (by show r.toNat < xl.length; omega)
 have hno : properI wt tl (xl.take r.toNat ++ xl.drop (r.toNat + 1)) = (false, 0) := hno
 have e1 : (r + 1).toNat = r.toNat + 1 := by omega
 rw [e1]
 refine ⟨⟨Int.le_refl 0, r0, by omega⟩, inR_i64.2 (by omega), ⟨by omega, by omega, Int.le_refl _⟩, fits100 (by rw [List.length_take]; omega), fun ys hys => ?_⟩
 subst hys
 refine ⟨Nat.le_refl _, fits100 (by rw [List.length_take, List.length_drop]; omega), fun ys hys => ?_⟩
 rw [seg_self] at hys
 have hyl : ys.length = (xl.take r.toNat).length + (xl.drop (r.toNat + 1)).length := by rw [hys, List.length_append]
 rw [<- hyl]
 simp only [seg_self]
 subst hys
 refine ⟨Nat.le_refl _, ⟨htk, fits100 (by rw [hyl, List.length_take, List.length_drop]; omega)⟩, fun b1 e1 h1 => ?_⟩
 rw [hno] at h1
 obtain ⟨rfl, rfl⟩ := Prod.mk.inj h1
 refine ⟨⟨show (0 : Int) < (tl.length : Int) by omega, show (tl.length : Int) <= 99999999 by omega⟩, fun (n : Int) (n0 : 0 <= n) (n1 : n < (tl.length : Int)) => ⟨fits100 (by omega), fun ys hys => ?_⟩⟩
 subst hys
 obtain ⟨t1, t2, t3⟩ := hT n n0 n1
 have hin : ∀ q : Int, 0 <= q -> q < 4 -> inR .i64 ((ys.getD n.toNat T0).2.2.1 + q) = true := fun q q0 q1 => inR_i64.2 (by omega)
 refine ⟨⟨n0, n1⟩, by omega, ⟨by decide, by decide⟩, fun (q : Int) (q0 : 0 <= q) (q1 : q < 4) => ⟨hin q q0 q1, ⟨by decide, by decide⟩, fun (st : Int) (s0 : 0 <= st) (s1 : st < 5) => ⟨inR_i64.2 (by omega), ⟨n0, n1⟩, by omega, fun zs hzs => ?_⟩⟩⟩
 have hzl : zs.length = ys.length := by rw [hzs, List.length_set]
 rw [<- hzl]
 simp only [seg_self]
 have hpe : pe zs = pe ys := by
  rw [hzs]
  refine pe_set fun y hy => ?_
  rw [t1] at hy
  injection hy with hy
  rw [<- hy]
 have hzk : okTk zs := ⟨by rw [hzl]; exact htk.len, fun t ht => by
  rw [hzs] at ht
  rcases List.mem_or_eq_of_mem_set ht with h | h
  ·exact htk.all t h
  ·subst h; exact htk.all (ys.getD n.toNat T0) (List.mem_of_getElem? t1)⟩
 refine ⟨Nat.le_refl _, ⟨hzk, fits100 (by omega)⟩, fun b2 e2 h2 => ?_⟩
 rw [show properI wt zs xl = (decide (ys = zs), 0) from proper_state hw hred hpe] at h2
 obtain ⟨rfl, rfl⟩ := Prod.mk.inj h2
 simp only [decide_eq_true_eq, decide_eq_false_iff_not, true_imp_iff]
 refine ⟨⟨⟨⟨fun _ => hK, fun hz => ⟨⟨n0, by omega⟩, fun _ => hK, fun c => absurd ?_ c⟩⟩, fun c => by cases c⟩, fun c => absurd trivial c⟩, fun c => absurd trivial c⟩
 have e3 : (zs.getD n.toNat T0).2.2.1 = 1 + st := by
  rw [hzs, List.getD_eq_getElem?_getD, List.getElem?_set_self (by omega)]; rfl
 have e4 : (ys.getD n.toNat T0).2.2.1 = (zs.getD n.toNat T0).2.2.1 := by rw [<- hz]
 exact (e4.trans e3).symm
theorem okProved (hw : FnOk Tryd.prog 21 fcWorks) : FnOk Tryd.prog 12 fcProved := fn1_ex fun (wt, l, (a, b), ()) K hx => by
 obtain ⟨hl, hK⟩ := hx
 by_cases hwt : 0 <= (show Int from wt) /\ (show Int from wt) <= 1000
 rotate_left
 ·refine ⟨{ f := [(49, fcWith), (21, fcWorks)] }, 5, ((good2_nil _).addF hw).addF ok49, ?_⟩
  rw [v12N]
  simp only [fork_iff, Bool.not_eq_true', Bool.not_eq_false', decide_eq_true_eq, decide_eq_false_iff_not]
  exact ⟨fun _ => hK, fun h => absurd h hwt⟩
 exact ⟨{ nm := true, f := [(14, fcCodeN), (26, fcRingN), (28, fcFrom), (21, fcWorks), (42, fcProp)], f2 := [(41, fcAfter), (30, fcTix), (38, fcEvs), (44, fcLine)], l2 := [(12, 0, lc12)] }, 5, ((((((((((good2_nilN _).addL2 ok12L).addF2 ok44).addF2 ok38).addF2 ok30).addF2 ok41)).addF ok42).addF hw).addF ok28).addF okRingN |>.addF okCodeN, h12F wt l a b K hwt hl hK⟩
end Go.P3
