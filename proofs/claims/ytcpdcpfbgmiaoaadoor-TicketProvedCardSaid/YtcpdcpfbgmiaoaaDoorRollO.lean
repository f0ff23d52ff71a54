/- Rolls: comparisons, a roll after calls, TicketRefuses: the code keeps its contracts. No conditions. -/
import Derived.Test.YtcpdcpfbgmiaoaaDoorRefA
import Derived.Test.YtcpdcpfbgmiaoaaDoorOnceL
import Derived.Test.YtcpdcpfbgmiaoaaDoorCodesP
set_option linter.all false
set_option maxRecDepth 100000
set_option maxHeartbeats 4000000
namespace Go.P3
open Go.Lom Go.Proofs Go
theorem h37L (a : List Ev) (i : Int) (Q : AX -> St -> Prop) (hl : a.length <= 1000) (h0 : 0 <= i) (h1 : i <= a.length) (hQ : Q (.exit 0) (stS 0 .nil ())) : xloop2 Tryd.prog {} 5 37 0 lc37 exB4 (fun (a, _, i, _) => mL a i) (a, a, i, ()) Q := by
 rw [v37L]
 simp only [fork_iff, req_iff, decide_eq_true_eq, decide_eq_false_iff_not, beq_self_eq_true, Bool.and_self, Bool.not_true, Bool.false_eq_true, false_imp_iff, true_and, true_imp_iff, Bool.and_true]
 refine ⟨fun hi => ⟨⟨h0, hi⟩, ⟨h0, hi⟩, inR_i64.2 (by omega), mL_lt hi, ?_⟩, fun _ => hQ⟩
 first
  | exact ⟨⟨rfl, hl, show (0 : Int) <= i + 1 by omega, show i + 1 <= (a.length : Int) by omega⟩, hQ⟩
  | exact ⟨⟨hl, show (0 : Int) <= i + 1 by omega, show i + 1 <= (a.length : Int) by omega⟩, hQ⟩
theorem fold_ok : ∀ (cs : List Cl) {s : RS}, okR s -> okR (cs.foldl stepI s) /\ (cs.foldl stepI s).1 = s.1 /\ (cs.foldl stepI s).2.2.2.length <= s.2.2.2.length + cs.length
 | [], s, h => ⟨h, rfl, Nat.le_refl _⟩
 | c :: cs, s, h => by
  obtain ⟨h1, h2, h3⟩ := call_ok h c
  obtain ⟨g1, g2, g3⟩ := fold_ok cs (s := stepI s c) h1
  refine ⟨g1, g2.trans h2, Nat.le_trans g3 ?_⟩
  have h3 : (stepI s c).2.2.2.length <= s.2.2.2.length + 1 := h3
  rw [List.length_cons]; omega
theorem take_step {l : List Cl} {i : Int} (h0 : 0 <= i) (h1 : i < l.length) (h2 : i < 60) : (l.take 60).drop i.toNat = l.getD i.toNat C0 :: (l.take 60).drop (i + 1).toNat := by
 have hl : i < ((l.take 60).length : Int) := by rw [List.length_take]; omega
 rw [drop_step C0 h0 hl]
 congr 1
 rw [List.getD_eq_getElem?_getD, List.getD_eq_getElem?_getD, List.getElem?_take, if_pos (by omega)]
theorem take_end {l : List Cl} {i : Int} (h : ¬ i < l.length \/ ¬ i < 60) : (l.take 60).drop i.toNat = [] := List.drop_eq_nil_of_le (by rw [List.length_take]; omega)
theorem h41L (w d0 : Int) (ts : List Tk) (es : List Ev) (l : List Cl) (i : Int) (Q : AX -> St -> Prop) (hok : okR (w, d0, ts, es)) (hl : okLs l) (h0 : 0 <= i) (h1 : i <= 60) (h2 : (es.length : Int) <= i)
  (hQ : ∀ (w1 d1 : Int) (ts1 : List Tk) (es1 : List Ev), (w1, d1, ts1, es1) = ((l.take 60).drop i.toNat).foldl stepI (w, d0, ts, es) -> Q (.exit 0) (stS 3 sh41e ((w1, d1, ts1, es1, true, ()), ()))) :
  xloop2 Tryd.prog { f2 := [(31, fcCall)] } 5 41 0 lc41 (fun _ => some (sh41e, 3)) (fun (_, _, i, _) => (60 - i).toNat) (l, (w, d0, ts, es, true, ()), i, ()) Q := by
 rw [v41L]
 simp only [fork_iff, req_iff, decide_eq_true_eq, decide_eq_false_iff_not, Nat.zero_add, seg_self, Nat.le_refl, true_and]
 refine ⟨fun hi => ⟨fun h60 => ⟨⟨h0, hi⟩, ?_⟩, fun h60 => hQ _ _ _ _ (by rw [take_end (.inr h60)]; rfl)⟩, fun hi => hQ _ _ _ _ (by rw [take_end (.inl hi)]; rfl)⟩
 have hc : l.getD i.toNat C0 ∈ l := getC_mem (by omega)
 have hcl := hl.all _ hc
 rw [take_step h0 hi h60] at hQ
 rw [show (0, 0, [], [], [], [], []) = C0 from rfl]
 generalize l.getD i.toNat C0 = cl at *
 refine ⟨⟨hok, fits100 (by omega), hcl⟩, fun w1 d1 ts1 es1 tx l2 e1 hcall => ⟨inR_i64.2 (by omega), ?_, ?_, ?_⟩⟩
 ·show ((60 : Int) - (i + 1)).toNat < ((60 : Int) - i).toNat
  omega
 ·obtain ⟨g1, g2, g3⟩ := call_ok hok cl
  rw [<- hcall] at g1 g3
  have g3 : es1.length <= es.length + 1 := g3
  first
   | exact ⟨g1, hl, show (0 : Int) <= i + 1 by omega, show i + 1 <= (60 : Int) by omega, show (es1.length : Int) <= i + 1 by omega⟩
   | exact ⟨g1, rfl, hl, show (0 : Int) <= i + 1 by omega, show i + 1 <= (60 : Int) by omega, show (es1.length : Int) <= i + 1 by omega⟩
 ·intro w2 d2 ts2 es2 he
  refine hQ w2 d2 ts2 es2 ?_
  rw [List.foldl_cons, show stepI (w, d0, ts, es) cl = (w1, d1, ts1, es1) from by unfold stepI; rw [<- hcall]]
  exact he
theorem ok41L : Lp2Ok Tryd.prog 41 0 lc41 := lp2_of (n := 5) (ex := fun _ => some (sh41e, 3)) (m := fun (_, _, i, _) => (60 - i).toNat) ((good2_nil _).addF2 ok31) fun (l, (w, d0, ts, es, b, ()), i, ()) Q hx => by
 obtain ⟨⟨g1, g2, g3, g4, g5, g6⟩, hQ⟩ := hx
 have g2 : b = true := g2
 subst g2
 exact h41L w d0 ts es l i Q g1 g3 g4 g5 g6 hQ
theorem ok41 : F2Ok Tryd.prog 41 fcAfter := fn2_of (n := 5) (((good2_nil _).addL2 ok41L).addF ok49) fun (wt, l, ()) K hx => by
 obtain ⟨⟨g1, g2, g3⟩, hK⟩ := hx
 have g1 : (0 : Int) <= wt := g1
 have g2 : wt <= (1000 : Int) := g2
 show xfn2 Tryd.prog { f := [(49, fcWith)], l2 := [(41, 0, lc41)] } 5 41 fcAfter (wt, l, ()) K
 rw [v41F]
 simp only [fork_iff, req_iff, decide_eq_true_eq, Bool.not_eq_true', Bool.not_eq_false', decide_eq_false_iff_not, Nat.zero_add, seg_self, Nat.le_refl, true_and, List.drop_zero]
 exact ⟨fun h => absurd ⟨g1, g2⟩ h, fun h => ⟨⟨new_ok h, g3, Int.le_refl (0 : Int), show (0 : Int) <= 60 by decide, Int.le_refl 0⟩, fun w1 d1 ts1 es1 he => hK _ _ _ _ he⟩⟩
theorem fn1_ex {P : Program} {k : Nat} {c : FC} (h : ∀ x K, c.spec x K -> ∃ T n, Good2 P T /\ xfn1 P T n k c x K) : FnOk P k c := fun x K hx => by
 obtain ⟨T, n, hT, h⟩ := h x K hx
 exact pc_of (P := P) (k := k) (spec := fun x' K' => xfn1 P T n k c x' K') (xcall_ok hT.tab n) (fun fn fb hf hb => hT.tab.lp k fn fb hf hb) (fun x' K' hx' => by unfold xfn1 at hx'; exact hx') x K h
theorem after_fact {wt : Int} (h : 0 <= wt /\ wt <= 1000) {l : List Cl} {r : RS} (hr : r = (l.take 60).foldl stepI (wt, 0, [], [])) : okR r /\ r.1 = wt /\ r.2.2.2.length <= 60 := by
 obtain ⟨h1, h2, h3⟩ := fold_ok (l.take 60) (new_ok h)
 rw [<- hr] at h1 h2 h3
 refine ⟨h1, h2, Nat.le_trans h3 ?_⟩
 rw [List.length_take]; simp only [List.length_nil]; omega
end Go.P3
