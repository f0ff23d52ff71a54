/- TicketProper: Proper, and the reference: the code keeps its contracts. No conditions. -/
import Derived.Test.YtcpdcpfbgmiaoaaDoorPropT
import Derived.Test.YtcpdcpfbgmiaoaaDoorPropP
import Derived.Test.YtcpdcpfbgmiaoaaDoorPropAP
import Derived.Test.YtcpdcpfbgmiaoaaDoorRefA
import Derived.Test.YtcpdcpfbgmiaoaaDoorRollO
import Derived.Test.YtcpdcpfbgmiaoaaDoorCodesP
set_option linter.all false
set_option maxRecDepth 100000
set_option maxHeartbeats 4000000
namespace Go.P3
open Go.Lom Go.Proofs Go
theorem fitsN_le {m n b : Nat} (h : fitsN n b = true) (hm : m <= n) : fitsN m b = true := by
 simp only [fitsN, Bool.and_eq_true, Nat.ble_eq] at h ⊢
 exact ⟨Nat.le_trans (Nat.mul_le_mul_right b hm) h.1, Nat.le_trans hm h.2⟩
theorem fitsN_big {n : Nat} (h : fitsN n 40 = true) : n <= 9000000000000000000 := by
 simp only [fitsN, Bool.and_eq_true, Nat.ble_eq] at h
 have := h.1
 omega
theorem h83L (w d0 : Int) (ts : List Tk) (es : List Ev) (x : Ev) (ps : List Tx) (eds : List (List Int)) (l : List Tk) (i : Int) (Q : AX -> St -> Prop)
  (h0 : 0 <= i) (h1 : i <= l.length) (h4 : l.length <= 4) (h5 : (ps.length : Int) = i) (h6 : (eds.length : Int) = i)
  (hQ : Q (.exit 0) (stS 6 sh83e ((w, d0, ts, es, ()), (x.1, x.2.1, x.2.2.1, x.2.2.2.1, x.2.2.2.2, ()), ps ++ (l.drop i.toNat).map (·.2.1), eds ++ (l.drop i.toNat).map (·.2.2.2.1), ()))) :
  xloop2 Tryd.prog { nm := true } 5 83 0 lc83 (fun _ => some (sh83e, 6)) (fun (_, _, l, _, _, i, _) => mL l i) ((w, d0, ts, es, ()), (x.1, x.2.1, x.2.2.1, x.2.2.2.1, x.2.2.2.2, ()), l, ps, eds, i, ()) Q := by
 rw [v83L]
 simp only [fork_iff, req_iff, decide_eq_true_eq, decide_eq_false_iff_not, seg_all, Nat.zero_add, Nat.le_refl, true_and]
 refine ⟨fun hi => ⟨⟨h0, hi⟩, ⟨h0, hi⟩, fits100 (by omega), fun ys hy => ⟨fits100 (by omega), fun zs hz => ?_⟩⟩, fun hi => ?_⟩
 ·have hy1 : ys.length = ps.length + 1 := by rw [hy, List.length_append]; rfl
  have hz1 : zs.length = eds.length + 1 := by rw [hz, List.length_append]; rfl
  rw [<- hy1, <- hz1, seg_all, seg_all]
  refine ⟨inR_i64.2 (by omega), Nat.le_refl _, Nat.le_refl _, mL_lt hi, ⟨show (0 : Int) <= i + 1 by omega, show i + 1 <= (l.length : Int) by omega, h4, show (ys.length : Int) = i + 1 by omega, show (zs.length : Int) = i + 1 by omega⟩, ?_⟩
  have e1 : ps ++ (l.drop i.toNat).map (·.2.1) = ys ++ (l.drop (i + 1).toNat).map (·.2.1) := by rw [drop_step T0 h0 hi, List.map_cons, hy, List.append_assoc]; rfl
  have e2 : eds ++ (l.drop i.toNat).map (·.2.2.2.1) = zs ++ (l.drop (i + 1).toNat).map (·.2.2.2.1) := by rw [drop_step T0 h0 hi, List.map_cons, hz, List.append_assoc]; rfl
  rw [e1, e2] at hQ
  exact hQ
 ·rw [drop_end hi, List.map_nil, List.map_nil, List.append_nil, List.append_nil] at hQ
  exact hQ
section
variable {w d0 k d n la ma : Int} {ts : List Tk} {es : List Ev} {tk : List Tk} {K : fcAgR.post.den -> Prop} (hs : okR (w, d0, ts, es)) (hr : roomy es)
 (hK : ∀ (w1 d1 : Int) (ts1 : List Tk) (es1 : List Ev) (b : Bool), ((w1, d1, ts1, es1), b) = againR (w, d0, ts, es) (k, d, n, la, ma) tk -> K ((w1, d1, ts1, es1, ()), (), (), b, ()))
include hs hr hK
end
theorem edges_ok {s : RS} (h : okR s) : ∀ t ∈ s.2.2.1, t.2.2.2.1.length <= 100 := fun t ht => by
 obtain ⟨i, hi, rfl⟩ := List.mem_iff_getElem.1 ht
 have := (h.tk i _ (List.getElem?_eq_getElem hi)).edge
 unfold inB at this
 rw [Bool.and_eq_true, decide_eq_true_eq] at this
 have h1 := this.1.2
 omega
theorem drop_ev {l : List Ev} {i : Int} (h0 : 0 <= i) (h1 : i < l.length) : l.drop i.toNat = l.getD i.toNat E0 :: l.drop (i + 1).toNat := drop_step E0 h0 h1
theorem h42L (w d0 : Int) (ts : List Tk) (es : List Ev) (tk : List Tk) (l2 : List Ev) (i : Int) (Q : AX -> St -> Prop) (hs : okR (w, d0, ts, es)) (ht : okTk tk) (hr : roomL l2) (h0 : 0 <= i) (h1 : i <= l2.length) (h2 : (es.length : Int) <= i)
  (hN : runI tk (w, d0, ts, es) (l2.drop i.toNat) = none -> Q .ret (stS 0 shBI (false, 0, ())))
  (hS : ∀ (w1 d1 : Int) (ts1 : List Tk) (es1 : List Ev), runI tk (w, d0, ts, es) (l2.drop i.toNat) = some (w1, d1, ts1, es1) -> Q (.exit 0) (stS 3 sh42e (tk, l2, (w1, d1, ts1, es1, true, ()), ()))) :
  xloop2 Tryd.prog { nm := true, f2 := [(79, fcAgain)] } 5 42 0 lc42 ex42 (fun (_, l, _, _, _, i, _) => mL l i) (tk, l2, (w, d0, ts, es, true, ()), l2, l2.length, i, ()) Q := by
 have hr' : fitsN l2.length 40 = true := hr
 have hbig := fitsN_big hr'
 rw [v42L]
 simp only [fork_iff, req_iff, decide_eq_true_eq, decide_eq_false_iff_not, seg_all, Nat.zero_add, Nat.le_refl, true_and, Bool.not_eq_true', Bool.not_eq_false']
 refine ⟨fun hi => ?_, fun hi => ?_⟩
 ·have hi : i < (l2.length : Int) := hi
  obtain ⟨g1, -, -, g4⟩ := again_ok (x := l2.getD i.toNat E0) (tk := tk) hs
  refine ⟨⟨h0, hi⟩, ⟨hs, fitsN_le hr' (by omega), ht⟩, fun w1 d1 ts1 es1 b e => ?_⟩
  have e : ((w1, d1, ts1, es1), b) = againI (w, d0, ts, es) (l2.getD i.toNat E0) tk := e
  have hrun : runI tk (w, d0, ts, es) (l2.drop i.toNat) = if b = true then runI tk (w1, d1, ts1, es1) (l2.drop (i + 1).toNat) else none := by
   rw [drop_ev h0 hi]
   show (if (againI (w, d0, ts, es) (l2.getD i.toNat E0) tk).2 = true then runI tk (againI (w, d0, ts, es) (l2.getD i.toNat E0) tk).1 (l2.drop (i + 1).toNat) else none) = _
   rw [<- e]
  rw [<- e] at g1 g4
  rw [hrun] at hN hS
  refine ⟨fun hb => hN (by rw [hb]; rfl), fun hb => ⟨inR_i64.2 (by omega), mL_lt hi, ⟨g1, ht, hr, show (0 : Int) <= i + 1 by omega, show i + 1 <= (l2.length : Int) by omega, ?_⟩, fun c => hN (by rw [if_pos hb]; exact c), fun w2 d2 ts2 es2 c => hS w2 d2 ts2 es2 (by rw [if_pos hb]; exact c)⟩⟩
  have g4 : es1.length <= es.length + 1 := g4
  show (es1.length : Int) <= i + 1
  omega
 ·refine hS w d0 ts es ?_
  show runI tk (w, d0, ts, es) (l2.drop i.toNat) = _
  rw [drop_end hi]; rfl
theorem ok42L : Lp2Ok Tryd.prog 42 0 lc42 := lp2_of (n := 5) (ex := ex42) (m := fun (_, l, _, _, _, i, _) => mL l i) ((good2_nilN _).addF2 ok79) fun (tk, l, (w, d0, ts, es, b, ()), l2, m, i, ()) Q hx => by
 obtain ⟨⟨hs, hb, ht, hr, q1, q2, h0, h1, h2⟩, hN, hS⟩ := hx
 have hb : b = true := hb
 have q1 : l2 = l := q1
 have q2 : m = (l.length : Int) := q2
 subst hb q1 q2
 exact h42L w d0 ts es tk l2 i Q hs ht hr h0 h1 h2 hN hS
end Go.P3
