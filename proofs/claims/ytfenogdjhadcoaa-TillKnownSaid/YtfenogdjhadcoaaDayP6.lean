/- Days: Explain: the program keeps its contract. No conditions. -/
import Derived.Test.YtfenogdjhadcoaaDayP5
import Derived.Test.YtfenogdjhadcoaaDayS3
set_option linter.all false
set_option maxRecDepth 100000
set_option maxHeartbeats 4000000
namespace Go.P8
open Go.Lom Go.Proofs Go
theorem subI_len {a b : List Int} (h : a.length = b.length) : (subI a b).length = a.length := by unfold subI; rw [List.length_zipWith]; omega
theorem sub_step {a b : List Int} {i : Int} (h0 : 0 <= i) (h1 : i < a.length) (h2 : i < b.length) : subI (a.drop i.toNat) (b.drop i.toNat) = (a.getD i.toNat 0 - b.getD i.toNat 0) :: subI (a.drop (i + 1).toNat) (b.drop (i + 1).toNat) := by
 rw [drop_at h0 h1, drop_at h0 h2]; rfl
theorem set_take {l : List Int} {i : Nat} {v : Int} (h : i < l.length) : (l.set i v).take (i + 1) = l.take i ++ [v] := by
 apply List.ext_getElem
 ·rw [List.length_take, List.length_set, List.length_append, List.length_take]; simp; omega
 ·intro a h1 h2
  rw [List.length_take, List.length_set] at h1
  rw [List.getElem_take, List.getElem_set, List.getElem_append]
  by_cases c : i = a
  ·rw [if_pos c, dif_neg (by rw [List.length_take]; omega)]; simp
  ·rw [if_neg c, dif_pos (by rw [List.length_take]; omega), List.getElem_take]
theorem h22A (o cn : List Int) (ps : List Po) (off : List Int) (i : Int) (Q : AX -> St -> Prop) (hl : off.length = cn.length) (h8 : off.length <= 8) (i0 : 0 <= i) (i1 : i <= off.length) (hb : offB (39 * 1073741824) (off.drop i.toNat)) (hc : ∀ n ∈ cn, 0 <= n /\ n <= 1073741824)
  (hQ : Q (.exit 0) (stS 3 sh22ae ((o, ps, cn), off.take i.toNat ++ subI (off.drop i.toNat) (cn.drop i.toNat), ()))) :
  xloop2 Try.prog { nm := true } 5 22 0 lc22a (fun _ => some (sh22ae, 3)) (fun (_, _, m, i, _) => (m - i).toNat) ((o, ps, cn), off, off.length, i, ()) Q := by
 rw [v22A]
 simp only [fork_iff, req_iff, decide_eq_true_eq, decide_eq_false_iff_not, true_and, Nat.add_zero]
 refine ⟨fun hi => ?_, fun hi => ?_⟩
 ·rw [sub_step i0 hi (by omega)] at hQ
  rw [drop_at i0 hi] at hb
  have g1 := hb _ (List.mem_cons_self ..)
  have g2 : 0 <= cn.getD i.toNat 0 /\ cn.getD i.toNat 0 <= 1073741824 := by
   rw [List.getD_eq_getElem?_getD, List.getElem?_eq_getElem (show i.toNat < cn.length by omega)]
   exact hc _ (List.getElem_mem _)
  refine ⟨⟨i0, hi⟩, by omega, ⟨i0, by omega⟩, inR_i64.2 (by omega), ⟨i0, hi⟩, by omega, fun ys hy => ?_⟩
  have hyl : ys.length = off.length := by rw [hy, List.length_set]
  have e1 : (i + 1).toNat = i.toNat + 1 := by omega
  have e2 : ys.take (i + 1).toNat = off.take i.toNat ++ [off.getD i.toNat 0 - cn.getD i.toNat 0] := by rw [hy, e1]; exact set_take (by omega)
  have e3 : ys.drop (i + 1).toNat = off.drop (i + 1).toNat := by rw [hy, List.drop_set_of_lt (by omega)]
  refine ⟨inR_i64.2 (by omega), hyl.symm, by omega, ⟨⟨by show ys.length = cn.length; omega, by show ys.length <= 8; omega, by show (off.length : Int) = (ys.length : Int); omega, ⟨by show (0 : Int) <= i + 1; omega, by show i + 1 <= (ys.length : Int); omega⟩, ?_, hc⟩, ?_⟩⟩
  ·show offB (39 * 1073741824) (ys.drop (i + 1).toNat)
   rw [e3]; exact fun x hx => hb x (List.mem_cons_of_mem _ hx)
  ·show Q (.exit 0) (stS 3 sh22ae ((o, ps, cn), ys.take (i + 1).toNat ++ subI (ys.drop (i + 1).toNat) (cn.drop (i + 1).toNat), ()))
   rw [e2, e3, List.append_assoc]; exact hQ
 ·have e : subI (off.drop i.toNat) (cn.drop i.toNat) = [] := by rw [drop_no hi]; rfl
  rw [e, List.append_nil, List.take_of_length_le (by omega)] at hQ
  exact hQ
theorem ok22A : Lp2Ok Try.prog 22 0 lc22a := lp2_of (n := 5) (ex := fun _ => some (sh22ae, 3)) (m := fun (_, _, m, i, _) => (m - i).toNat) (good2_nilN _) fun ((o, ps, cn), off, m, i, ()) Q hx => by
 obtain ⟨⟨g1, g2, g3, ⟨g4, g5⟩, g6, g7⟩, hQ⟩ := hx
 have g3 : m = (off.length : Int) := g3
 subst g3
 exact h22A o cn ps off i Q g1 g2 g4 g5 g6 g7 hQ
theorem from_step (ps : List Po) (off : List Int) {i : Nat} (h : i < 4) : explFrom ps off i = (expl ps i off 0).or (explFrom ps off (i + 1)) := by
 unfold explFrom
 rw [show 4 - i = (4 - (i + 1)) + 1 by omega, List.range'_succ, List.findSome?_cons]
 cases expl ps i off 0 <;> rfl
theorem bd_le {m : Int} (h : m <= 3) {off : List Int} (hb : offB (bd 3) off) : offB (bd m) off := fun x hx => by
 have := hb x hx
 unfold bd at this ⊢
 omega
theorem h22B (o cn : List Int) (ps : List Po) (off : List Int) (fo : List Mi) (i : Int) (Q : AX -> St -> Prop) (hd : dayOk (o, ps, cn) = true) (hl : off.length = o.length) (hb : offB (bd 3) off) (i0 : 0 <= i) (i1 : i <= 4)
  (hN : explFrom ps off i.toNat = none -> ∀ fo' : List Mi, Q (.exit 2) (stS 1 sh22be (fo', 4, ()))) (hS : ∀ l, explFrom ps off i.toNat = some l -> Q (.exit 2) (stS 1 sh22be (l, 0, ()))) :
  xloop2 Try.prog { nm := true, ip := true, f2 := [(56, fc56 4)] } 5 22 1 lc22b (fun _ => some (sh22be, 1)) (fun (_, _, _, _, _, i, _) => (4 - i).toNat) ((o, ps, cn), off, fo, ((), (), (), (), (), ()), 4, i, ()) Q := by
 rw [v22B]
 simp only [fork_iff, req_iff, decide_eq_true_eq, decide_eq_false_iff_not, true_and, List.take_zero, List.nil_append, true_imp_iff, Nat.zero_le]
 refine ⟨fun hi => ⟨⟨⟨hd, hl, bd_le (by omega) hb, by omega, Nat.le_refl 0, by show ((0 : Nat) : Int) + i <= 3; omega⟩, hi, Int.le_refl (0 : Int), by show (0 : Int) <= 16; decide⟩, fun z' fo' b h1 h2 => ?_⟩, fun hi => ?_⟩
 ·rw [from_step ps off (show i.toNat < 4 by omega)] at hN hS
  refine ⟨fun hb' => ?_, fun hb' => ?_⟩
  ·rw [hb'] at h1
   obtain ⟨l, hl⟩ := Option.isSome_iff_exists.1 h1.symm
   rw [hl] at hS
   rw [h2 l hl]
   exact hS l rfl
  ·rw [hb'] at h1
   have hnone : expl ps i.toNat off 0 = none := by
    cases hc : expl ps i.toNat off 0 with
    | none => rfl
    | some l => rw [hc] at h1; cases h1
   rw [hnone] at hN hS
   have e1 : (i + 1).toNat = i.toNat + 1 := by omega
   refine ⟨inR_i64.2 (by omega), by omega, ⟨⟨hd, hl, hb, by show (0 : Int) <= i + 1; omega, by show i + 1 <= (4 : Int); omega⟩, fun h => ?_, fun l h => ?_⟩⟩
   ·have h : explFrom ps off (i + 1).toNat = none := h
    rw [e1] at h; exact hN h
   ·have h : explFrom ps off (i + 1).toNat = some l := h
    rw [e1] at h; exact hS l h
 ·have : i.toNat = 4 := by omega
  rw [this] at hN
  exact hN rfl fo
theorem ok22B : Lp2Ok Try.prog 22 1 lc22b := lp2_of (n := 5) (ex := fun _ => some (sh22be, 1)) (m := fun (_, _, _, _, _, i, _) => (4 - i).toNat) ((good2_nilI _).addF2 (ok56 4)) fun ((o, ps, cn), off, fo, ((), (), (), (), (), ()), e, i, ()) Q hx => by
 obtain ⟨⟨g1, g2, g3, g4, g5, g6⟩, hN, hS⟩ := hx
 have g4 : e = (4 : Int) := g4
 subst g4
 exact h22B o cn ps off fo i Q g1 g2 g3 g5 g6 hN hS
theorem balI_len : ∀ (ps : List Po) (l : List Int), (balI l ps).length = l.length
 | [], _ => rfl
 | p :: ps, l => by
  show (balI (moveI l p.1 p.2.1 p.2.2) ps).length = _
  rw [balI_len ps, moveI_len]
theorem balI_bd : ∀ (ps : List Po) (l : List Int) (b : Int), 0 <= b -> offB b l -> (∀ p ∈ ps, 1 <= p.2.2 /\ p.2.2 <= 1073741824) -> offB (b + ps.length * 2147483648) (balI l ps)
 | [], l, b, _, h, _ => by
  show offB (b + ((0 : Nat) : Int) * 2147483648) l
  intro x hx
  have := h x hx
  omega
 | p :: ps, l, b, h0, h, hp => by
  have hpp := hp p (List.mem_cons_self ..)
  have h1 : offB (b + 1073741824 + 1073741824) (moveI l p.1 p.2.1 p.2.2) := offB_add (offB_add h h0 (by omega)) (by omega) (by omega)
  have h2 := balI_bd ps _ _ (by omega) h1 fun q hq => hp q (List.mem_cons_of_mem _ hq)
  show offB _ (balI (moveI l p.1 p.2.1 p.2.2) ps)
  intro x hx
  have := h2 x hx
  rw [List.length_cons]
  omega
theorem subI_mem : ∀ {a b : List Int} {x : Int}, x ∈ subI a b -> ∃ u v, u ∈ a /\ v ∈ b /\ x = u - v
 | [], _, x, h => by simp [subI] at h
 | _ :: _, [], x, h => by simp [subI] at h
 | u :: a, v :: b, x, h => by
  have h : x ∈ (u - v) :: subI a b := h
  rcases List.mem_cons.1 h with e | e
  ·exact ⟨u, v, List.mem_cons_self .., List.mem_cons_self .., e⟩
  ·obtain ⟨u', v', h1, h2, h3⟩ := subI_mem e
   exact ⟨u', v', List.mem_cons_of_mem _ h1, List.mem_cons_of_mem _ h2, h3⟩
theorem day_bal {d : Dy} (h : okY d) : offB (33 * 1073741824) (balI d.1 d.2.1) := by
 have h1 := balI_bd d.2.1 d.1 1073741824 (by decide) (fun x hx => by have := h.opn x hx; omega) (fun p hp => (poOk_iff.1 (h.pos p hp)).2.2.2)
 intro x hx
 have := h1 x hx
 have := h.len.2.2.2
 omega
theorem day_off {d : Dy} (h : okY d) : offB (bd 3) (offI d) /\ (offI d).length = d.1.length := by
 have hb := day_bal h
 have hl := h.len
 refine ⟨fun x hx => ?_, by unfold offI; rw [subI_len (by rw [balI_len]; omega), balI_len]⟩
 obtain ⟨u, v, hu, hv, rfl⟩ := subI_mem hx
 have := hb u hu
 have := h.cnt v hv
 unfold bd
 omega
theorem ok22 : FnOk Try.prog 22 fc22 := fn1_of (n := 5) (((((good2_nilI _).addL2 ok22B).addL2 ok22A).addF2 ok53).addF ok52) fun ((o, ps, cn), ()) K hx => by
 obtain ⟨hb, hK⟩ := hx
 show xfn1 Try.prog { nm := true, ip := true, f := [(52, fc52)], f2 := [(53, fc53)], l2 := [(22, 0, lc22a), (22, 1, lc22b)] } 5 22 fc22 ((o, ps, cn), ()) K
 rw [v22F]
 simp only [fork_iff, req_iff, decide_eq_true_eq, true_and, Nat.zero_add, Nat.le_refl, seg_all, Bool.not_eq_true', Bool.not_eq_false', List.take_zero, List.drop_zero, List.nil_append]
 refine ⟨hb, fun b hbb => ⟨fun h => hK _ _ ?_, fun h => ?_⟩⟩
 ·show _ = explE (o, ps, cn)
  unfold explE
  rw [<- hbb, h]; rfl
 ·have hd : dayOk (o, ps, cn) = true := hbb.symm.trans h
  have hy := dayOk_iff.1 hd
  have hl : 2 <= o.length /\ o.length <= 8 /\ cn.length = o.length /\ ps.length <= 16 := hy.len
  have hbal : offB (33 * 1073741824) (balI o ps) := day_bal hy
  have hoff := day_off hy
  refine ⟨hd, fun r hr => ?_⟩
  subst hr
  have hrl := balI_len ps o
  refine ⟨⟨by omega, by omega, ⟨Int.le_refl (0 : Int), Int.natCast_nonneg _⟩, fun x hx => ?_, hy.cnt⟩, ⟨hd, hoff.2, hoff.1, Int.le_refl (0 : Int), by show (0 : Int) <= 4; decide⟩, fun h1 fo' => hK _ _ ?_, fun l h1 => hK _ _ ?_⟩
  ·have h2 : -(33 * 1073741824 : Int) <= x /\ x <= 33 * 1073741824 := hbal x hx
   show -(41875931136 : Int) <= x /\ x <= 41875931136
   omega
  ·show _ = explE (o, ps, cn)
   unfold explE
   rw [hd, show explFrom (o, ps, cn).2.1 (offI (o, ps, cn)) 0 = none from h1]; rfl
  ·show _ = explE (o, ps, cn)
   unfold explE
   rw [hd, show explFrom (o, ps, cn).2.1 (offI (o, ps, cn)) 0 = some l from h1]; rfl
end Go.P8
