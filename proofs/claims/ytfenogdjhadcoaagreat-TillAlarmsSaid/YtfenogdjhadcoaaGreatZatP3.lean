/- Windows: the code keeps its contracts. No conditions. -/
import Derived.Test.YtfenogdjhadcoaaGreatZatP2
set_option linter.constructorNameAsVariable false
set_option linter.unusedVariables false
set_option linter.unusedSimpArgs false
set_option maxRecDepth 100000
set_option maxHeartbeats 4000000
namespace Go.P8
open Go.Lom Go.Proofs Go

theorem enc_get (tw : Wt) (l : List Dl) (h : Ar) (n : Nat) : (Ty.enc TWt (tw, l, h))[5 + n]? = ((arL 23 h).map (AV.int .i64))[n]? := by
  have e : AR.enc h = (arL 23 h).map (AV.int .i64) := by
    rw [enc_arL 23 h]
    induction arL 23 h with
    | nil => rfl
    | cons x xs ih => rw [List.flatMap_cons, List.map_cons, ih]; rfl
  have e2 : Ty.enc TWt (tw, l, h) = AV.int .i64 tw.1 :: AV.int .i64 tw.2.1 :: AV.int .i64 tw.2.2.1 :: AV.int .i64 tw.2.2.2 :: AV.rl TD l :: AR.enc h := rfl
  rw [e2, e, show 5 + n = n + 1 + 1 + 1 + 1 + 1 by omega]
  simp only [List.getElem?_cons_succ]
theorem selOk_at (tw : Wt) (l : List Dl) (h : Ar) {p : Int} (h0 : 0 ≤ p) (h1 : p < 24) : selOk .i64 (Ty.enc TWt (tw, l, h)) (5 + p.toNat) = true := by
  unfold selOk
  rw [enc_get, List.getElem?_map, List.getElem?_eq_getElem (show p.toNat < (arL 23 h).length by rw [arL_len]; omega)]
  rfl
theorem selI_at (tw : Wt) (l : List Dl) (h : Ar) {p : Int} (h0 : 0 ≤ p) (h1 : p < 24) : selI (Ty.enc TWt (tw, l, h)) (5 + p.toNat) = at' (arL 23 h) p := by
  have := sel_get (selOk_at tw l h h0 h1)
  rw [enc_get, List.getElem?_map] at this
  have hl : p.toNat < (arL 23 h).length := by rw [arL_len]; omega
  rw [List.getElem?_eq_getElem hl] at this
  simp only [Option.map_some, Option.some.injEq, AV.int.injEq, true_and] at this
  rw [← this]
  unfold at'
  rw [List.getD_eq_getElem?_getD, List.getElem?_eq_getElem hl]; rfl
theorem dl_in {l : List Dl} {i : Int} (h0 : 0 ≤ i) (h1 : i < l.length) : l.getD i.toNat ((0, 0, 0) : Dl) ∈ l := by
  rw [List.getD_eq_getElem?_getD, List.getElem?_eq_getElem (show i.toNat < l.length by omega)]
  exact List.getElem_mem _
theorem take_getD {l : List Dl} {k i : Int} (h0 : 0 ≤ i) (h1 : i < k + 1) : (l.take (k + 1).toNat).getD i.toNat ((0, 0, 0) : Dl) = l.getD i.toNat (0, 0, 0) := by
  rw [List.getD_eq_getElem?_getD, List.getD_eq_getElem?_getD, List.getElem?_take, if_pos (by omega)]
theorem h111L (tw : Wt) (l : List Dl) (h : Ar) (a s : List Int) (n k i : Int) (Q : AX → St → Prop) (gw : watP (tw, l, h)) (k0 : 0 ≤ k) (k1 : k < l.length) (h0 : 0 ≤ i) (h1 : i ≤ k + 1) (ha : (a.length : Int) ≤ i) (hs : (s.length : Int) ≤ i) (n0 : 0 ≤ n) (n1 : n ≤ i * 1073741824)
    (hQ : ∀ (a2 s2 : List Int) (n2 : Int), a2 = a ++ winF tw l (arL 23 h) k (k + 1 - i).toNat i → s2 = s ++ (winF tw l (arL 23 h) k (k + 1 - i).toNat i).filter (smallB tw l) → n2 = n + sumOf l (winF tw l (arL 23 h) k (k + 1 - i).toNat i) → Q (.exit 0) (stS 11 sh111e (mkY (rngOf Tryz.prog 21 0) (tw, l, h) a2 s2 n2, (tw, l, h), k, ()))) :
    xloop2 Tryz.prog { nm := true } 5 65 0 lc111 (fun _ => some (sh111e, 11)) (fun (_, _, _, _, m, i, _) => (m - i).toNat) ((((tw, l, h), a, s, n, ()), rngOf Tryz.prog 21 0), (tw, l, h), k, l.take (k + 1).toNat, k + 1, i, ()) Q := by
  rw [v111L]
  simp only [fork_iff, req_iff, decide_eq_true_eq, decide_eq_false_iff_not, ge_iff_le, gt_iff_lt, beq_iff_eq, beq_eq_false_iff_ne, ne_eq, Nat.zero_add, Nat.le_refl, seg_self, true_and]
  have hlen : ((l.take (k + 1).toNat).length : Int) = k + 1 := by rw [List.length_take]; omega
  have h64 : l.length ≤ 64 := gw.2.1
  have gd : ∀ d ∈ l, dayOk d := gw.2.2
  have gW : (1 ≤ tw.1 ∧ tw.1 ≤ 366) ∧ (1 ≤ tw.2.1 ∧ tw.2.1 ≤ 1073741824) ∧ (1 ≤ tw.2.2.1 ∧ tw.2.2.1 ≤ tw.2.1) ∧ (1 ≤ tw.2.2.2 ∧ tw.2.2.2 ≤ 64) := wtOk_iff.1 gw.1
  refine ⟨fun hi => ?_, fun hi => ?_⟩
  · have dx : dayOk (l.getD i.toNat ((0, 0, 0) : Dl)) := gd _ (dl_in h0 (by omega))
    have dk : dayOk (l.getD k.toNat ((0, 0, 0) : Dl)) := gd _ (dl_in k0 k1)
    have hw : winB tw l (arL 23 h) k i = (decide (at' (arL 23 h) (l.getD i.toNat ((0, 0, 0) : Dl)).2.1 = at' (arL 23 h) (l.getD k.toNat ((0, 0, 0) : Dl)).2.1) && decide ((l.getD k.toNat ((0, 0, 0) : Dl)).1 - tw.1 < (l.getD i.toNat ((0, 0, 0) : Dl)).1)) := rfl
    have hsm : smallB tw l i = decide (tw.2.2.1 ≤ (l.getD i.toNat ((0, 0, 0) : Dl)).2.2 ∧ (l.getD i.toNat ((0, 0, 0) : Dl)).2.2 ≤ tw.2.1 - 1) := rfl
    have ham : amt l i = (l.getD i.toNat ((0, 0, 0) : Dl)).2.2 := rfl
    rw [take_getD h0 hi]
    rw [show (k + 1 - i).toNat = (k + 1 - (i + 1)).toNat + 1 by omega] at hQ
    simp only [winF] at hQ
    rw [hw] at hQ
    generalize l.getD i.toNat ((0, 0, 0) : Dl) = x at *
    generalize l.getD k.toNat ((0, 0, 0) : Dl) = y at *
    obtain ⟨x1, x2, x3, x4, x5, x6⟩ := dx
    obtain ⟨y1, y2, y3, y4, y5, y6⟩ := dk
    have hm : (i + 1) * 1073741824 = i * 1073741824 + 1073741824 := by omega
    have go : ∀ (a' s' : List Int) (n' : Int), (a'.length : Int) ≤ i + 1 → (s'.length : Int) ≤ i + 1 → 0 ≤ n' → n' ≤ (i + 1) * 1073741824 →
        (∀ (a2 s2 : List Int) (n2 : Int), a2 = a' ++ winF tw l (arL 23 h) k (k + 1 - (i + 1)).toNat (i + 1) → s2 = s' ++ (winF tw l (arL 23 h) k (k + 1 - (i + 1)).toNat (i + 1)).filter (smallB tw l) → n2 = n' + sumOf l (winF tw l (arL 23 h) k (k + 1 - (i + 1)).toNat (i + 1)) → Q (.exit 0) (stS 11 sh111e (mkY (rngOf Tryz.prog 21 0) (tw, l, h) a2 s2 n2, (tw, l, h), k, ()))) →
        ((k + 1 - (i + 1)).toNat < (k + 1 - i).toNat ∧ (watP (tw, l, h) ∧ (0 ≤ k ∧ k < (l.length : Int)) ∧ (0 ≤ i + 1 ∧ i + 1 ≤ k + 1) ∧ (a'.length : Int) ≤ i + 1 ∧ (s'.length : Int) ≤ i + 1 ∧ 0 ≤ n' ∧ n' ≤ (i + 1) * 1073741824) ∧
        ∀ (a2 s2 : List Int) (n2 : Int), a2 = a' ++ winF tw l (arL 23 h) k (k + 1 - (i + 1)).toNat (i + 1) → s2 = s' ++ (winF tw l (arL 23 h) k (k + 1 - (i + 1)).toNat (i + 1)).filter (smallB tw l) → n2 = n' + sumOf l (winF tw l (arL 23 h) k (k + 1 - (i + 1)).toNat (i + 1)) → Q (.exit 0) (stS 11 sh111e (mkY (rngOf Tryz.prog 21 0) (tw, l, h) a2 s2 n2, (tw, l, h), k, ()))) :=
      fun a' s' n' b1 b2 b3 b4 b5 => ⟨by omega, ⟨gw, ⟨k0, k1⟩, ⟨by omega, by omega⟩, b1, b2, b3, b4⟩, b5⟩
    rw [selI_at tw l h x3 (show x.2.1 < 24 by omega), selI_at tw l h y3 (show y.2.1 < 24 by omega)]
    have out : ¬ (at' (arL 23 h) x.2.1 = at' (arL 23 h) y.2.1 ∧ y.1 - tw.1 < x.1) → ∀ (a2 s2 : List Int) (n2 : Int), a2 = a ++ winF tw l (arL 23 h) k (k + 1 - (i + 1)).toNat (i + 1) → s2 = s ++ (winF tw l (arL 23 h) k (k + 1 - (i + 1)).toNat (i + 1)).filter (smallB tw l) → n2 = n + sumOf l (winF tw l (arL 23 h) k (k + 1 - (i + 1)).toNat (i + 1)) → Q (.exit 0) (stS 11 sh111e (mkY (rngOf Tryz.prog 21 0) (tw, l, h) a2 s2 n2, (tw, l, h), k, ())) := fun hne a2 s2 n2 e1 e2 e3 => by
      have : (decide (at' (arL 23 h) x.2.1 = at' (arL 23 h) y.2.1) && decide (y.1 - tw.1 < x.1)) = false := by
        rw [Bool.and_eq_false_iff, decide_eq_false_iff_not, decide_eq_false_iff_not]
        by_cases q : at' (arL 23 h) x.2.1 = at' (arL 23 h) y.2.1
        · exact .inr fun z => hne ⟨q, z⟩
        · exact .inl q
      rw [this] at hQ
      simp only [Bool.false_eq_true, if_false] at hQ
      exact hQ a2 s2 n2 e1 e2 e3
    have inn : at' (arL 23 h) x.2.1 = at' (arL 23 h) y.2.1 → y.1 - tw.1 < x.1 → ∀ (s' : List Int), s' = (if smallB tw l i = true then s ++ [i] else s) → ∀ (a2 s2 : List Int) (n2 : Int), a2 = (a ++ [i]) ++ winF tw l (arL 23 h) k (k + 1 - (i + 1)).toNat (i + 1) → s2 = s' ++ (winF tw l (arL 23 h) k (k + 1 - (i + 1)).toNat (i + 1)).filter (smallB tw l) → n2 = n + x.2.2 + sumOf l (winF tw l (arL 23 h) k (k + 1 - (i + 1)).toNat (i + 1)) → Q (.exit 0) (stS 11 sh111e (mkY (rngOf Tryz.prog 21 0) (tw, l, h) a2 s2 n2, (tw, l, h), k, ())) := fun q1 q2 s' hs' a2 s2 n2 e1 e2 e3 => by
      have : (decide (at' (arL 23 h) x.2.1 = at' (arL 23 h) y.2.1) && decide (y.1 - tw.1 < x.1)) = true := by rw [decide_eq_true q1, decide_eq_true q2]; rfl
      rw [this] at hQ
      simp only [if_true] at hQ
      refine hQ a2 s2 n2 (by rw [e1]; simp) ?_ ?_
      · rw [e2, hs', List.filter_cons]
        split <;> simp
      · rw [e3]
        simp only [sumOf, List.map_cons, List.sum_cons, ham]
        omega
    refine ⟨⟨h0, by omega⟩, ⟨x3, by omega⟩, selOk_at tw l h x3 (by omega), ⟨k0, k1⟩, ⟨y3, by omega⟩, selOk_at tw l h y3 (by omega), fun q1 => ⟨⟨k0, k1⟩, inR_i64.2 (by omega), fun q2 => ⟨fits100 (by omega), fun ys hys => ?_⟩, fun q2 => ?_⟩, fun q1 => ?_⟩
    · subst hys
      have e1 : (a ++ [i]).length = a.length + 1 := by simp
      have e2 : (s ++ [i]).length = s.length + 1 := by simp
      rw [← e1, seg_self]
      have nosm : ¬ (tw.2.2.1 ≤ x.2.2 ∧ x.2.2 ≤ tw.2.1 - 1) → s = (if smallB tw l i = true then s ++ [i] else s) := fun q => by rw [hsm, decide_eq_false q]; rfl
      have rest : ¬ (tw.2.2.1 ≤ x.2.2 ∧ x.2.2 ≤ tw.2.1 - 1) → _ := fun q => go (a ++ [i]) s (n + x.2.2) (by omega) (by omega) (by omega) (by omega) (inn q1 q2 s (nosm q))
      refine ⟨inR_i64.2 (by omega), inR_i64.2 (by omega), fun q3 => ⟨fun q4 => ⟨fits100 (by omega), fun zs hzs => ?_⟩, fun q4 => ⟨inR_i64.2 (by omega), Nat.le_refl _, rest (by omega)⟩⟩, fun q3 => ⟨inR_i64.2 (by omega), Nat.le_refl _, rest (by omega)⟩⟩
      subst hzs
      rw [← e2, seg_self]
      exact ⟨inR_i64.2 (by omega), Nat.le_refl _, Nat.le_refl _, go (a ++ [i]) (s ++ [i]) (n + x.2.2) (by omega) (by omega) (by omega) (by omega) (inn q1 q2 (s ++ [i]) (by rw [hsm, decide_eq_true ⟨q3, q4⟩]; rfl))⟩
    · exact ⟨inR_i64.2 (by omega), go a s n (by omega) (by omega) n0 (by omega) (out fun z => q2 z.2)⟩
    · exact ⟨inR_i64.2 (by omega), go a s n (by omega) (by omega) n0 (by omega) (out fun z => q1 z.1)⟩
  · have e : (k + 1 - i).toNat = 0 := by omega
    exact hQ a s n (by rw [e]; simp [winF]) (by rw [e]; simp [winF]) (by rw [e]; simp [winF, sumOf])
theorem ok111L : Lp2Ok Tryz.prog 65 0 lc111 := lp2_of (n := 5) (ex := fun _ => some (sh111e, 11)) (m := fun (_, _, _, _, m, i, _) => (m - i).toNat) (good2_nilN _) fun (((w1, a, s, n, ()), rg), (tw, l, h), k, l1, m, i, ()) Q hx => by
  obtain ⟨⟨g1, g2, g3, ⟨g4, g5⟩, g6, g7, ⟨g8, g9⟩, g10, g11, g12, g13⟩, hQ⟩ := hx
  have g2 : rg = rngOf Tryz.prog 21 0 := g2
  have g3 : w1 = (tw, l, h) := g3
  have g6 : l1 = l.take (k + 1).toNat := g6
  have g7 : m = k + 1 := g7
  subst g2; subst g3; subst g6; subst g7
  exact h111L tw l h a s n k i Q g1 g4 g5 g8 g9 g10 g11 g12 g13 hQ
theorem h111F (tw : Wt) (l : List Dl) (h : Ar) (k : Int) (K : post111.den → Prop) (gw : watP (tw, l, h)) (k0 : 0 ≤ k) (k1 : k < l.length)
    (hK : ∀ (a2 s2 : List Int) (n2 : Int), a2 = allI tw l (arL 23 h) k → s2 = smallI tw l (arL 23 h) k → n2 = sumOf l (allI tw l (arL 23 h) k) → K (mkY (rngOf Tryz.prog 21 0) (tw, l, h) a2 s2 n2, (), (), ())) :
    xfn2 Tryz.prog { l2 := [(65, 0, lc111)] } 5 65 fc111 ((((tw, l, h), [], [], 0, ()), rngOf Tryz.prog 21 0), (tw, l, h), k, ()) K := by
  rw [v111F]
  have h64 : l.length ≤ 64 := gw.2.1
  have hlen : ((l.take (k + 1).toNat).length : Int) = k + 1 := by rw [List.length_take]; omega
  simp only [req_iff, decide_eq_true_eq, Nat.zero_add, Nat.le_refl, seg_self, true_and, List.drop_zero, List.length_nil, List.nil_append, Int.sub_zero, hlen]
  refine ⟨inR_i64.2 (by omega), ⟨by omega, by omega⟩, ⟨gw, ⟨k0, k1⟩, ⟨Int.le_refl (0 : Int), show (0 : Int) ≤ k + 1 by omega⟩, Int.le_refl (0 : Int), Int.le_refl (0 : Int), Int.le_refl (0 : Int), by decide⟩, fun a2 s2 n2 e1 e2 e3 => ?_⟩
  exact hK a2 s2 n2 e1 e2 (e3.trans (Int.zero_add _))
theorem ok111 : F2Ok Tryz.prog 65 fc111 := fn2_of (n := 5) ((good2_nil _).addL2 ok111L) fun (((w1, a, s, n, ()), rg), (tw, l, h), k, ()) K hx => by
  obtain ⟨⟨g1, g2, g3, ⟨g4, g5⟩, g6, g7, g8⟩, hK⟩ := hx
  have q2 : rg = rngOf Tryz.prog 21 0 := g2
  have q3 : w1 = (tw, l, h) := g3
  have q6 : a = [] := List.length_eq_zero_iff.1 g6
  have q7 : s = [] := List.length_eq_zero_iff.1 g7
  have q8 : n = 0 := g8
  subst q2; subst q3; subst q6; subst q7; subst q8
  exact h111F tw l h k K g1 g4 g5 hK
theorem ok70 : FnOk Tryz.prog 21 fcSums := fn1_of (n := 5) ((good2_nil _).addF2 ok111) fun ((tw, l, h), k, ()) K hx => by
  obtain ⟨⟨g1, g2, g3⟩, hK⟩ := hx
  show xfn1 Tryz.prog { f2 := [(65, fc111)] } 5 21 fcSums ((tw, l, h), k, ()) K
  rw [v70F]
  simp only [req_iff, decide_eq_true_eq, Nat.zero_add, Nat.le_refl, seg_self, true_and]
  exact ⟨⟨g1, ⟨g2, g3⟩, trivial⟩, fun a s n e1 e2 e3 => hK a s n e1 e2 e3⟩
theorem h69F (tw : Wt) (l : List Dl) (h : Ar) (k : Int) (K : dens [.b] → Prop) (g : watP (tw, l, h)) (k0 : 0 ≤ k) (k1 : k < l.length) (hK : ∀ b : Bool, b = repB tw l (arL 23 h) k → K (b, ())) :
    xfn1 Tryz.prog { f := [(21, fcSums)] } 5 20 fcRep ((tw, l, h), k, ()) K := by
  rw [v69F]
  refine ⟨⟨g, k0, k1⟩, fun a s n e1 e2 e3 => ?_⟩
  simp only [fork_iff, decide_eq_true_eq, decide_eq_false_iff_not, ge_iff_le]
  refine ⟨fun q => hK _ ?_, fun q => hK _ ?_⟩
  · unfold repB; rw [← e3, decide_eq_true q]; rfl
  · unfold repB; rw [← e3, ← e2, decide_eq_false q, Bool.false_or]
theorem ok69 : FnOk Tryz.prog 20 fcRep := fn1_of (n := 5) ((good2_nil _).addF ok70) fun ((tw, l, h), k, ()) K hx => h69F tw l h k K hx.1.1 hx.1.2.1 hx.1.2.2 hx.2
end Go.P8
