/- The heads as contents, Linked; watchOf: the code keeps its contracts. No conditions. -/
import Derived.Test.YtfenogdjhadcoaaGreatZatP1
import Derived.Test.YtfenogdjhadcoaaGreatZatS2
set_option linter.constructorNameAsVariable false
set_option linter.unusedVariables false
set_option linter.unusedSimpArgs false
set_option maxRecDepth 100000
set_option maxHeartbeats 4000000
namespace Go.P8
open Go.Lom Go.Proofs Go

def ofL : (n : Nat) → List Int → (arT n).den
  | 0, xs => xs.headD 0
  | n + 1, xs => (xs.headD 0, ofL n xs.tail)
theorem arL_ofL : ∀ (n : Nat) (xs : List Int), xs.length = n + 1 → arL n (ofL n xs) = xs
  | 0, [x], _ => rfl
  | n + 1, x :: xs, h => by
    show x :: arL n (ofL n xs) = _
    rw [arL_ofL n xs (by simpa using h)]
  | 0, [], h => by simp at h
  | 0, _ :: _ :: _, h => by simp at h
  | n + 1, [], h => by simp at h
theorem arL_len : ∀ (n : Nat) (h : (arT n).den), (arL n h).length = n + 1
  | 0, _ => rfl
  | n + 1, h => by show (arL n h.2).length + 1 = _; rw [arL_len n]
theorem enc_arL : ∀ (n : Nat) (h : (arT n).den), (arT n).enc h = (arL n h).flatMap I.enc
  | 0, _ => rfl
  | n + 1, h => by
    show I.enc h.1 ++ (arT n).enc h.2 = (h.1 :: arL n h.2).flatMap I.enc
    rw [enc_arL n, List.flatMap_cons]
theorem ok65h : FnOk Tryz.prog 13 fc65h := by
  rintro ⟨ls, _⟩ K ⟨g1, hK⟩ base w0 Z φ w us hH hr
  refine (ok65 (ls, ()) (fun r => HeadsOk ls r.1) ⟨g1, fun h hh => hh⟩ base w0 Z φ w us hH hr).mono fun e w' ⟨Z', φ', y, H', nx', a, b, c, d, e1, e2, r, e3, e4⟩ => ?_
  obtain ⟨h1, h2⟩ := headOf_eq e4
  have hlen : (headOf ls).length = 24 := h1.len
  have hL : arL 23 (ofL 23 (headOf ls)) = headOf ls := arL_ofL 23 _ hlen
  refine ⟨Z', φ', .ret (.agg (AR.enc (ofL 23 (headOf ls)))), H', nx', a, b, ?_, d, e1, e2, (ofL 23 (headOf ls), ()), rfl, hK _ hL h1⟩
  subst e3
  cases e with
  | returned u =>
    have c : Rep Z' φ' (.ar I r.1) u := c
    show Rep Z' φ' (.agg (AR.enc (ofL 23 (headOf ls)))) u
    have he : AR.enc (ofL 23 (headOf ls)) = (arL 23 (ofL 23 (headOf ls))).flatMap I.enc := enc_arL 23 _
    rw [he, hL, h2]
    exact c.ofAr
  | _ => exact c.elim
theorem ok50w : F2Ok Tryz.prog 14 fc50w := fn2_of (n := 5) (good2_nil _) fun (l, ()) K hx => by
  obtain ⟨g1, hK⟩ := hx
  have g1 : l.length ≤ 100 := g1
  show xfn2 Tryz.prog {} 5 14 fc50w (l, ()) K
  rw [v50W]
  simp only [fork_iff, req_iff, decide_eq_true_eq, Nat.zero_add, seg_self, Nat.le_refl, true_and, List.nil_append]
  refine fun b hb => ⟨fun h => ?_, fun h => ⟨fits100 (by omega), hK l rfl⟩⟩
  have : l = [] := List.length_eq_zero_iff.1 (hb h)
  subst this; exact hK [] rfl
theorem ok31 : FnOk Tryz.prog 4 fcLinked := fn1_of (n := 5) (((good2_nil _).addF2 ok50w).addF ok65h |>.addF ok64) fun (ls, ()) K hx => by
  obtain ⟨g1, hK⟩ := hx
  rw [v31F]
  refine ⟨g1, fun b hb => ?_⟩
  simp only [fork_iff, Bool.not_eq_true', Bool.not_eq_false', req_iff, decide_eq_true_eq]
  have hK : ∀ r e, (r, e) = linkedR ls → (linkedOk ls = true → HeadsOk ls (headOf ls)) → K (r, e, ()) := hK
  refine ⟨fun h => ?_, fun h => ⟨lks_of (hb ▸ h), fun hh e1 e2 => ⟨show 24 ≤ 100 by decide, fun r hr => ⟨by omega, ?_⟩⟩⟩⟩
  · have hf : linkedOk ls = false := by rw [← hb]; exact h
    exact hK [] 83 (by unfold linkedR; rw [hf]; rfl) (fun q => by rw [hf] at q; cases q)
  · have hr : r = arL 23 hh := hr
    rw [seg_self]
    have ht : linkedOk ls = true := by rw [← hb]; exact h
    exact hK r 0 (by unfold linkedR; rw [ht, hr, e1]; rfl) (fun _ => e2)

/-! watchOf -/
theorem dlOk_iff {last : Int} {d : Dl} : dlOk last d = true ↔ (last ≤ d.1 ∧ d.1 ≤ 36500) ∧ (0 ≤ d.2.1 ∧ d.2.1 ≤ 23) ∧ (1 ≤ d.2.2 ∧ d.2.2 ≤ 1073741824) := by
  simp only [dlOk, Bool.and_eq_true, decide_eq_true_eq, and_assoc]
theorem h66L (l0 : List Dl) (ls : List Lk) (w : Wt) (r : Wat) (e : Int) (b : Bool) (last : Int) (l : List Dl) (i : Int) (Q : AX → St → Prop) (hl : l.length ≤ big) (h0 : 0 ≤ i) (h1 : i ≤ l.length)
    (hQ : ∀ b1 : Bool, b1 = (b || !dlsOk (l.drop i.toNat) last) → Q (.exit 0) (stS 2 sh66e (l0, ls, w, r, e, b1, ()))) :
    xloop2 Tryz.prog {} 5 17 0 lc66 (fun _ => some (sh66e, 2)) (fun (_, _, _, _, _, _, _, l, _, i, _) => mL l i) (l0, ls, w, r, e, b, last, l, (l.length : Int), i, ()) Q := by
  rw [v66L]
  simp only [fork_iff, req_iff, decide_eq_true_eq, decide_eq_false_iff_not, Bool.not_eq_true', Bool.not_eq_false', ge_iff_le]
  refine ⟨fun hi => ⟨⟨h0, hi⟩, ?_⟩, fun hi => hQ b (by rw [drop_end hi]; simp [dlsOk])⟩
  rw [drop_step dl0 h0 hi] at hQ
  simp only [dlsOk] at hQ
  rw [show ((0 : Int), (0 : Int), (0 : Int)) = dl0 from rfl]
  generalize l.getD i.toNat dl0 = x at *
  have hi2 : i < 9223372036854775807 := by have : l.length ≤ 9223372036854775807 := hl; omega
  have go : ∀ b2 : Bool, (b || !(dlOk last x && dlsOk (l.drop (i + 1).toNat) x.1)) = (b2 || !dlsOk (l.drop (i + 1).toNat) x.1) → inR .i64 (i + 1) = true ∧ mL l (i + 1) < mL l i ∧ (l.length ≤ big ∧ True ∧ (0 : Int) ≤ i + 1 ∧ i + 1 ≤ (l.length : Int)) ∧ ∀ b1 : Bool, b1 = (b2 || !dlsOk (l.drop (i + 1).toNat) x.1) → Q (.exit 0) (stS 2 sh66e (l0, ls, w, r, e, b1, ())) := fun b2 hb => by
    refine ⟨inR_i64.2 (by omega), mL_lt hi, ⟨hl, trivial, show (0 : Int) ≤ i + 1 by omega, show i + 1 ≤ (l.length : Int) by omega⟩, fun b1 hb1 => hQ b1 ?_⟩
    exact Eq.trans hb1 hb.symm
  have bad : ¬ ((last ≤ x.1 ∧ x.1 ≤ 36500) ∧ (0 ≤ x.2.1 ∧ x.2.1 ≤ 23) ∧ (1 ≤ x.2.2 ∧ x.2.2 ≤ 1073741824)) → inR .i64 (i + 1) = true ∧ mL l (i + 1) < mL l i ∧ (l.length ≤ big ∧ True ∧ (0 : Int) ≤ i + 1 ∧ i + 1 ≤ (l.length : Int)) ∧ ∀ b1 : Bool, b1 = (true || !dlsOk (l.drop (i + 1).toNat) x.1) → Q (.exit 0) (stS 2 sh66e (l0, ls, w, r, e, b1, ())) := fun h => go true (by
    have : dlOk last x = false := Bool.eq_false_iff.2 fun q => h (dlOk_iff.1 q)
    rw [this]; simp)
  refine ⟨fun hb => by subst hb; exact go true (by simp), fun hb => ?_⟩
  refine ⟨fun a => ⟨fun a2 => bad (by omega), fun a2 => ⟨fun a3 => ⟨fun a4 => bad (by omega), fun a4 => ⟨fun a5 => ?_, fun a5 => ?_⟩⟩, fun a3 => bad (by omega)⟩⟩, fun a => bad (by omega)⟩
  · refine go _ ?_
    subst hb
    by_cases a6 : x.2.2 ≤ 1073741824
    · have : dlOk last x = true := dlOk_iff.2 ⟨⟨a, a2⟩, ⟨a3, a4⟩, a5, a6⟩
      rw [this, decide_eq_true a6]; simp
    · have : dlOk last x = false := Bool.eq_false_iff.2 fun q => a6 (dlOk_iff.1 q).2.2.2
      rw [this, decide_eq_false a6]; simp
  · exact bad (by omega)
theorem ok66L : Lp2Ok Tryz.prog 17 0 lc66 := lp2_of (n := 5) (ex := fun _ => some (sh66e, 2)) (m := fun (_, _, _, _, _, _, _, l, _, i, _) => mL l i) (good2_nil _) fun (l0, ls, w, r, e, b, last, l, m, i, ()) Q hx => by
  obtain ⟨⟨g1, g2, g3, g4⟩, hQ⟩ := hx
  have g2 : m = (l.length : Int) := g2
  subst g2
  exact h66L l0 ls w r e b last l i Q g1 g3 g4 hQ
theorem wtOk_iff {w : Wt} : wtOk w = true ↔ (1 ≤ w.1 ∧ w.1 ≤ 366) ∧ (1 ≤ w.2.1 ∧ w.2.1 ≤ 1073741824) ∧ (1 ≤ w.2.2.1 ∧ w.2.2.1 ≤ w.2.1) ∧ (1 ≤ w.2.2.2 ∧ w.2.2.2 ≤ 64) := by
  simp only [wtOk, Bool.and_eq_true, decide_eq_true_eq, and_assoc]
theorem h66F (l : List Dl) (ls : List Lk) (w : Wt) (K : dens [TWt, E] → Prop) (g1 : l.length ≤ big) (g2 : ls.length ≤ big) (hT : watOk l ls w = true → ∀ h : Ar, arL 23 h = headOf ls → HeadsOk ls (headOf ls) → K ((w, l, h), 0, ())) (hF : watOk l ls w = false → K (Ty.dflt TWt, 83, ())) :
    xfn1 Tryz.prog { f := [(12, fc64), (13, fc65h)], l2 := [(17, 0, lc66)] } 5 17 fcWatch (l, ls, w, ()) K := by
  rw [v66F]
  refine ⟨g2, fun b hb => ?_⟩
  simp only [fork_iff, Bool.not_eq_true', Bool.not_eq_false', req_iff, decide_eq_true_eq, decide_eq_false_iff_not, ge_iff_le, Bool.true_or, List.drop_zero, true_and]
  have h0l : (0 : Int) ≤ (l.length : Int) := by omega
  have wnot : linkedOk ls = true → ¬ ((1 ≤ w.1 ∧ w.1 ≤ 366) ∧ (1 ≤ w.2.1 ∧ w.2.1 ≤ 1073741824) ∧ (1 ≤ w.2.2.1 ∧ w.2.2.1 ≤ w.2.1) ∧ (1 ≤ w.2.2.2 ∧ w.2.2.2 ≤ 64)) → K (Ty.dflt TWt, 83, ()) := fun _ h => hF (by
    have : wtOk w = false := Bool.eq_false_iff.2 fun q => h (wtOk_iff.1 q)
    unfold watOk; rw [this, Bool.and_false])
  refine ⟨fun h => ⟨⟨g1, Int.le_refl (0 : Int), h0l⟩, fun b1 hb1 => ⟨fun _ => hF ?_, fun q => by rw [hb1] at q; cases q⟩⟩, fun h => ⟨⟨g1, Int.le_refl (0 : Int), h0l⟩, fun b1 hb1 => ⟨fun q => hF ?_, fun q => ?_⟩⟩⟩
  · unfold watOk; rw [← hb, h]; rfl
  · rw [q] at hb1
    have hb1 := hb1.symm
    simp only [Bool.or_eq_true, decide_eq_true_eq, Bool.not_eq_true'] at hb1
    unfold watOk
    rcases hb1 with hb1 | hb1
    · rw [decide_eq_false (show ¬ l.length ≤ 64 by omega)]; simp
    · rw [hb1]; simp
  · rw [q] at hb1
    have hb1 := hb1.symm
    simp only [Bool.or_eq_false_iff, decide_eq_false_iff_not, Bool.not_eq_false'] at hb1
    obtain ⟨hb1, hb2⟩ := hb1
    have hlk : linkedOk ls = true := by rw [← hb]; exact h
    refine ⟨fun a => ⟨fun a2 => wnot hlk (by omega), fun a2 => ⟨fun b1 => ⟨fun b2 => wnot hlk (by omega), fun b2 => ⟨fun c1 => ⟨fun c2 => wnot hlk (by omega), fun c2 => ⟨fun d1 => ⟨fun d2 => wnot hlk (by omega), fun d2 => ⟨lks_of hlk, fun hh e1 e2 => ?_⟩⟩, fun d1 => wnot hlk (by omega)⟩⟩, fun c1 => wnot hlk (by omega)⟩⟩, fun b1 => wnot hlk (by omega)⟩⟩, fun a => wnot hlk (by omega)⟩
    refine hT ?_ hh e1 e2
    unfold watOk
    rw [hlk, decide_eq_true (show l.length ≤ 64 by omega), hb2, wtOk_iff.2 ⟨⟨a, a2⟩, ⟨b1, b2⟩, ⟨c1, c2⟩, d1, d2⟩]; rfl
theorem ok66 : FnOk Tryz.prog 17 fcWatch := fn1_of (n := 5) ((((good2_nil _).addL2 ok66L).addF ok65h).addF ok64) fun (l, ls, w, ()) K hx => h66F l ls w K hx.1.1 hx.1.2 hx.2.1 hx.2.2
end Go.P8
