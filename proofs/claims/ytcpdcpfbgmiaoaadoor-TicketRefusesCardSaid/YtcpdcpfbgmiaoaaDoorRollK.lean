/- TicketHalves: the code keeps its contract. No conditions. -/
import Derived.Test.YtcpdcpfbgmiaoaaDoorRollJ
import Derived.Test.YtcpdcpfbgmiaoaaDoorRollH
import Derived.Test.YtcpdcpfbgmiaoaaDoorRollM
set_option linter.constructorNameAsVariable false
set_option linter.unusedVariables false
set_option linter.unusedSimpArgs false
set_option maxRecDepth 100000
set_option maxHeartbeats 4000000
namespace Go.P3
open Go.Lom Go.Proofs Go

theorem fits_E {t : Tk} {h : List Int} (he : inB 0 t.2.2.2.1 = true) : fitsE t h = (fitE t.2.2.2.1 h).2 := by
  unfold fitsE fitE
  rw [he, Bool.true_and]
  cases h1 : inB (-1) h with
  | false => rw [if_pos rfl, if_neg (by decide)]
  | true =>
    rw [if_neg (by decide), if_pos rfl]
    cases h2 : (fitI t.2.2.2.1 h).2 with
    | false => rw [if_pos rfl, if_neg (by decide)]
    | true => rw [if_neg (by decide), if_pos rfl]
/-- A call that is done, but for a new ticket. -/
theorem call_done {s : RS} (h : okR s) {k d : Int} {c p : Tx} {g : List Int} {ps : List Tx} {eds : List (List Int)} (hk : 2 ≤ k ∧ k ≤ 7) (he : (callI s (k, d, c, p, g, ps, eds)).2.2.2 = 0) :
    bringE s c d = 0 ∧ (k = 3 ∨ k = 5 ∨ k = 6 → fitsE (tkI s.2.2.1 (numberI c).1) g = 0) ∧ ((k = 3 ∨ k = 4) ↔ stI s c = 2) ∧ (k = 4 → s.1 ≤ d - (tkI s.2.2.1 (numberI c).1).2.2.2.2.1) := by
  have hb : bringE s c d = 0 := by
    rcases kind7' k (by omega) hk.2 with rfl | rfl | rfl | rfl | rfl | rfl | rfl
    · omega
    · have he : (blockI s c d).2 = 0 := he
      unfold blockI at he; split at he
      · exact absurd he (by assumption)
      · exact Decidable.not_not.1 (by assumption)
    · have he : (freeI s c g d).2 = 0 := he
      unfold freeI at he; split at he
      · exact absurd he (by assumption)
      · exact Decidable.not_not.1 (by assumption)
    · have he : (replaceI s c (edgeI (4, d, c, p, g, ps, eds)) d).2.2 = 0 := he
      unfold replaceI at he; split at he
      · exact absurd he (by assumption)
      · exact Decidable.not_not.1 (by assumption)
    · have he : (divideI s c g ps eds d).2.2 = 0 := he
      unfold divideI at he; split at he
      · exact absurd he (by assumption)
      · exact Decidable.not_not.1 (by assumption)
    · have he : (redeemI s c g d).2.2 = 0 := he
      unfold redeemI at he; split at he
      · exact absurd he (by assumption)
      · exact Decidable.not_not.1 (by assumption)
    · have he : (forfeitI s c d).2.2 = 0 := he
      unfold forfeitI at he; split at he
      · exact absurd he (by assumption)
      · exact Decidable.not_not.1 (by assumption)
  refine ⟨hb, ?_⟩
  rcases kind7' k (by omega) hk.2 with rfl | rfl | rfl | rfl | rfl | rfl | rfl
  · omega
  · have he : (blockI s c d).2 = 0 := he
    unfold blockI at he; rw [if_neg (by rw [hb]; decide)] at he; split at he
    · cases he
    · exact ⟨by omega, by omega, by omega⟩
  · have he : (freeI s c g d).2 = 0 := he
    unfold freeI at he; rw [if_neg (by rw [hb]; decide)] at he; split at he
    · cases he
    rename_i h1
    split at he
    · exact absurd he (by assumption)
    · exact ⟨fun _ => Decidable.not_not.1 (by assumption), by omega, by omega⟩
  · have he : (replaceI s c (edgeI (4, d, c, p, g, ps, eds)) d).2.2 = 0 := he
    unfold replaceI at he; rw [if_neg (by rw [hb]; decide)] at he; split at he
    · cases he
    rename_i h1
    have h1 := Decidable.not_not.1 h1
    exact ⟨by omega, ⟨fun _ => h1.1, fun _ => by omega⟩, fun _ => h1.2⟩
  · have he : (divideI s c g ps eds d).2.2 = 0 := he
    unfold divideI at he; rw [if_neg (by rw [hb]; decide)] at he; split at he
    · cases he
    split at he
    · exact absurd he (by assumption)
    · exact ⟨fun _ => Decidable.not_not.1 (by assumption), by omega, by omega⟩
  · have he : (redeemI s c g d).2.2 = 0 := he
    unfold redeemI at he; rw [if_neg (by rw [hb]; decide)] at he; split at he
    · cases he
    split at he
    · exact absurd he (by assumption)
    · exact ⟨fun _ => Decidable.not_not.1 (by assumption), by omega, by omega⟩
  · have he : (forfeitI s c d).2.2 = 0 := he
    unfold forfeitI at he; rw [if_neg (by rw [hb]; decide)] at he; split at he
    · cases he
    · exact ⟨by omega, by omega, by omega⟩
abbrev C0 : Cl := (0, 0, [], [], [], [], [])
theorem getC_mem {α : Type} {l : List α} {d : α} {i : Nat} (h : i < l.length) : l.getD i d ∈ l := by
  rw [List.getD_eq_getElem?_getD, List.getElem?_eq_getElem h]; exact List.getElem_mem _
theorem h7L (wt d0 : Int) (ts : List Tk) (es : List Ev) (l : List Cl) (i : Int) (Q : AX → St → Prop)
    (hok : okR (wt, d0, ts, es)) (hl : okLs l) (h0 : 0 ≤ i) (h1 : i ≤ 60) (h2 : (es.length : Int) ≤ i) (hQ : Q (.exit 0) (stS 0 .nil ())) :
    xloop2 Tryd.prog { f2 := [(30, fcTix), (31, fcCall)], f := [(16, fcNumX), (22, fcFitN), (28, fcFrom)] } 5 7 0 lc7 ex7 (fun (_, _, _, i, _) => (60 - i).toNat) (wt, l, (wt, d0, ts, es, true, ()), i, ()) Q := by
  rw [v7L]
  have hm := num_mem hok
  have hlen := hok.len
  simp only at hm hlen
  simp only [fork_iff, req_iff, decide_eq_true_eq, decide_eq_false_iff_not, beq_iff_eq, beq_eq_false_iff_ne, bne_iff_ne, bne_eq_false_iff_eq, ne_eq, Nat.zero_add, seg_self, Nat.le_refl, true_and, Bool.not_eq_true', Bool.not_eq_false', Bool.true_beq, Bool.false_beq, Bool.not_not, Decidable.not_not]
  refine ⟨fun hi => ⟨fun h60 => ⟨⟨h0, hi⟩, ⟨hlen, fun t ht => Nat.le_trans (hm t ht).2 (by decide)⟩, fun tl htl r e hre => ?_⟩, fun _ => hQ⟩, fun _ => hQ⟩
  have hc : l.getD i.toNat C0 ∈ l := getC_mem (by omega)
  have hcl := hl.all _ hc
  rw [show (0, 0, [], [], [], [], []) = C0 from rfl]
  generalize l.getD i.toNat C0 = cl at *
  refine ⟨⟨hok, fits100 (by omega), hcl⟩, fun w1 d1 ts1 es1 tx l2 e1 hcall => ?_⟩
  obtain ⟨k, d, c, p, g, ps, eds⟩ := cl
  obtain ⟨g1, g2, g3⟩ := call_ok hok (k, d, c, p, g, ps, eds)
  rw [← hcall] at g1 g2 g3
  have hok1 : okR (w1, d1, ts1, es1) := g1
  have hw1 : wt = w1 := g2.symm
  have hes1 : (es1.length : Int) ≤ i + 1 := by have : es1.length ≤ es.length + 1 := g3; omega
  have hdone := fun (hk : 2 ≤ k ∧ k ≤ 7) (he : e1 = 0) => call_done (p := p) (ps := ps) (eds := eds) hok hk (by rw [← hcall]; exact he)
  have hre' : numberI c = (r, e) := hre.symm
  subst htl
  have hf : (2 ≤ k ∧ k ≤ 7) → e1 = 0 → (e = 0 ∧ 1 ≤ r ∧ r ≤ (tl.length : Int)) ∧ (k = 3 ∨ k = 5 ∨ k = 6 → (fitE (tkI tl r).2.2.2.1 g).2 = 0) ∧ ((k = 3 ∨ k = 4) ↔ (tkI tl r).2.2.1 = 2) ∧ ((tkI tl r).2.2.1 = 1 ∨ (tkI tl r).2.2.1 = 2) ∧ (k = 4 → wt ≤ d - (tkI tl r).2.2.2.2.1) ∧ (0 ≤ d ∧ d ≤ 36500) := fun hk he => by
    obtain ⟨a1, a2, a3, a4⟩ := hdone hk he
    obtain ⟨b1, b2, b3, b4, b5⟩ := bring_ok a1
    unfold stI at a3
    rw [hre'] at a2 a3 a4 b2 b3 b4 b5
    refine ⟨⟨b2, b3, b4⟩, fun hk => ?_, a3, liveB_iff.1 b5, a4, ⟨b1.1, b1.2.1⟩⟩
    rw [← fits_E (roll_tk hok b3 b4).edge]; exact a2 hk
  have hsi : 1 ≤ r → r ≤ (tl.length : Int) → 0 ≤ (tkI tl r).2.2.2.2.1 ∧ (tkI tl r).2.2.2.2.1 ≤ 36500 := fun a b => (roll_tk hok a b).since
  have hin : (1 ≤ r ∧ r ≤ (tl.length : Int)) → (2 ≤ k ∧ k ≤ 7) → e1 = 0 → inR .i64 (d - (tkI tl r).2.2.2.2.1) = true := fun a b c' => inR_i64.2 (by have h1 := hsi a.1 a.2; have h2 := (hf b c').2.2.2.2.2; omega)
  have hmm : ((60 : Int) - (i + 1)).toNat < ((60 : Int) - i).toNat := by omega
  have go : inR .i64 (i + 1) = true := inR_i64.2 (by omega)
  have i1 : (0 : Int) ≤ i + 1 := by omega
  have i2 : i + 1 ≤ (60 : Int) := by omega
  have hwt := hok.wait
  simp only at hwt
  simp only [show tl.getD (r - 1).toNat (0, [], 0, [], 0, 0) = tkI tl r from rfl]
  generalize tkI tl r = t at *
  generalize hfe : fitE t.2.2.2.1 g = fe at *
  obtain ⟨n9, e9⟩ := fe
  obtain ⟨x1, x2, x3, x4, x5, x6⟩ := t
  dsimp only at hf hsi hin ⊢
  repeat' (first
    | refine And.intro ?_ ?_
    | (intro n e2 hne; obtain ⟨rfl, rfl⟩ := Prod.mk.inj hne)
    | intro _
    | exact go
    | exact hmm
    | exact hok1
    | exact hw1
    | exact hl
    | exact i1
    | exact i2
    | exact hes1
    | exact hQ
    | (exfalso; omega)
    | (exfalso; refine absurd ?_ (by assumption : ¬ ((k == 4) = (x3 == 2))); rw [Bool.eq_iff_iff, beq_iff_eq, beq_iff_eq]; omega)
    | omega
    | exact hin (by omega) (by omega) (by omega)
    | exact inR_i64.2 (by omega))
theorem okFitN : FnOk Tryd.prog 22 fcFitN := fun x K hx => ok22 x K (hx _ _ rfl)
theorem ok7L : Lp2Ok Tryd.prog 7 0 lc7 := lp2_of (n := 5) (ex := ex7) (m := fun (_, _, _, i, _) => (60 - i).toNat) ((((((good2_nil _).addF ok28).addF okFitN).addF okNumX).addF2 ok31).addF2 ok30) fun (wt, l, (w, d0, ts, es, b, ()), i, ()) Q hx => by
  obtain ⟨⟨g1, g2, g3, g4, g5, g6, g7⟩, hQ⟩ := hx
  have g2 : b = true := g2
  have g3 : wt = w := g3
  subst g2 g3
  exact h7L wt d0 ts es l i Q g1 g4 g5 g6 g7 hQ
theorem new_ok {wt : Int} (h : 0 ≤ wt ∧ wt ≤ 1000) : okR (wt, 0, [], []) := ⟨h, ⟨Int.le_refl 0, (by decide : (0 : Int) ≤ 36500)⟩, (by decide : 0 ≤ 256), fun i t ht => by simp at ht⟩
theorem okHalves (hw : FnOk Tryd.prog 21 fcWorks) : FnOk Tryd.prog 7 fcLawC := fn1_of (n := 5) ((((good2_nil _).addF hw).addF ok49).addL2 ok7L) fun (wt, l, ()) K hx => by
  obtain ⟨hl, hK⟩ := hx
  show xfn1 Tryd.prog { l2 := [(7, 0, lc7)], f := [(49, fcWith), (21, fcWorks)] } 5 7 fcLawC (wt, l, ()) K
  rw [v7F]
  simp only [fork_iff, Bool.not_eq_true', Bool.not_eq_false', decide_eq_true_eq, decide_eq_false_iff_not, true_and]
  exact ⟨fun _ => hK, fun h => ⟨⟨new_ok h, hl, Int.le_refl (0 : Int), show (0 : Int) ≤ 60 by decide, Int.le_refl 0⟩, hK⟩⟩
end Go.P3
