/- Rolls: a call of the statements, by the program: the code keeps its contract. No conditions. -/
import Derived.Test.YtcpdcpfbgmiaoaaDoorRollG
import Derived.Test.YtcpdcpfbgmiaoaaDoorRollQ
set_option linter.all false
set_option maxRecDepth 100000
set_option maxHeartbeats 2000000
namespace Go.P3
open Go.Lom Go.Proofs Go
section
variable {s r : RS} {c c' p : Tx} {h h' g : List Int} {ps ps' cs : List Tx} {eds eds' : List (List Int)} {d e : Int} {pl : Tx}
theorem issue_no (he : (issueI s p g d).2.2 ≠ 0) : (issueI s p g d).2.1 = [] := by
 revert he; unfold issueI; repeat' split
 all_goals (intro he; first | rfl | exact absurd rfl he)
theorem replace_no (he : (replaceI s c g d).2.2 ≠ 0) : (replaceI s c g d).2.1 = [] := by
 revert he; unfold replaceI; repeat' split
 all_goals (intro he; first | rfl | exact absurd rfl he)
theorem call1 (hd : (r, cs, pl, e) = doC 1 s c' h' [p] [g] d) (hg : g = eds.getD 0 []) : callI s (1, d, c, p, h, ps, eds) = (r, [cs.getD 0 []], [], e) := by
 unfold doC at hd
 rw [if_pos rfl] at hd
 simp only [Prod.mk.injEq] at hd
 obtain ⟨h1, h2, h3, h4⟩ := hd
 have ec : callI s (1, d, c, p, h, ps, eds) = ((issueI s p (eds.getD 0 []) d).1, [(issueI s p (eds.getD 0 []) d).2.1], [], (issueI s p (eds.getD 0 []) d).2.2) := rfl
 rw [ec, <- hg, h1, h4, h2]
 have e0 : ([p] : List Tx).getD 0 [] = p := rfl
 have e1 : ([g] : List (List Int)).getD 0 [] = g := rfl
 rw [e0, e1]
 by_cases hz : (issueI s p g d).2.2 = 0
 ·rw [if_pos hz]; rfl
 ·rw [if_neg hz, issue_no hz]; rfl
theorem call2 (hd : (r, cs, pl, e) = doC 2 s c h' ps' eds' d) : callI s (2, d, c, p, h, ps, eds) = (r, [[]], [], e) := by
 unfold doC at hd; rw [if_neg (by decide), if_pos rfl] at hd; simp only [Prod.mk.injEq] at hd; obtain ⟨rfl, rfl, rfl, rfl⟩ := hd; rfl
theorem call3 (hd : (r, cs, pl, e) = doC 3 s c h ps' eds' d) : callI s (3, d, c, p, h, ps, eds) = (r, [[]], [], e) := by
 unfold doC at hd; rw [if_neg (by decide), if_neg (by decide), if_pos rfl] at hd; simp only [Prod.mk.injEq] at hd; obtain ⟨rfl, rfl, rfl, rfl⟩ := hd; rfl
theorem call4 (hd : (r, cs, pl, e) = doC 4 s c h' ps' [g] d) (hg : g = eds.getD 0 []) : callI s (4, d, c, p, h, ps, eds) = (r, [cs.getD 0 []], [], e) := by
 unfold doC at hd
 rw [if_neg (by decide), if_neg (by decide), if_neg (by decide), if_pos rfl] at hd
 simp only [Prod.mk.injEq] at hd
 obtain ⟨h1, h2, h3, h4⟩ := hd
 have ec : callI s (4, d, c, p, h, ps, eds) = ((replaceI s c (eds.getD 0 []) d).1, [(replaceI s c (eds.getD 0 []) d).2.1], [], (replaceI s c (eds.getD 0 []) d).2.2) := rfl
 rw [ec, <- hg, h1, h4, h2]
 have e1 : ([g] : List (List Int)).getD 0 [] = g := rfl
 rw [e1]
 by_cases hz : (replaceI s c g d).2.2 = 0
 ·rw [if_pos hz]; rfl
 ·rw [if_neg hz, replace_no hz]; rfl
theorem call5 (hd : (r, cs, pl, e) = doC 5 s c h ps eds d) : callI s (5, d, c, p, h, ps, eds) = (r, cs, [], e) := by
 unfold doC at hd; rw [if_neg (by decide), if_neg (by decide), if_neg (by decide), if_neg (by decide), if_pos rfl] at hd; simp only [Prod.mk.injEq] at hd; obtain ⟨rfl, rfl, rfl, rfl⟩ := hd; rfl
theorem call6 (hd : (r, cs, pl, e) = doC 6 s c h ps' eds' d) : callI s (6, d, c, p, h, ps, eds) = (r, [pl], [], e) := by
 unfold doC at hd; rw [if_neg (by decide), if_neg (by decide), if_neg (by decide), if_neg (by decide), if_neg (by decide), if_pos rfl] at hd; simp only [Prod.mk.injEq] at hd; obtain ⟨rfl, rfl, rfl, rfl⟩ := hd; rfl
theorem call7 (hd : (r, cs, pl, e) = doC 7 s c h' ps' eds' d) : callI s (7, d, c, p, h, ps, eds) = (r, [pl], [], e) := by
 unfold doC at hd; rw [if_neg (by decide), if_neg (by decide), if_neg (by decide), if_neg (by decide), if_neg (by decide), if_neg (by decide)] at hd; simp only [Prod.mk.injEq] at hd; obtain ⟨rfl, rfl, rfl, rfl⟩ := hd; rfl
theorem call8 {k : Int} (hk : k = 8) {x : Tx} (hl : (x, e) = liveI s p) : callI s (k, d, c, p, h, ps, eds) = (s, [x], [], e) := by
 subst hk
 have : callI s (8, d, c, p, h, ps, eds) = (s, [(liveI s p).1], [], (liveI s p).2) := rfl
 rw [this, <- hl]
theorem call9 {k : Int} (h1 : k ≠ 1) (h2 : k ≠ 2) (h3 : k ≠ 3) (h4 : k ≠ 4) (h5 : k ≠ 5) (h6 : k ≠ 6) (h7 : k ≠ 7) (h8 : k ≠ 8) {x : List Int} (hl : (x, e) = lineI s c) : callI s (k, d, c, p, h, ps, eds) = (s, [], x, e) := by
 unfold callI
 simp only
 rw [if_neg h1, if_neg h2, if_neg h3, if_neg h4, if_neg h5, if_neg h6, if_neg h7, if_neg h8, <- hl]
end
theorem getD_nil {α : Type} {l : List α} {d : α} (h : l.length = 0) : d = l.getD 0 d := by rw [List.eq_nil_of_length_eq_zero h]; rfl
theorem ok31 : F2Ok Tryd.prog 31 fcCall := fn2_of (n := 8) (T := { nm := true, f2 := [(86, fcDo), (48, fcLive), (44, fcLine)] }) ((((good2_nilN _).addF2 ok44).addF2 ok48).addF2 ok86) fun ((w, d0, ts, es, rdy, ()), (k, d, c, p, h, ps, eds), ()) K hx => by
 obtain ⟨⟨h1, h2, h3, h4⟩, hK⟩ := hx
 have h2 : rdy = true := h2
 subst h2
 have h1 : okR (w, d0, ts, es) := h1
 have q1 : p.length <= big := h4.pledge
 have q2 : ps.length <= big /\ ∀ p ∈ ps, p.length <= big := h4.names
 have q3 : eds.length <= big := h4.edges
 have hK : ∀ (w1 d1 : Int) (ts1 : List Tk) (es1 : List Ev) (tx : List Tx) (l : List Int) (e : Int), callI (w, d0, ts, es) (k, d, c, p, h, ps, eds) = ((w1, d1, ts1, es1), tx, l, e) -> K ((w1, d1, ts1, es1, true, ()), (), tx, l, e, ()) := fun w1 d1 ts1 es1 tx l e hc => hK w1 d1 ts1 es1 tx l e hc.symm
 have pre : ∀ (k' : Int) (h' : List Int) (ps' : List Tx) (eds' : List (List Int)), 1 <= k' /\ k' <= 7 -> (ps'.length <= big /\ ∀ p ∈ ps', p.length <= big) -> eds'.length <= big -> (k' = 1 -> 1 <= ps'.length) -> ((k' = 1 \/ k' = 4) -> 1 <= eds'.length) -> preD w d0 ts es true k' h' ps' eds' [] [] := fun k' h' ps' eds' a b c' d' e' =>
  ⟨h1, rfl, h3, rfl, rfl, b, c', a, d', e'⟩
 have one : ∀ q ∈ [p], q.length <= big := fun q hq => by rw [List.mem_singleton.1 hq]; exact q1
 have b1 : (1 : Nat) <= big := by decide
 have b0 : (0 : Nat) <= big := by decide
 have none : ∀ q ∈ ([] : List Tx), q.length <= big := fun q hq => by cases hq
 show xfn2 Tryd.prog { nm := true, f2 := [(86, fcDo), (48, fcLive), (44, fcLine)] } 8 31 fcCall ((w, d0, ts, es, true, ()), (k, d, c, p, h, ps, eds), ()) K
 rw [v31F]
 simp only [fork_iff, req_iff, decide_eq_true_eq, decide_eq_false_iff_not, beq_iff_eq, beq_eq_false_iff_ne, ne_eq, Nat.zero_add, seg_self, Nat.le_refl, true_and]
 refine ⟨fun k1 => ?_, fun k1 => ⟨fun k2 => ?_, fun k2 => ⟨fun k3 => ?_, fun k3 => ⟨fun k4 => ?_, fun k4 => ⟨fun k5 => ?_, fun k5 => ⟨fun k6 => ?_, fun k6 => ⟨fun k7 => ?_, fun k7 => ⟨fun k8 => ?_, fun k8 => ?_⟩⟩⟩⟩⟩⟩⟩⟩
 ·subst k1
  refine ⟨fun e0 => ⟨pre _ _ _ _ (by decide) ⟨b1, one⟩ b1 (fun _ => Nat.le_refl _) (fun _ => Nat.le_refl _), fun w1 d1 ts1 es1 c1 h1 ps1 eds1 dd1 cs1 pl1 e hd => ?_⟩, fun e0 => ⟨⟨Int.le_refl 0, by omega⟩, pre _ _ _ _ (by decide) ⟨b1, one⟩ b1 (fun _ => Nat.le_refl _) (fun _ => Nat.le_refl _), fun w1 d1 ts1 es1 c1 h1 ps1 eds1 dd1 cs1 pl1 e hd => ?_⟩⟩
  ·have hc := call1 (c := c) (h := h) (ps := ps) (eds := eds) hd (getD_nil (by omega))
   exact ⟨fun hz => hK _ _ _ _ _ _ _ (by rw [hc, <- getD_nil (l := cs1) (d := []) (by omega)]), fun hz => ⟨⟨Int.le_refl 0, by omega⟩, by omega, hK _ _ _ _ _ _ _ hc⟩⟩
  ·have hc := call1 (c := c) (h := h) (ps := ps) (eds := eds) hd rfl
   exact ⟨fun hz => hK _ _ _ _ _ _ _ (by rw [hc, <- getD_nil (l := cs1) (d := []) (by omega)]), fun hz => ⟨⟨Int.le_refl 0, by omega⟩, by omega, hK _ _ _ _ _ _ _ hc⟩⟩
 ·subst k2
  exact ⟨pre _ _ _ _ (by decide) ⟨b0, none⟩ b0 (fun h => by cases h) (fun h => by rcases h with h | h <;> cases h), fun w1 d1 ts1 es1 c1 h1 ps1 eds1 dd1 cs1 pl1 e hd => hK _ _ _ _ _ _ _ (call2 hd)⟩
 ·subst k3
  exact ⟨pre _ _ _ _ (by decide) ⟨b0, none⟩ b0 (fun h => by cases h) (fun h => by rcases h with h | h <;> cases h), fun w1 d1 ts1 es1 c1 h1 ps1 eds1 dd1 cs1 pl1 e hd => hK _ _ _ _ _ _ _ (call3 hd)⟩
 ·subst k4
  refine ⟨fun e0 => ⟨pre _ _ _ _ (by decide) ⟨b0, none⟩ b1 (fun h => by cases h) (fun _ => Nat.le_refl _), fun w1 d1 ts1 es1 c1 h1 ps1 eds1 dd1 cs1 pl1 e hd => ?_⟩, fun e0 => ⟨⟨Int.le_refl 0, by omega⟩, pre _ _ _ _ (by decide) ⟨b0, none⟩ b1 (fun h => by cases h) (fun _ => Nat.le_refl _), fun w1 d1 ts1 es1 c1 h1 ps1 eds1 dd1 cs1 pl1 e hd => ?_⟩⟩
  ·have hc := call4 (p := p) (h := h) (ps := ps) (eds := eds) hd (getD_nil (by omega))
   exact ⟨fun hz => hK _ _ _ _ _ _ _ (by rw [hc, <- getD_nil (l := cs1) (d := []) (by omega)]), fun hz => ⟨⟨Int.le_refl 0, by omega⟩, by omega, hK _ _ _ _ _ _ _ hc⟩⟩
  ·have hc := call4 (p := p) (h := h) (ps := ps) (eds := eds) hd rfl
   exact ⟨fun hz => hK _ _ _ _ _ _ _ (by rw [hc, <- getD_nil (l := cs1) (d := []) (by omega)]), fun hz => ⟨⟨Int.le_refl 0, by omega⟩, by omega, hK _ _ _ _ _ _ _ hc⟩⟩
 ·subst k5
  exact ⟨pre _ _ _ _ (by decide) q2 q3 (fun h => by cases h) (fun h => by rcases h with h | h <;> cases h), fun w1 d1 ts1 es1 c1 h1 ps1 eds1 dd1 cs1 pl1 e hd => hK _ _ _ _ _ _ _ (call5 hd)⟩
 ·subst k6
  exact ⟨pre _ _ _ _ (by decide) ⟨b0, none⟩ b0 (fun h => by cases h) (fun h => by rcases h with h | h <;> cases h), fun w1 d1 ts1 es1 c1 h1 ps1 eds1 dd1 cs1 pl1 e hd => hK _ _ _ _ _ _ _ (call6 hd)⟩
 ·subst k7
  exact ⟨pre _ _ _ _ (by decide) ⟨b0, none⟩ b0 (fun h => by cases h) (fun h => by rcases h with h | h <;> cases h), fun w1 d1 ts1 es1 c1 h1 ps1 eds1 dd1 cs1 pl1 e hd => hK _ _ _ _ _ _ _ (call7 hd)⟩
 ·exact ⟨⟨h1, trivial⟩, fun x e hl => hK _ _ _ _ _ _ _ (call8 k8 hl)⟩
 ·exact ⟨⟨h1, trivial⟩, fun x e hl => hK _ _ _ _ _ _ _ (call9 k1 k2 k3 k4 k5 k6 k7 k8 hl)⟩
end Go.P3
