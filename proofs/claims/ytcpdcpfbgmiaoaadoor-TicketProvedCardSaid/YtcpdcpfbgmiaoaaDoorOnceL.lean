import Derived.Test.YtcpdcpfbgmiaoaaDoorRefA
import Derived.Test.YtcpdcpfbgmiaoaaDoorRollH
import Derived.Test.YtcpdcpfbgmiaoaaDoorRollM
import Derived.Test.YtcpdcpfbgmiaoaaDoorOnceS
set_option linter.all false
/- TicketHalves: the code keeps its contract. No conditions. -/
set_option maxRecDepth 100000
set_option maxHeartbeats 4000000
namespace Go.P3
open Go.Lom Go.Proofs Go
theorem call_done {s : RS} (h : okR s) {k d : Int} {c p : Tx} {g : List Int} {ps : List Tx} {eds : List (List Int)} (hk : 2 <= k /\ k <= 7) (he : (callI s (k, d, c, p, g, ps, eds)).2.2.2 = 0) :
  bringE s c d = 0 /\ (k = 3 \/ k = 5 \/ k = 6 -> fitsE (tkI s.2.2.1 (numberI c).1) g = 0) /\ ((k = 3 \/ k = 4) ↔ stI s c = 2) /\ (k = 4 -> s.1 <= d - (tkI s.2.2.1 (numberI c).1).2.2.2.2.1) := by
 have hb : bringE s c d = 0 := by
  rcases kind7' k (by omega) hk.2 with rfl | rfl | rfl | rfl | rfl | rfl | rfl
  ·omega
  ·have he : (blockI s c d).2 = 0 := he
   unfold blockI at he; split at he
   ·exact absurd he (by assumption)
   ·exact Decidable.not_not.1 (by assumption)
  ·have he : (freeI s c g d).2 = 0 := he
   unfold freeI at he; split at he
   ·exact absurd he (by assumption)
   ·exact Decidable.not_not.1 (by assumption)
  ·have he : (replaceI s c (edgeI (4, d, c, p, g, ps, eds)) d).2.2 = 0 := he
   unfold replaceI at he; split at he
   ·exact absurd he (by assumption)
   ·exact Decidable.not_not.1 (by assumption)
  ·have he : (divideI s c g ps eds d).2.2 = 0 := he
   unfold divideI at he; split at he
   ·exact absurd he (by assumption)
   ·exact Decidable.not_not.1 (by assumption)
  ·have he : (redeemI s c g d).2.2 = 0 := he
   unfold redeemI at he; split at he
   ·exact absurd he (by assumption)
   ·exact Decidable.not_not.1 (by assumption)
  ·have he : (forfeitI s c d).2.2 = 0 := he
   unfold forfeitI at he; split at he
   ·exact absurd he (by assumption)
   ·exact Decidable.not_not.1 (by assumption)
 refine ⟨hb, ?_⟩
 rcases kind7' k (by omega) hk.2 with rfl | rfl | rfl | rfl | rfl | rfl | rfl
 ·omega
 ·have he : (blockI s c d).2 = 0 := he
  unfold blockI at he; rw [if_neg (by rw [hb]; decide)] at he; split at he
  ·cases he
  ·exact ⟨by omega, by omega, by omega⟩
 ·have he : (freeI s c g d).2 = 0 := he
  unfold freeI at he; rw [if_neg (by rw [hb]; decide)] at he; split at he
  ·cases he
  rename_i h1
  split at he
  ·exact absurd he (by assumption)
  ·exact ⟨fun _ => Decidable.not_not.1 (by assumption), by omega, by omega⟩
 ·have he : (replaceI s c (edgeI (4, d, c, p, g, ps, eds)) d).2.2 = 0 := he
  unfold replaceI at he; rw [if_neg (by rw [hb]; decide)] at he; split at he
  ·cases he
  rename_i h1
  have h1 := Decidable.not_not.1 h1
  exact ⟨by omega, ⟨fun _ => h1.1, fun _ => by omega⟩, fun _ => h1.2⟩
 ·have he : (divideI s c g ps eds d).2.2 = 0 := he
  unfold divideI at he; rw [if_neg (by rw [hb]; decide)] at he; split at he
  ·cases he
  split at he
  ·exact absurd he (by assumption)
  ·exact ⟨fun _ => Decidable.not_not.1 (by assumption), by omega, by omega⟩
 ·have he : (redeemI s c g d).2.2 = 0 := he
  unfold redeemI at he; rw [if_neg (by rw [hb]; decide)] at he; split at he
  ·cases he
  split at he
  ·exact absurd he (by assumption)
  ·exact ⟨fun _ => Decidable.not_not.1 (by assumption), by omega, by omega⟩
 ·have he : (forfeitI s c d).2.2 = 0 := he
  unfold forfeitI at he; rw [if_neg (by rw [hb]; decide)] at he; split at he
  ·cases he
  ·exact ⟨by omega, by omega, by omega⟩
abbrev C0 : Cl := (0, 0, [], [], [], [], [])
theorem getC_mem {α : Type} {l : List α} {d : α} {i : Nat} (h : i < l.length) : l.getD i d ∈ l := by
 rw [List.getD_eq_getElem?_getD, List.getElem?_eq_getElem h]; exact List.getElem_mem _
theorem new_ok {wt : Int} (h : 0 <= wt /\ wt <= 1000) : okR (wt, 0, [], []) := ⟨h, ⟨Int.le_refl 0, (by decide : (0 : Int) <= 36500)⟩, (by decide : 0 <= 256), fun i t ht => by simp at ht⟩
end Go.P3

/- Rolls: how many tickets of a pledge are live. No conditions. -/
namespace Go.P3
open Go.Lom Go.Proofs Go
theorem map_set_same {α β : Type} (f : α -> β) : ∀ (l : List α) (i : Nat) (x : α), (∀ y, l[i]? = some y -> f x = f y) -> (l.set i x).map f = l.map f
 | [], _, _, _ => rfl
 | a :: l, 0, x, h => by rw [List.set_cons_zero, List.map_cons, List.map_cons, h a rfl]
 | a :: l, i + 1, x, h => by rw [List.set_cons_succ, List.map_cons, List.map_cons, map_set_same f l i x (fun y hy => h y (by simpa using hy))]
structure InvT (ts : List Tk) (over : List Tx) : Prop where
 cnt : ∀ p, ts.any (named p) = true -> manyI ts p = wantI ts over p
 ov : ∀ p ∈ over, ts.any (named p) = true
structure Inv2 (q : Tx) (ts : List Tk) (over : List Tx) : Prop where
 cnt : ∀ p, ts.any (named p) = true -> manyI ts p = if p = q then 0 else wantI ts over p
 ov : ∀ p ∈ over, ts.any (named p) = true
end Go.P3
