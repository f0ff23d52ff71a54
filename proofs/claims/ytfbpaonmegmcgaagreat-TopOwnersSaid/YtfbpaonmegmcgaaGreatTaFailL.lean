/- Funds: what a plan brings, less the need, is the cash: the plain law. No conditions. -/
import Derived.Test.YtfbpaonmegmcgaaGreatTaFollowS
import Derived.Test.YtfbpaonmegmcgaaGreatTbShareS
import Derived.Test.YtfbpaonmegmcgaaGreatTaFollowP
import Derived.Test.YtfbpaonmegmcgaaGreatTaNeedsP
set_option linter.all false
set_option maxRecDepth 100000
namespace Go.P9
open Go.Lom Go.Proofs Go
def SS (g : Nat -> Int) (j : Nat) : Int := ((List.range j).map g).sum
theorem SS_zero (g : Nat -> Int) : SS g 0 = 0 := rfl
theorem SS_succ (g : Nat -> Int) (j : Nat) : SS g (j + 1) = SS g j + g j := by
 unfold SS; rw [List.range_succ, List.map_append, List.sum_append]; simp
theorem SS_front (g : Nat -> Int) : ∀ j, SS g (j + 1) = g 0 + SS (fun u => g (u + 1)) j
 | 0 => by rw [SS_succ, SS_zero, SS_zero]; omega
 | j + 1 => by rw [SS_succ, SS_front g j, SS_succ]; omega
theorem SS_add (g h : Nat -> Int) : ∀ j, SS (fun u => g u + h u) j = SS g j + SS h j
 | 0 => rfl
 | j + 1 => by rw [SS_succ, SS_succ, SS_succ, SS_add g h j]; omega
theorem SS_sub (g h : Nat -> Int) : ∀ j, SS (fun u => g u - h u) j = SS g j - SS h j
 | 0 => rfl
 | j + 1 => by rw [SS_succ, SS_succ, SS_succ, SS_sub g h j]; omega
theorem SS_congr {g h : Nat -> Int} : ∀ {j}, (∀ u, u < j -> g u = h u) -> SS g j = SS h j
 | 0, _ => rfl
 | j + 1, e => by rw [SS_succ, SS_succ, SS_congr fun u hu => e u (by omega), e j (by omega)]
theorem folK_at (f : Fd) (c : Cs) : ∀ (k : Nat) (d : Nat) (m : Int) (j : Nat), j < k -> (folK f c k d m).getD j 0 = m + SS (fun u => flowI f c ((d + u : Nat) : Int) 0 - takeI c.2.1.2 ((d + u : Nat) : Int) 0) (j + 1)
 | k + 1, d, m, 0, _ => by
  simp only [folK, List.getD_cons_zero]
  rw [SS_succ, SS_zero]
  simp only [Nat.add_zero]
  unfold flowI; omega
 | k + 1, d, m, j + 1, h => by
  simp only [folK, List.getD_cons_succ]
  have := folK_at f c k (d + 1) (flowI f c d m - takeI c.2.1.2 d 0) j (by omega)
  rw [show ((d : Nat) : Int) + 1 = ((d + 1 : Nat) : Int) by omega, this, SS_front _ (j + 1)]
  simp only [Nat.add_zero]
  have e : SS (fun u => flowI f c ((d + 1 + u : Nat) : Int) 0 - takeI c.2.1.2 ((d + 1 + u : Nat) : Int) 0) (j + 1) = SS (fun u => flowI f c ((d + (u + 1) : Nat) : Int) 0 - takeI c.2.1.2 ((d + (u + 1) : Nat) : Int) 0) (j + 1) := SS_congr fun u _ => by
   show flowI f c ((d + 1 + u : Nat) : Int) 0 - takeI c.2.1.2 ((d + 1 + u : Nat) : Int) 0 = flowI f c ((d + (u + 1) : Nat) : Int) 0 - takeI c.2.1.2 ((d + (u + 1) : Nat) : Int) 0
   rw [show d + 1 + u = d + (u + 1) by omega]
  rw [e]
  unfold flowI; omega
theorem needsK_at (f : Fd) : ∀ (k : Nat) (i : Nat) (due : Int) (j : Nat), j < k -> (needsK f k i due).getD j 0 = due + SS (fun u => (fBonds f).getD (i + u) 0 - ((fIn f).getD (i + u) (0, 0)).1) (j + 1) + (worstW f ((i + j : Nat) : Int)).2
 | k + 1, i, due, 0, _ => by
  simp only [needsK, List.getD_cons_zero]
  rw [SS_succ, SS_zero]
  simp only [Nat.add_zero]
  unfold dueI; simp only [Int.toNat_natCast]; omega
 | k + 1, i, due, j + 1, h => by
  simp only [needsK, List.getD_cons_succ]
  have := needsK_at f k (i + 1) (dueI f i due) j (by omega)
  rw [show ((i : Nat) : Int) + 1 = ((i + 1 : Nat) : Int) by omega, this, SS_front _ (j + 1)]
  simp only [Nat.add_zero]
  have e : SS (fun u => (fBonds f).getD (i + 1 + u) 0 - ((fIn f).getD (i + 1 + u) (0, 0)).1) (j + 1) = SS (fun u => (fBonds f).getD (i + (u + 1)) 0 - ((fIn f).getD (i + (u + 1)) (0, 0)).1) (j + 1) := SS_congr fun u _ => by
   show (fBonds f).getD (i + 1 + u) 0 - ((fIn f).getD (i + 1 + u) (0, 0)).1 = (fBonds f).getD (i + (u + 1)) 0 - ((fIn f).getD (i + (u + 1)) (0, 0)).1
   rw [show i + 1 + u = i + (u + 1) by omega]
  rw [e, show i + 1 + j = i + (j + 1) by omega]
  unfold dueI; simp only [Int.toNat_natCast]; omega
theorem take_SS (row : List Int) : ∀ j, (row.take j).sum = SS (fun u => row.getD u 0) j
 | 0 => by simp [SS_zero]
 | j + 1 => by
  rw [SS_succ, <- take_SS row j, List.take_add_one, List.sum_append]
  congr 1
  cases h : row[j]? with
  | none => simp [List.getD_eq_getElem?_getD, h]
  | some x => simp [List.getD_eq_getElem?_getD, h]
theorem SS_const0 : ∀ j, SS (fun _ => 0) j = 0
 | 0 => rfl
 | j + 1 => by rw [SS_succ, SS_const0 j]; rfl
theorem take_by (t : Nat) : ∀ out : List (List Int), SS (fun u => takeI out ((u : Nat) : Int) 0) (t + 1) = byI out (t : Int) 0
 | [] => by
  have e : SS (fun u => takeI [] ((u : Nat) : Int) 0) (t + 1) = SS (fun _ => 0) (t + 1) := SS_congr fun u _ => rfl
  rw [e, SS_const0]; rfl
 | row :: out => by
  have ih := take_by t out
  have e : SS (fun u => takeI (row :: out) ((u : Nat) : Int) 0) (t + 1) = SS (fun u => row.getD u 0 + takeI out ((u : Nat) : Int) 0) (t + 1) := SS_congr fun u _ => by
   unfold takeI
   simp only [Int.toNat_zero, List.drop_zero, List.map_cons, List.sum_cons, Int.toNat_natCast]
  rw [e, SS_add, ih]
  unfold byI byRow
  simp only [Int.toNat_zero, List.drop_zero, List.map_cons, List.sum_cons]
  rw [show ((t : Int) + 1).toNat = t + 1 by omega, take_SS row (t + 1)]
end Go.P9
