/- Days: explanations: plain laws. No conditions. -/
import Derived.Test.YtfenogdjhadcoaaDayL
set_option linter.all false
namespace Go.P8
abbrev Mi : Type := Int × Int
def zeroB (off : List Int) : Bool := off.all fun n => decide (n = 0)
def offM (off : List Int) (p : Po) (n : Int) : List Int := addAt (addAt off p.1 (p.2.2 - n)) p.2.1 (-(p.2.2 - n))
def poA (ps : List Po) (j : Nat) : Po := ps.getD j (0, 0, 0)
def expl (ps : List Po) : Nat -> List Int -> Nat -> Option (List Mi)
 | 0, off, _ => if zeroB off = true then some [] else none
 | m + 1, off, i => (List.range' i (ps.length - i)).findSome? fun j => (reallyI (poA ps j).2.2).findSome? fun n => (expl ps m (offM off (poA ps j) n) (j + 1)).map (((j : Int), n) :: ·)
def expN (ps : List Po) (m : Nat) (off : List Int) (j : Nat) (ns : List Int) : Option (List Mi) := ns.findSome? fun n => (expl ps m (offM off (poA ps j) n) (j + 1)).map (((j : Int), n) :: ·)
theorem expl_step (ps : List Po) (m : Nat) (off : List Int) {i : Nat} (h : i < ps.length) : expl ps (m + 1) off i = (expN ps m off i (reallyI (poA ps i).2.2)).or (expl ps (m + 1) off (i + 1)) := by
 show (List.range' i (ps.length - i)).findSome? _ = _
 rw [show ps.length - i = (ps.length - (i + 1)) + 1 by omega, List.range'_succ, List.findSome?_cons]
 have e : (reallyI (poA ps i).2.2).findSome? (fun n => (expl ps m (offM off (poA ps i) n) (i + 1)).map (((i : Int), n) :: ·)) = expN ps m off i (reallyI (poA ps i).2.2) := rfl
 rw [e]
 cases expN ps m off i (reallyI (poA ps i).2.2) <;> rfl
theorem expl_few (ps : List Po) : ∀ (m : Nat) (off : List Int) (i : Nat), ps.length < i + m -> 0 < m -> expl ps m off i = none
 | 0, _, _, _, h => by omega
 | m + 1, off, i, h, _ => by
  unfold expl
  rw [List.findSome?_eq_none_iff]
  intro j hj
  rw [List.findSome?_eq_none_iff]
  intro n _
  rw [List.mem_range'_1] at hj
  rw [expl_few ps m _ (j + 1) (by omega) (by omega)]; rfl
theorem addAt_len (l : List Int) (i x : Int) : (addAt l i x).length = l.length := List.length_set
theorem offM_len (l : List Int) (p : Po) (n : Int) : (offM l p n).length = l.length := by unfold offM; rw [addAt_len, addAt_len]
theorem addAt_get (l : List Int) (i x : Int) (j : Nat) : (addAt l i x).getD j 0 = if j = i.toNat /\ j < l.length then l.getD j 0 + x else l.getD j 0 := by
 unfold addAt
 rw [List.getD_eq_getElem?_getD, List.getElem?_set]
 by_cases h : i.toNat = j
 ·subst h
  by_cases h2 : i.toNat < l.length
  ·rw [if_pos rfl, if_pos h2, if_pos ⟨rfl, h2⟩]; rfl
  ·rw [if_pos rfl, if_neg h2, if_neg (fun c => h2 c.2), List.getD_eq_getElem?_getD, List.getElem?_eq_none (by omega)]
 ·rw [if_neg h, if_neg (fun c => h c.1.symm), List.getD_eq_getElem?_getD]
theorem list_ext_getD {a b : List Int} (h : a.length = b.length) (hg : ∀ j, j < a.length -> a.getD j 0 = b.getD j 0) : a = b := by
 apply List.ext_getElem h
 intro i h1 h2
 have := hg i h1
 rw [List.getD_eq_getElem?_getD, List.getD_eq_getElem?_getD, List.getElem?_eq_getElem h1, List.getElem?_eq_getElem h2] at this
 exact this
theorem off_back (off : List Int) (p : Po) (n : Int) : addAt (addAt (offM off p n) p.1 (-(p.2.2 - n))) p.2.1 (p.2.2 - n) = off := by
 refine list_ext_getD (by rw [addAt_len, addAt_len, offM_len]) fun j hj => ?_
 rw [addAt_len, addAt_len, offM_len] at hj
 unfold offM
 simp only [addAt_get, addAt_len, hj, and_true]
 repeat' split
 all_goals omega
def offB (b : Int) (off : List Int) : Prop := ∀ x ∈ off, -b <= x /\ x <= b
theorem offB_get {b : Int} {off : List Int} (h : offB b off) (hb : 0 <= b) (j : Nat) : -b <= off.getD j 0 /\ off.getD j 0 <= b := by
 rw [List.getD_eq_getElem?_getD]
 cases hc : off[j]? with
 | none => exact ⟨by show -b <= 0; omega, hb⟩
 | some x => exact h x (List.mem_of_getElem? hc)
theorem offB_add {b x c : Int} {off : List Int} {i : Int} (h : offB b off) (hb : 0 <= b) (hx : -c <= x /\ x <= c) : offB (b + c) (addAt off i x) := fun y hy => by
 unfold addAt at hy
 have := offB_get h hb i.toNat
 rcases List.mem_or_eq_of_mem_set hy with e | e
 ·have := h y e; omega
 ·omega
end Go.P8
