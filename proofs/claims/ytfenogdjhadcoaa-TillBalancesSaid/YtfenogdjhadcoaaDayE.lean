/- Days: explanations: plain laws. No conditions. -/
import Derived.Test.YtfenogdjhadcoaaDayL
set_option linter.all false
namespace Go.P8
abbrev Mi : Type := Int × Int
def zeroB (off : List Int) : Bool := off.all fun n => decide (n = 0)
def offM (off : List Int) (p : Po) (n : Int) : List Int := addAt (addAt off p.1 (p.2.2 - n)) p.2.1 (-(p.2.2 - n))
def poA (ps : List Po) (j : Nat) : Po := ps.getD j (0, 0, 0)
def expl (ps : List Po) : Nat -> List Int -> Nat -> Option (List Mi)
 | 0, off, _ => if zeroB off = true then some [] else none
 | m + 1, off, i => (List.range' i (ps.length - i)).findSome? fun j => (reallyI (poA ps j).2.2).findSome? fun n => (expl ps m (offM off (poA ps j) n) (j + 1)).map (((j : Int), n) :: ·)
def expN (ps : List Po) (m : Nat) (off : List Int) (j : Nat) (ns : List Int) : Option (List Mi) := ns.findSome? fun n => (expl ps m (offM off (poA ps j) n) (j + 1)).map (((j : Int), n) :: ·)
theorem expl_step (ps : List Po) (m : Nat) (off : List Int) {i : Nat} (h : i < ps.length) : expl ps (m + 1) off i = (expN ps m off i (reallyI (poA ps i).2.2)).or (expl ps (m + 1) off (i + 1)) := by
 show (List.range' i (ps.length - i)).findSome? _ = _
 rw [show ps.length - i = (ps.length - (i + 1)) + 1 by omega, List.range'_succ, List.findSome?_cons]
 have e : (reallyI (poA ps i).2.2).findSome? (fun n => (expl ps m (offM off (poA ps i) n) (i + 1)).map (((i : Int), n) :: ·)) = expN ps m off i (reallyI (poA ps i).2.2) := rfl
 rw [e]
 cases expN ps m off i (reallyI (poA ps i).2.2) <;> rfl
theorem expl_few (ps : List Po) : ∀ (m : Nat) (off : List Int) (i : Nat), ps.length < i + m -> 0 < m -> expl ps m off i = none
 | 0, _, _, _, h => by omega
 | m + 1, off, i, h, _ => by
  unfold expl
  rw [List.findSome?_eq_none_iff]
  intro j hj
  rw [List.findSome?_eq_none_iff]
  intro n _
  rw [List.mem_range'_1] at hj
  rw [expl_few ps m _ (j + 1) (by omega) (by omega)]; rfl
theorem addAt_len (l : List Int) (i x : Int) : (addAt l i x).length = l.length := List.length_set
theorem offM_len (l : List Int) (p : Po) (n : Int) : (offM l p n).length = l.length := by unfold offM; rw [addAt_len, addAt_len]
theorem addAt_get (l : List Int) (i x : Int) (j : Nat) : (addAt l i x).getD j 0 = if j = i.toNat /\ j < l.length then l.getD j 0 + x else l.getD j 0 := by
 unfold addAt
 rw [List.getD_eq_getElem?_getD, List.getElem?_set]
 by_cases h : i.toNat = j
 ·subst h
  by_cases h2 : i.toNat < l.length
  ·rw [if_pos rfl, if_pos h2, if_pos ⟨rfl, h2⟩]; rfl
  ·rw [if_pos rfl, if_neg h2, if_neg (fun c => h2 c.2), List.getD_eq_getElem?_getD, List.getElem?_eq_none (by omega)]
 ·rw [if_neg h, if_neg (fun c => h c.1.symm), List.getD_eq_getElem?_getD]
theorem list_ext_getD {a b : List Int} (h : a.length = b.length) (hg : ∀ j, j < a.length -> a.getD j 0 = b.getD j 0) : a = b := by
 apply List.ext_getElem h
 intro i h1 h2
 have := hg i h1
 rw [List.getD_eq_getElem?_getD, List.getD_eq_getElem?_getD, List.getElem?_eq_getElem h1, List.getElem?_eq_getElem h2] at this
 exact this
theorem off_back (off : List Int) (p : Po) (n : Int) : addAt (addAt (offM off p n) p.1 (-(p.2.2 - n))) p.2.1 (p.2.2 - n) = off := by
 refine list_ext_getD (by rw [addAt_len, addAt_len, offM_len]) fun j hj => ?_
 rw [addAt_len, addAt_len, offM_len] at hj
 unfold offM
 simp only [addAt_get, addAt_len, hj, and_true]
 repeat' split
 all_goals omega
def offB (b : Int) (off : List Int) : Prop := ∀ x ∈ off, -b <= x /\ x <= b
theorem offB_get {b : Int} {off : List Int} (h : offB b off) (hb : 0 <= b) (j : Nat) : -b <= off.getD j 0 /\ off.getD j 0 <= b := by
 rw [List.getD_eq_getElem?_getD]
 cases hc : off[j]? with
 | none => exact ⟨by show -b <= 0; omega, hb⟩
 | some x => exact h x (List.mem_of_getElem? hc)
theorem offB_add {b x c : Int} {off : List Int} {i : Int} (h : offB b off) (hb : 0 <= b) (hx : -c <= x /\ x <= c) : offB (b + c) (addAt off i x) := fun y hy => by
 unfold addAt at hy
 have := offB_get h hb i.toNat
 rcases List.mem_or_eq_of_mem_set hy with e | e
 ·have := h y e; omega
 ·omega
def explOk (ps : List Po) : List Int -> Nat -> List Mi -> Prop
 | off, _, [] => zeroB off = true
 | off, i, x :: l => ((i : Int) <= x.1 /\ x.1 < ps.length) /\ x.2 ∈ reallyI (poA ps x.1.toNat).2.2 /\ explOk ps (offM off (poA ps x.1.toNat) x.2) (x.1.toNat + 1) l
def befM : List Mi -> List Mi -> Bool
 | a :: l, b :: k => if a = b then befM l k else decide (a.1 < b.1 \/ a.1 = b.1 /\ a.2 < b.2)
 | _, _ => false
theorem expl_ok (ps : List Po) : ∀ (m : Nat) (off : List Int) (i : Nat) (l : List Mi), expl ps m off i = some l -> l.length = m /\ explOk ps off i l
 | 0, off, i, l, h => by
  unfold expl at h
  split at h
  ·rename_i hz
   injection h with h; subst h; exact ⟨rfl, hz⟩
  ·cases h
 | m + 1, off, i, l, h => by
  unfold expl at h
  obtain ⟨j, hj, h⟩ := List.exists_of_findSome?_eq_some h
  obtain ⟨n, hn, h⟩ := List.exists_of_findSome?_eq_some h
  obtain ⟨r, hr, rfl⟩ := Option.map_eq_some_iff.1 h
  obtain ⟨g1, g2⟩ := expl_ok ps m _ _ r hr
  rw [List.mem_range'_1] at hj
  exact ⟨by rw [List.length_cons, g1], ⟨by show (i : Int) <= (j : Int); omega, by show (j : Int) < _; omega⟩, hn, g2⟩
theorem first_strict {β : Type} {f : Int -> Option β} : ∀ {l : List Int} {y : Int} {b : β}, strictI l -> y ∈ l -> f y = some b -> ∃ z c, z ∈ l /\ z <= y /\ l.findSome? f = some c /\ f z = some c
 | x :: l, y, b, h, hy, hb => by
  rw [List.findSome?_cons]
  cases hx : f x with
  | some c =>
   refine ⟨x, c, List.mem_cons_self .., ?_, rfl, hx⟩
   rcases List.mem_cons.1 hy with e | e
   ·omega
   ·have := List.rel_of_pairwise_cons h e; omega
  | none =>
   rcases List.mem_cons.1 hy with e | e
   ·rw [e, hx] at hb; cases hb
   ·obtain ⟨z, c, h1, h2, h3, h4⟩ := first_strict h.of_cons e hb
    exact ⟨z, c, List.mem_cons_of_mem _ h1, h2, h3, h4⟩
theorem first_range {β : Type} {f : Nat -> Option β} : ∀ (k i j : Nat) (b : β), i <= j -> j < i + k -> f j = some b -> ∃ z c, i <= z /\ z <= j /\ (List.range' i k).findSome? f = some c /\ f z = some c
 | 0, i, j, b, h1, h2, _ => by omega
 | k + 1, i, j, b, h1, h2, hb => by
  rw [List.range'_succ, List.findSome?_cons]
  cases hx : f i with
  | some c => exact ⟨i, c, Nat.le_refl _, h1, rfl, hx⟩
  | none =>
   have : i ≠ j := fun e => by rw [e, hb] at hx; cases hx
   obtain ⟨z, c, h3, h4, h5, h6⟩ := first_range k (i + 1) j b (by omega) (by omega) hb
   exact ⟨z, c, by omega, h4, h5, h6⟩
theorem expl_best (ps : List Po) : ∀ (m : Nat) (off : List Int) (i : Nat) (l : List Mi), l.length = m -> explOk ps off i l -> ∃ k, expl ps m off i = some k /\ befM l k = false
 | 0, off, i, l, h, ho => by
  have : l = [] := List.eq_nil_of_length_eq_zero h
  subst this
  exact ⟨[], by unfold expl; rw [if_pos (show zeroB off = true from ho)], rfl⟩
 | m + 1, off, i, x :: l, h, ho => by
  obtain ⟨⟨h1, h2⟩, h3, h4⟩ := ho
  have hm : l.length = m := by simpa using h
  obtain ⟨k, hk, hb⟩ := expl_best ps m _ _ l hm h4
  have hx : ((x.1.toNat : Nat) : Int) = x.1 := by omega
  obtain ⟨n, c, n1, n2, n3, n4⟩ := first_strict (f := fun n => (expl ps m (offM off (poA ps x.1.toNat) n) (x.1.toNat + 1)).map ((((x.1.toNat : Nat) : Int), n) :: ·)) (really_strict _) h3 (by rw [hk]; rfl)
  obtain ⟨j, d, j1, j2, j3, j4⟩ := first_range (f := fun j => (reallyI (poA ps j).2.2).findSome? fun n => (expl ps m (offM off (poA ps j) n) (j + 1)).map (((j : Int), n) :: ·)) (ps.length - i) i x.1.toNat c (by omega) (by omega) n3
  refine ⟨d, j3, ?_⟩
  by_cases e : j = x.1.toNat
  ·subst e
   rw [n3] at j4
   injection j4 with j4
   subst j4
   obtain ⟨r, hr, rfl⟩ := Option.map_eq_some_iff.1 n4
   show (if x = (((x.1.toNat : Nat) : Int), n) then befM l r else decide (x.1 < ((x.1.toNat : Nat) : Int) \/ x.1 = ((x.1.toNat : Nat) : Int) /\ x.2 < n)) = false
   split
   ·rename_i e
    have e2 : x.2 = n := congrArg Prod.snd e
    rw [<- e2, hk] at hr
    injection hr with hr
    rw [<- hr]; exact hb
   ·exact decide_eq_false (by omega)
  ·obtain ⟨n', hn', h'⟩ := List.exists_of_findSome?_eq_some j4
   obtain ⟨r, hr, rfl⟩ := Option.map_eq_some_iff.1 h'
   show (if x = ((j : Int), n') then befM l r else decide (x.1 < (j : Int) \/ x.1 = (j : Int) /\ x.2 < n')) = false
   rw [if_neg (fun e2 => e (by have : x.1 = (j : Int) := congrArg Prod.fst e2; omega))]
   exact decide_eq_false (by omega)
end Go.P8
