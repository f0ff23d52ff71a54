/- Links, heads, windows: plain definitions. No conditions. -/
set_option linter.unusedVariables false
set_option linter.unusedSimpArgs false
namespace Go.P8

/-! links -/
abbrev Lk := Int × Int
def okLink (x : Lk) : Bool := decide (0 ≤ x.1 ∧ x.1 ≤ 23) && decide (0 ≤ x.2 ∧ x.2 ≤ 23) && decide (x.1 ≠ x.2)
def linkedOk (l : List Lk) : Bool := decide (l.length ≤ 64) && l.all okLink
def firstBadLk : List Lk → Int → Int
  | [], _ => -1
  | x :: l, i => if okLink x = true then firstBadLk l (i + 1) else i
def at' (o : List Int) (i : Int) : Int := o.getD i.toNat 0
inductive Conn (ls : List Lk) : Int → Int → Prop where
  | refl (i : Int) : Conn ls i i
  | fw {i j k : Int} : Conn ls i j → (j, k) ∈ ls → Conn ls i k
  | bw {i j k : Int} : Conn ls i j → (k, j) ∈ ls → Conn ls i k
def adj (ls : List Lk) (i j : Int) : Prop := (i, j) ∈ ls ∨ (j, i) ∈ ls
def inP (k : Int) : Prop := 0 ≤ k ∧ k < 24
/-- What has come about since a list of heads: only free ones were taken, all by one head. -/
structure Grew (ls : List Lk) (o : List Int) (i h : Int) (o1 : List Int) : Prop where
  len : o1.length = 24
  old : ∀ k, inP k → 0 ≤ at' o k → at' o1 k = at' o k
  new : ∀ k, inP k → at' o k < 0 → at' o1 k = at' o k ∨ (at' o1 k = h ∧ Conn ls i k)
def neg (o : List Int) : Nat := o.countP fun x => decide (x < 0)
/-- All who are linked with those that have been taken (but not with p) are taken too. -/
def closedBut (ls : List Lk) (o o1 : List Int) (p : Int → Prop) : Prop := ∀ k, inP k → at' o k < 0 → 0 ≤ at' o1 k → ¬ p k → ∀ y, adj ls k y → 0 ≤ at' o1 y
structure Joined (ls : List Lk) (o : List Int) (i h : Int) (o1 : List Int) : Prop where
  grew : Grew ls o i h o1
  self : 0 ≤ at' o1 i
  closed : closedBut ls o o1 fun _ => False
  neg : neg o1 ≤ neg o
structure HeadsOk (ls : List Lk) (h : List Int) : Prop where
  len : h.length = 24
  bd : ∀ k, inP k → 0 ≤ at' h k ∧ at' h k ≤ k
  lk : ∀ a b, (a, b) ∈ ls → at' h a = at' h b
  conn : ∀ k, inP k → Conn ls (at' h k) k
  fix : ∀ k, inP k → at' h (at' h k) = at' h k
noncomputable def headOf (ls : List Lk) : List Int := Classical.epsilon (HeadsOk ls)

/-! dealings, windows -/
abbrev Dl := Int × Int × Int
abbrev Wt := Int × Int × Int × Int
def dlOk (last : Int) (d : Dl) : Bool := decide (last ≤ d.1 ∧ d.1 ≤ 36500) && decide (0 ≤ d.2.1 ∧ d.2.1 ≤ 23) && decide (1 ≤ d.2.2 ∧ d.2.2 ≤ 1073741824)
def dlsOk : List Dl → Int → Bool
  | [], _ => true
  | d :: l, last => dlOk last d && dlsOk l d.1
def wtOk (w : Wt) : Bool := decide (1 ≤ w.1 ∧ w.1 ≤ 366) && decide (1 ≤ w.2.1 ∧ w.2.1 ≤ 1073741824) && decide (1 ≤ w.2.2.1 ∧ w.2.2.1 ≤ w.2.1) && decide (1 ≤ w.2.2.2 ∧ w.2.2.2 ≤ 64)
def watOk (l : List Dl) (ls : List Lk) (w : Wt) : Bool := linkedOk ls && decide (l.length ≤ 64) && dlsOk l 0 && wtOk w
def dl0 : Dl := (0, 0, 0)
def dlAt (l : List Dl) (i : Int) : Dl := l.getD i.toNat dl0
def winB (w : Wt) (l : List Dl) (h : List Int) (k i : Int) : Bool := decide (at' h (dlAt l i).2.1 = at' h (dlAt l k).2.1) && decide ((dlAt l k).1 - w.1 < (dlAt l i).1)
/-- The indices from one on that are in the window of k, those that are small, and their sum. -/
def winF (w : Wt) (l : List Dl) (h : List Int) (k : Int) : Nat → Int → List Int
  | 0, _ => []
  | n + 1, i => if winB w l h k i = true then i :: winF w l h k n (i + 1) else winF w l h k n (i + 1)
def smallB (w : Wt) (l : List Dl) (i : Int) : Bool := decide (w.2.2.1 ≤ (dlAt l i).2.2 ∧ (dlAt l i).2.2 ≤ w.2.1 - 1)
def allI (w : Wt) (l : List Dl) (h : List Int) (k : Int) : List Int := winF w l h k (k + 1).toNat 0
def smallI (w : Wt) (l : List Dl) (h : List Int) (k : Int) : List Int := (allI w l h k).filter (smallB w l)
def amt (l : List Dl) (i : Int) : Int := (dlAt l i).2.2
def sumOf (l : List Dl) (is : List Int) : Int := (is.map (amt l)).sum
def repB (w : Wt) (l : List Dl) (h : List Int) (k : Int) : Bool := decide (w.2.1 ≤ sumOf l (allI w l h k)) || decide (w.2.2.2 ≤ (smallI w l h k).length)

/-! the greatest -/
def insD (x : Int) : List Int → List Int
  | [] => [x]
  | y :: l => if y ≤ x then x :: y :: l else y :: insD x l
def sortD : List Int → List Int
  | [] => []
  | x :: l => insD x (sortD l)
/-- The sum of so many of the greatest. -/
def topS (r : Nat) (l : List Int) : Int := ((sortD l).take r).sum
def grt (l : List Dl) (is : List Int) (r : Nat) : Int := topS r (is.map (amt l))
def manyF (l : List Dl) (is : List Int) (s : Int) : Nat → Nat → Nat
  | 0, m => m
  | n + 1, m => if grt l is m < s then manyF l is s n (m + 1) else m
def pickF (l : List Dl) (s : Int) : List Int → Nat → Int → List Int
  | [], _, _ => []
  | a :: is, r, sum => if r = 0 then [] else if r - 1 ≤ is.length ∧ s ≤ sum + amt l a + grt l is (r - 1) then a :: pickF l s is (r - 1) (sum + amt l a) else pickF l s is r sum
def fewestF (w : Wt) (l : List Dl) (is : List Int) : List Int := pickF l w.2.1 is (manyF l is w.2.1 (is.length - 1) 1) 0
noncomputable def reasonsF (l : List Dl) (ls : List Lk) (w : Wt) (k : Int) : List Int × Int :=
  if watOk l ls w = true then
    if 0 ≤ k ∧ k ≤ l.length - 1 then
      if repB w l (headOf ls) k = true then
        if sumOf l (allI w l (headOf ls) k) < w.2.1 then ((smallI w l (headOf ls) k).take w.2.2.2.toNat, 0) else (fewestF w l (allI w l (headOf ls) k), 0)
      else ([], 4)
    else ([], 7)
  else ([], 83)
end Go.P8
