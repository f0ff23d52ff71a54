set_option linter.all false
/- Links, heads, windows: plain definitions. No conditions. -/
namespace Go.P8
abbrev Lk := Int × Int
def okLink (x : Lk) : Bool := decide (0 <= x.1 /\ x.1 <= 23) && decide (0 <= x.2 /\ x.2 <= 23) && decide (x.1 ≠ x.2)
def at' (o : List Int) (i : Int) : Int := o.getD i.toNat 0
inductive Conn (ls : List Lk) : Int -> Int -> Prop where
 | refl (i : Int) : Conn ls i i
 | fw {i j k : Int} : Conn ls i j -> (j, k) ∈ ls -> Conn ls i k
 | bw {i j k : Int} : Conn ls i j -> (k, j) ∈ ls -> Conn ls i k
def adj (ls : List Lk) (i j : Int) : Prop := (i, j) ∈ ls \/ (j, i) ∈ ls
def inP (k : Int) : Prop := 0 <= k /\ k < 24
structure Grew (ls : List Lk) (o : List Int) (i h : Int) (o1 : List Int) : Prop where
 len : o1.length = 24
 old : ∀ k, inP k -> 0 <= at' o k -> at' o1 k = at' o k
 new : ∀ k, inP k -> at' o k < 0 -> at' o1 k = at' o k \/ (at' o1 k = h /\ Conn ls i k)
def neg (o : List Int) : Nat := o.countP fun x => decide (x < 0)
def closedBut (ls : List Lk) (o o1 : List Int) (p : Int -> Prop) : Prop := ∀ k, inP k -> at' o k < 0 -> 0 <= at' o1 k -> ¬ p k -> ∀ y, adj ls k y -> 0 <= at' o1 y
structure Joined (ls : List Lk) (o : List Int) (i h : Int) (o1 : List Int) : Prop where
 grew : Grew ls o i h o1
 self : 0 <= at' o1 i
 closed : closedBut ls o o1 fun _ => False
 neg : neg o1 <= neg o
structure HeadsOk (ls : List Lk) (h : List Int) : Prop where
 len : h.length = 24
 bd : ∀ k, inP k -> 0 <= at' h k /\ at' h k <= k
 lk : ∀ a b, (a, b) ∈ ls -> at' h a = at' h b
 conn : ∀ k, inP k -> Conn ls (at' h k) k
 fix : ∀ k, inP k -> at' h (at' h k) = at' h k
end Go.P8
