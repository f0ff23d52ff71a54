/- Abstract values, the abstract heap, and their relation to the model's values and worlds. Plain definitions and lemmas; no condition. -/
import Derived.Orders
import Derived.Defers
import Derived.Below
namespace Go.Lom
open Go.RowKit

/-- Types of contents: numbers, truth values, texts, lists, pairs. -/
inductive Ty where
  | i (k : IntKind)
  | b
  | s
  | sl (t : Ty)
  | pr (x y : Ty)
  deriving DecidableEq, Inhabited

abbrev Ty.den : Ty → Type
  | .i _ => Int
  | .b => Bool
  | .s => List UInt8
  | .sl t => List t.den
  | .pr x y => x.den × y.den

inductive AV where
  | undef
  | bool (b : Bool)
  | int (k : IntKind) (n : Int)
  | str (s : List UInt8)
  | nilp
  | ptr (b i o : Nat)
  | rp (e : List AV) (o : Nat)
  | nils
  | emp
  | sl (b s off len : Nat) (cap : Option Nat)
  | rs (xs : List (List AV))
  | rl (t : Ty) (xs : List t.den)
  | nilm
  | mp (b : Nat)
  | nilf
  | fn (f : Fn) (first cap : List AV)
  | nili
  | iface (t : TypeId) (v : AV)
  | agg (cs : List AV)
  | tup (vs : List AV)
  deriving Inhabited

def oneC : AV → Bool
  | .undef | .agg _ | .tup _ => false
  | _ => true

/-- The cells of a content. -/
def Ty.enc : (t : Ty) → t.den → List AV
  | .i k, n => [.int k n]
  | .b, x => [.bool x]
  | .s, x => [.str x]
  | .sl t, xs => [.rl t xs]
  | .pr x y, p => x.enc p.1 ++ y.enc p.2
def Ty.sz : Ty → Nat
  | .i _ | .b | .s | .sl _ => 1
  | .pr x y => x.sz + y.sz
def Ty.dflt : (t : Ty) → t.den
  | .i _ => (0 : Int)
  | .b => false
  | .s => []
  | .sl _ => []
  | .pr x y => (x.dflt, y.dflt)
/-- A content as a value. -/
def Ty.val : (t : Ty) → t.den → AV
  | .i k, n => .int k n
  | .b, x => .bool x
  | .s, x => .str x
  | .sl t, xs => .rl t xs
  | .pr x y, p => .agg (Ty.enc (.pr x y) p)

theorem Ty.enc_length : ∀ (t : Ty) (x : t.den), (t.enc x).length = t.sz
  | .i _, _ | .b, _ | .s, _ | .sl _, _ => rfl
  | .pr c d, p => by simp [Ty.enc, Ty.sz, Ty.enc_length c, Ty.enc_length d]
theorem Ty.enc_oneC : ∀ (t : Ty) (x : t.den), (t.enc x).all oneC = true
  | .i _, _ | .b, _ | .s, _ | .sl _, _ => rfl
  | .pr c d, p => by simp only [Ty.enc, List.all_append, Ty.enc_oneC c, Ty.enc_oneC d, Bool.and_self]

/-- The frozen blocks. -/
abbrev ZMap := Nat → Option Obj
/-- Where an abstract block lies: block, cell at which it begins, cells of an element, how many elements there is room for. -/
structure Loc where
  B : Nat
  ob : Nat
  s : Nat
  lim : Nat
abbrev PMap := Nat → Option Loc

def zcell (Z : ZMap) (B x : Nat) : Option Value :=
  match Z B with
  | some (.cells c _ _) => c[x]?
  | _ => none

def capOk : Option Nat → Nat → Nat → Prop
  | some k, _, c => c = k
  | none, len, c => len ≤ c

inductive Rep (Z : ZMap) (φ : PMap) : AV → Value → Prop
  | undef (v : Value) : Rep Z φ .undef v
  | bool (b : Bool) : Rep Z φ (.bool b) (.bool b)
  | int (k : IntKind) (n : Int) : Rep Z φ (.int k n) (.int k n)
  | str (s : List UInt8) : Rep Z φ (.str s) (.string ⟨s.toArray⟩)
  | nilp : Rep Z φ .nilp (.pointer none)
  | ptr {b i o : Nat} {l : Loc} (h : φ b = some l) : Rep Z φ (.ptr b i o) (.pointer (some ⟨l.B, l.ob + i * l.s + o, none⟩))
  | rp {e : List AV} {o B off : Nat} (us : Nat → Value) (h1 : ∀ (j : Nat) (v : AV), e[j]? = some v → zcell Z B (off + j) = some (us j))
      (h2 : ∀ (j : Nat) (v : AV), e[j]? = some v → Rep Z φ v (us j)) : Rep Z φ (.rp e o) (.pointer (some ⟨B, off + o, none⟩))
  | nils : Rep Z φ .nils (.slice none 0 0)
  | emp (a : Addr) : Rep Z φ .emp (.slice (some a) 0 0)
  | sl {b s off len c : Nat} {l : Loc} {cap : Option Nat} {a : Addr} (h : φ b = some l) (hs : l.s = s) (hc : capOk cap len c) (hl : len ≤ c) (hm : off + c ≤ l.lim)
      (ha : a = ⟨l.B, l.ob + off * s, none⟩ ∨ c = 0) : Rep Z φ (.sl b s off len cap) (.slice (some a) len c)
  | rs {xs : List (List AV)} {B off c s n : Nat} {a : Addr} (us : Nat → Nat → Value) (hn : xs.length = n) (hc : n ≤ c) (ha : a = ⟨B, off, none⟩ ∨ n = 0)
      (h0 : ∀ (i : Nat) (e : List AV), xs[i]? = some e → e.length = s ∧ e.all oneC = true)
      (h1 : ∀ (i : Nat) (e : List AV) (j : Nat) (v : AV), xs[i]? = some e → e[j]? = some v → zcell Z B (off + i * s + j) = some (us i j))
      (h2 : ∀ (i : Nat) (e : List AV) (j : Nat) (v : AV), xs[i]? = some e → e[j]? = some v → Rep Z φ v (us i j)) : Rep Z φ (.rs xs) (.slice (some a) n c)
  /-- No elements and no known capacity: it may be the nil slice, or an empty one. -/
  | sl0n {b s off : Nat} {cap : Option Nat} (hc : capOk cap 0 0) : Rep Z φ (.sl b s off 0 cap) (.slice none 0 0)
  | sl0s {b s off : Nat} {cap : Option Nat} (hc : capOk cap 0 0) (a : Addr) : Rep Z φ (.sl b s off 0 cap) (.slice (some a) 0 0)
  | rl {t : Ty} {xs : List t.den} {ao : Option Addr} {n c : Nat} (h : Rep Z φ (.rs (xs.map t.enc)) (.slice ao n c)) : Rep Z φ (.rl t xs) (.slice ao n c)
  /-- No elements: it may be the nil slice. -/
  | rs0 : Rep Z φ (.rs []) (.slice none 0 0)
  | nilm : Rep Z φ .nilm (.map none)
  | mp {b : Nat} {l : Loc} (h : φ b = some l) : Rep Z φ (.mp b) (.map (some l.B))
  | nilf : Rep Z φ .nilf .nilFunc
  | fn {f : Fn} {xs ys : List AV} {us ws : Array Value} (hx : us.size = xs.length) (hy : ws.size = ys.length)
      (h1 : ∀ (i : Nat) (v : AV) (u : Value), xs[i]? = some v → us[i]? = some u → Rep Z φ v u)
      (h2 : ∀ (i : Nat) (v : AV) (u : Value), ys[i]? = some v → ws[i]? = some u → Rep Z φ v u) : Rep Z φ (.fn f xs ys) (.func f us ws)
  | nili : Rep Z φ .nili .nilIface
  | iface {t : TypeId} {v : AV} {u : Value} (h : Rep Z φ v u) : Rep Z φ (.iface t v) (.iface t u)
  | agg {cs : List AV} {us : Array Value} (hl : us.size = cs.length)
      (h : ∀ (i : Nat) (v : AV) (u : Value), cs[i]? = some v → us[i]? = some u → Rep Z φ v u) : Rep Z φ (.agg cs) (.agg us)
  | tup {cs : List AV} {us : Array Value} (hl : us.size = cs.length)
      (h : ∀ (i : Nat) (v : AV) (u : Value), cs[i]? = some v → us[i]? = some u → Rep Z φ v u) : Rep Z φ (.tup cs) (.tuple us)

theorem Rep.rs_slice {Z : ZMap} {φ : PMap} {x : AV} {v : Value} (h : Rep Z φ x v) : ∀ {xs : List (List AV)}, x = .rs xs → ∃ ao n c, v = .slice ao n c := by
  intro xs hx
  cases h with
  | rs us hn hc ha h0 h1 h2 => exact ⟨_, _, _, rfl⟩
  | rs0 => exact ⟨_, _, _, rfl⟩
  | _ => cases hx
theorem Rep.toRl {Z : ZMap} {φ : PMap} {t : Ty} {xs : List t.den} {v : Value} (h : Rep Z φ (.rs (xs.map t.enc)) v) : Rep Z φ (.rl t xs) v := by
  obtain ⟨ao, n, c, rfl⟩ := h.rs_slice rfl
  exact .rl h
theorem Rep.ofRl {Z : ZMap} {φ : PMap} {t : Ty} {xs : List t.den} {v : Value} (h : Rep Z φ (.rl t xs) v) : Rep Z φ (.rs (xs.map t.enc)) v := by
  cases h with | rl h => exact h

def ZLe (Z Z' : ZMap) : Prop := ∀ B o, Z B = some o → Z' B = some o
def PLe (φ φ' : PMap) : Prop := ∀ b x, φ b = some x → φ' b = some x

theorem ZLe.refl (Z : ZMap) : ZLe Z Z := fun _ _ h => h
theorem PLe.refl (φ : PMap) : PLe φ φ := fun _ _ h => h
theorem ZLe.trans {a b c : ZMap} (h : ZLe a b) (k : ZLe b c) : ZLe a c := fun B o x => k B o (h B o x)
theorem PLe.trans {a b c : PMap} (h : PLe a b) (k : PLe b c) : PLe a c := fun B o x => k B o (h B o x)

theorem zcell_mono {Z Z' : ZMap} (h : ZLe Z Z') {B x : Nat} {u : Value} (hc : zcell Z B x = some u) : zcell Z' B x = some u := by
  unfold zcell at *
  cases hz : Z B with
  | none => rw [hz] at hc; cases hc
  | some o => rw [hz] at hc; rw [h B o hz]; exact hc

theorem Rep.mono {Z Z' : ZMap} {φ φ' : PMap} (hZ : ZLe Z Z') (hφ : PLe φ φ') {v : AV} {u : Value} (h : Rep Z φ v u) : Rep Z' φ' v u := by
  induction h with
  | undef v => exact .undef v
  | bool b => exact .bool b
  | int k n => exact .int k n
  | str s => exact .str s
  | nilp => exact .nilp
  | ptr h => exact .ptr (hφ _ _ h)
  | rp us h1 h2 ih => exact .rp us (fun j v hj => zcell_mono hZ (h1 j v hj)) ih
  | nils => exact .nils
  | emp a => exact .emp a
  | sl h hs hc hl hm ha => exact .sl (hφ _ _ h) hs hc hl hm ha
  | rs us hn hc ha h0 h1 h2 ih => exact .rs us hn hc ha h0 (fun i e j v hi hj => zcell_mono hZ (h1 i e j v hi hj)) ih
  | sl0n hc => exact .sl0n hc
  | sl0s hc a => exact .sl0s hc a
  | rl h ih => exact .rl ih
  | rs0 => exact .rs0
  | nilm => exact .nilm
  | mp h => exact .mp (hφ _ _ h)
  | nilf => exact .nilf
  | fn hx hy h1 h2 i1 i2 => exact .fn hx hy i1 i2
  | nili => exact .nili
  | iface h ih => exact .iface ih
  | agg hl h ih => exact .agg hl ih
  | tup hl h ih => exact .tup hl ih

/-- Pairwise. -/
def Reps (Z : ZMap) (φ : PMap) (xs : List AV) (us : Array Value) : Prop :=
  us.size = xs.length ∧ ∀ (i : Nat) (v : AV) (u : Value), xs[i]? = some v → us[i]? = some u → Rep Z φ v u

theorem Reps.mono {Z Z' : ZMap} {φ φ' : PMap} (hZ : ZLe Z Z') (hφ : PLe φ φ') {xs : List AV} {us : Array Value} (h : Reps Z φ xs us) : Reps Z' φ' xs us :=
  ⟨h.1, fun i v u a b => (h.2 i v u a b).mono hZ hφ⟩

inductive Blk where
  | row (s : Nat) (es : List (List AV))
  | lst (t : Ty) (xs : List t.den)
  | mp (es : List (AV × AV))
  deriving Inhabited

/-- It may be that there is no such block. -/
def Blk.ghost : Blk → Bool
  | .lst _ [] => true
  | _ => false

abbrev Heap := List (Nat × Blk)

def Heap.get : Heap → Nat → Option Blk
  | [], _ => none
  | (c, x) :: H, b => if b = c then some x else Heap.get H b
def Heap.del : Heap → Nat → Heap
  | [], _ => []
  | (c, x) :: H, b => if b = c then Heap.del H b else (c, x) :: Heap.del H b
def Heap.set (H : Heap) (b : Nat) (x : Blk) : Heap := (b, x) :: H.del b

theorem Heap.get_del (H : Heap) (b c : Nat) : (H.del b).get c = if c = b then none else H.get c := by
  induction H with
  | nil => simp [Heap.del, Heap.get]
  | cons p H ih =>
    obtain ⟨d, x⟩ := p
    simp only [Heap.del]
    by_cases h : b = d
    · subst h; rw [if_pos rfl, ih]; simp only [Heap.get]; by_cases h2 : c = b <;> simp [h2]
    · rw [if_neg h]; simp only [Heap.get, ih]; by_cases h2 : c = d
      · subst h2; simp [Ne.symm h]
      · simp [h2]
theorem Heap.get_set (H : Heap) (b c : Nat) (x : Blk) : (H.set b x).get c = if c = b then some x else H.get c := by
  unfold Heap.set; simp only [Heap.get, Heap.get_del]; by_cases h : c = b <;> simp [h]
theorem Heap.get_set_self (H : Heap) (b : Nat) (x : Blk) : (H.set b x).get b = some x := by simp [Heap.get_set]
theorem Heap.get_set_ne (H : Heap) {b c : Nat} (x : Blk) (h : c ≠ b) : (H.set b x).get c = H.get c := by simp [Heap.get_set, h]

/-- What of a heap is known: less. -/
def Sub (H H' : Heap) : Prop := ∀ b x, H.get b = some x → H'.get b = some x
theorem Sub.refl (H : Heap) : Sub H H := fun _ _ h => h
theorem Sub.trans {a b c : Heap} (h : Sub a b) (k : Sub b c) : Sub a c := fun x y z => k x y (h x y z)

/-- A block of the heap and what is known of it. -/
def rowRel (Z : ZMap) (φ : PMap) (w : World) (l : Loc) (s : Nat) (es : List (List AV)) : Prop :=
  s = l.s ∧ es.length ≤ l.lim ∧ ∃ c T fz, w.heap[l.B]? = some (.cells c T fz) ∧ l.ob + l.lim * l.s ≤ c.size ∧ (∀ x, x < c.size → ¬ (fz.1 ≤ x ∧ x < fz.2)) ∧
      ∀ (i : Nat) (e : List AV), es[i]? = some e → e.length = l.s ∧ e.all oneC = true ∧ ∀ (j : Nat) (v : AV), e[j]? = some v → ∃ u, c[l.ob + i * l.s + j]? = some u ∧ Rep Z φ v u
def blkRel (Z : ZMap) (φ : PMap) (w : World) (l : Loc) : Blk → Prop
  | .row s es => rowRel Z φ w l s es
  | .lst t xs => rowRel Z φ w l t.sz (xs.map t.enc)
  | .mp es => ∃ ms clk, w.heap[l.B]? = some (.map ms clk) ∧ ms.size = es.length ∧
      ∀ (i : Nat) (k v : AV) (m : MapEntry), es[i]? = some (k, v) → ms[i]? = some m → Rep Z φ k m.key ∧ Rep Z φ v m.val

theorem blkRel.mono {Z Z' : ZMap} {φ φ' : PMap} (hZ : ZLe Z Z') (hφ : PLe φ φ') {w w' : World} {l : Loc} {x : Blk} (hw : w'.heap[l.B]? = w.heap[l.B]?)
    (h : blkRel Z φ w l x) : blkRel Z' φ' w' l x := by
  have row : ∀ (s : Nat) (es : List (List AV)), rowRel Z φ w l s es → rowRel Z' φ' w' l s es := fun s es h => by
    obtain ⟨hs, hlim, c, T, fz, hb, hsz, hf, he⟩ := h
    exact ⟨hs, hlim, c, T, fz, by rw [hw, hb], hsz, hf, fun i e hi => ⟨(he i e hi).1, (he i e hi).2.1, fun j v hj => let ⟨u, hu, hr⟩ := (he i e hi).2.2 j v hj; ⟨u, hu, hr.mono hZ hφ⟩⟩⟩
  cases x with
  | row s' es => exact row _ _ h
  | lst t xs => exact row _ _ h
  | mp es =>
    obtain ⟨ms, clk, hb, hn, he⟩ := h
    exact ⟨ms, clk, by rw [hw, hb], hn, fun i k v m hi hm => let ⟨a, b⟩ := he i k v m hi hm; ⟨a.mono hZ hφ, b.mono hZ hφ⟩⟩

/-- Where a call began: the world, and what was frozen. -/
structure Start where
  world : World
  z : ZMap

/-- What a call leaves alone: the old blocks of a set, and all but memory. -/
structure KeptW (U : Nat → Prop) (w w' : World) : Prop where
  os : w'.os = w.os
  tape : w'.tape = w.tape
  output : w'.output = w.output
  size : w.heap.size ≤ w'.heap.size
  block : ∀ k, k < w.heap.size → U k → w'.heap[k]? = w.heap[k]?

theorem KeptW.refl (U : Nat → Prop) (w : World) : KeptW U w w := ⟨rfl, rfl, rfl, Nat.le_refl _, fun _ _ _ => rfl⟩
theorem KeptW.trans {U : Nat → Prop} {a b c : World} (h : KeptW U a b) (k : KeptW U b c) : KeptW U a c :=
  ⟨k.os.trans h.os, k.tape.trans h.tape, k.output.trans h.output, Nat.le_trans h.size k.size, fun i hi hu => (k.block i (Nat.lt_of_lt_of_le hi h.size) hu).trans (h.block i hi hu)⟩
theorem KeptW.alloc {U : Nat → Prop} {a b : World} (h : KeptW U a b) (o : Obj) : KeptW U a (b.alloc o) :=
  ⟨h.os, h.tape, h.output, by have := h.size; show a.heap.size ≤ (b.heap.push o).size; simp; omega, fun k hk hu => by
    rw [Below.heap_alloc b o k (Nat.lt_of_lt_of_le hk h.size)]; exact h.block k hk hu⟩
theorem KeptW.below {B : Nat} {a b : World} (hB : B ≤ a.heap.size) (h : KeptW (· < B) a b) : Below B a b :=
  ⟨h.os, h.tape, h.output, h.size, fun k hk => h.block k (Nat.lt_of_lt_of_le hk hB) hk⟩

structure HRel (base : Nat → Prop) (w0 : Start) (Z : ZMap) (φ : PMap) (H : Heap) (nx : Nat) (w : World) : Prop where
  below : KeptW base w0.world w
  z : ∀ B o, Z B = some o → w.heap[B]? = some o
  z0 : ∀ B, B < w0.world.heap.size → base B → Z B = w0.z B
  fnx : ∀ b x, φ b = some x → b < nx
  hnx : ∀ b x, H.get b = some x → b < nx
  flt : ∀ b l, φ b = some l → l.B < w.heap.size
  own' : ∀ b x, H.get b = some x → (x.ghost = true ∧ φ b = none) ∨ ∃ l, φ b = some l ∧ Z l.B = none ∧ blkRel Z φ w l x
  inj : ∀ b b' x x' l l', b ≠ b' → H.get b = some x → H.get b' = some x' → φ b = some l → φ b' = some l' → l.B ≠ l'.B
  ob : ∀ b x l, H.get b = some x → φ b = some l → base l.B → w0.world.heap.size ≤ l.B

section
variable {base : Nat → Prop} {w0 : Start} {Z : ZMap} {φ : PMap} {H : Heap} {nx : Nat} {w : World}

theorem HRel.own (h : HRel base w0 Z φ H nx w) (b : Nat) (x : Blk) (hb : H.get b = some x) (hg : x.ghost = false := by rfl) : ∃ l, φ b = some l ∧ Z l.B = none ∧ blkRel Z φ w l x := by
  rcases h.own' b x hb with ⟨h1, _⟩ | h
  · rw [h1] at hg; cases hg
  · exact h
theorem HRel.ownAt (h : HRel base w0 Z φ H nx w) {b : Nat} {x : Blk} {l : Loc} (hb : H.get b = some x) (hf : φ b = some l) : Z l.B = none ∧ blkRel Z φ w l x := by
  rcases h.own' b x hb with ⟨_, h1⟩ | ⟨l', h1, h2⟩
  · rw [hf] at h1; cases h1
  · rw [hf] at h1; injection h1 with h1; subst h1; exact h2

theorem HRel.sub (h : HRel base w0 Z φ H nx w) {H' : Heap} (hs : Sub H' H) : HRel base w0 Z φ H' nx w :=
  ⟨h.below, h.z, h.z0, h.fnx, fun b x hx => h.hnx b x (hs _ _ hx), h.flt, fun b x hx => h.own' b x (hs b x hx), fun b b' x x' l l' hne hx hx' => h.inj b b' x x' l l' hne (hs _ _ hx) (hs _ _ hx'), fun b x l hx hf => h.ob b x l (hs _ _ hx) hf⟩

theorem HRel.nxMono (h : HRel base w0 Z φ H nx w) {nx' : Nat} (hn : nx ≤ nx') : HRel base w0 Z φ H nx' w :=
  ⟨h.below, h.z, h.z0, fun b x hx => Nat.lt_of_lt_of_le (h.fnx b x hx) hn, fun b x hx => Nat.lt_of_lt_of_le (h.hnx b x hx) hn, h.flt, h.own', h.inj, h.ob⟩

theorem HRel.drew (h : HRel base w0 Z φ H nx w) {n : Nat} : HRel base w0 Z φ H nx { w with drawn := n } :=
  ⟨⟨h.below.os, h.below.tape, h.below.output, h.below.size, h.below.block⟩, h.z, h.z0, h.fnx, h.hnx, h.flt, h.own', h.inj, h.ob⟩

theorem HRel.getLt (h : HRel base w0 Z φ H nx w) {b : Nat} {x : Blk} (hb : H.get b = some x) : b < nx := h.hnx b x hb

def PMap.set (φ : PMap) (b : Nat) (x : Loc) : PMap := fun c => if c = b then some x else φ c
theorem PMap.set_self (φ : PMap) (b : Nat) (x : Loc) : φ.set b x b = some x := by simp [PMap.set]
theorem PMap.le_set {φ : PMap} {b : Nat} {x : Loc} (h : φ b = none) : PLe φ (φ.set b x) := by
  intro c y hy; unfold PMap.set; by_cases hc : c = b
  · subst hc; rw [h] at hy; cases hy
  · simp [hc, hy]
theorem HRel.fresh (h : HRel base w0 Z φ H nx w) {b : Nat} (hb : nx ≤ b) : φ b = none := by
  cases hx : φ b with
  | none => rfl
  | some x => have := h.fnx b x hx; omega
theorem HRel.freshH (h : HRel base w0 Z φ H nx w) {b : Nat} (hb : nx ≤ b) : H.get b = none := by
  cases hx : H.get b with
  | none => rfl
  | some x => have := h.hnx b x hx; omega
theorem HRel.notZ (h : HRel base w0 Z φ H nx w) {B : Nat} (hB : w.heap.size ≤ B) : Z B = none := by
  cases hx : Z B with
  | none => rfl
  | some x => have := h.z B x hx; rw [Array.getElem?_eq_none hB] at this; cases this

theorem heap_push (w : World) (o : Obj) (k : Nat) (h : k < w.heap.size) : (w.alloc o).heap[k]? = w.heap[k]? := Below.heap_alloc w o k h
theorem heap_new (w : World) (o : Obj) : (w.alloc o).heap[w.heap.size]? = some o := by
  show (w.heap.push o)[w.heap.size]? = _
  simp

/-- A new block. -/
theorem HRel.alloc (h : HRel base w0 Z φ H nx w) {b : Nat} (hb : nx ≤ b) {o : Obj} {x : Blk} {l : Loc} (hlB : l.B = w.heap.size)
    (hx : blkRel Z (φ.set b l) (w.alloc o) l x) :
    HRel base w0 Z (φ.set b l) (H.set b x) (b + 1) (w.alloc o) := by
  have hfr := h.fresh hb
  have hle := PMap.le_set (x := l) hfr
  have hsz : (w.alloc o).heap.size = w.heap.size + 1 := by show (w.heap.push o).size = _; simp
  refine ⟨h.below.alloc o, fun B o' hB => ?_, h.z0, fun c y hy => ?_, fun c y hy => ?_, fun c l' hc => ?_, fun c y hy => ?_, ?_, ?_⟩
  · have := h.z B o' hB
    have hlt : B < w.heap.size := by
      rcases Nat.lt_or_ge B w.heap.size with hlt | hge
      · exact hlt
      · rw [Array.getElem?_eq_none hge] at this; cases this
    rw [heap_push _ _ _ hlt]; exact this
  · unfold PMap.set at hy
    by_cases hc : c = b
    · omega
    · rw [if_neg hc] at hy; have := h.fnx c y hy; omega
  · rw [Heap.get_set] at hy
    by_cases hc : c = b
    · omega
    · rw [if_neg hc] at hy; have := h.hnx c y hy; omega
  · unfold PMap.set at hc
    rw [hsz]
    by_cases hcb : c = b
    · rw [if_pos hcb] at hc; injection hc with hc; subst hc; omega
    · rw [if_neg hcb] at hc; have := h.flt c l' hc; omega
  · rw [Heap.get_set] at hy
    by_cases hcb : c = b
    · rw [if_pos hcb] at hy; injection hy with hy; subst hy; subst hcb
      exact .inr ⟨l, PMap.set_self _ _ _, by rw [hlB]; exact h.notZ (Nat.le_refl _), hx⟩
    · rw [if_neg hcb] at hy
      rcases h.own' c y hy with ⟨hg, hf⟩ | ⟨l', hf, hz, hr⟩
      · exact .inl ⟨hg, by unfold PMap.set; rw [if_neg hcb]; exact hf⟩
      · exact .inr ⟨l', hle _ _ hf, hz, hr.mono (ZLe.refl _) hle (heap_push _ _ _ (h.flt _ _ hf))⟩
  · intro c c' y y' l1 l2 hne hy hy' hc hc'
    rw [Heap.get_set] at hy hy'
    unfold PMap.set at hc hc'
    by_cases h1 : c = b
    · rw [if_pos h1] at hc
      injection hc with hc; subst hc
      by_cases h2 : c' = b
      · omega
      · rw [if_neg h2] at hc'; have := h.flt _ _ hc'; omega
    · rw [if_neg h1] at hc hy
      by_cases h2 : c' = b
      · rw [if_pos h2] at hc'; injection hc' with hc'; subst hc'; have := h.flt _ _ hc; omega
      · rw [if_neg h2] at hc' hy'
        exact h.inj c c' y y' l1 l2 hne hy hy' hc hc'
  · intro c y l1 hy hc hu
    rw [Heap.get_set] at hy
    unfold PMap.set at hc
    by_cases h1 : c = b
    · rw [if_pos h1] at hc; injection hc with hc; subst hc
      have := h.below.size; omega
    · rw [if_neg h1] at hc hy
      exact h.ob c y l1 hy hc hu

/-- What is turned is no block that is to be left alone. -/
theorem HRel.kept (h : HRel base w0 Z φ H nx w) {b : Nat} {x : Blk} {l : Loc} (hb : H.get b = some x) (hf : φ b = some l) {w' : World}
    (hos : w'.os = w.os) (htp : w'.tape = w.tape) (hout : w'.output = w.output) (hsz : w.heap.size ≤ w'.heap.size) (hbl : ∀ k, k ≠ l.B → k < w.heap.size → w'.heap[k]? = w.heap[k]?) : KeptW base w0.world w' :=
  ⟨hos.trans h.below.os, htp.trans h.below.tape, hout.trans h.below.output, Nat.le_trans h.below.size hsz, fun k hk hu => by
    rw [hbl k (fun e => by subst e; have := h.ob b x l hb hf hu; omega) (Nat.lt_of_lt_of_le hk h.below.size)]; exact h.below.block k hk hu⟩

/-- A block of the call's own is turned. -/
theorem HRel.upd (h : HRel base w0 Z φ H nx w) {b : Nat} {x x' : Blk} {l : Loc} (hb : H.get b = some x) (hf : φ b = some l) {w' : World}
    (hos : w'.os = w.os) (htp : w'.tape = w.tape) (hout : w'.output = w.output) (hsz : w.heap.size ≤ w'.heap.size) (hbl : ∀ k, k ≠ l.B → k < w.heap.size → w'.heap[k]? = w.heap[k]?) (hx : blkRel Z φ w' l x') :
    HRel base w0 Z φ (H.set b x') nx w' := by
  obtain ⟨hz, hr⟩ := h.ownAt hb hf
  refine ⟨h.kept hb hf hos htp hout hsz hbl, fun C o hC => ?_, h.z0, h.fnx, fun c y hy => ?_, fun c l' hc => by have := h.flt c l' hc; omega, fun c y hy => ?_, ?_, ?_⟩
  · rw [hbl C (fun e => by subst e; rw [hz] at hC; cases hC) (by
      rcases Nat.lt_or_ge C w.heap.size with hlt | hge
      · exact hlt
      · have := h.z C o hC; rw [Array.getElem?_eq_none hge] at this; cases this)]
    exact h.z C o hC
  · rw [Heap.get_set] at hy
    by_cases hcb : c = b
    · subst hcb; exact h.hnx c x hb
    · rw [if_neg hcb] at hy; exact h.hnx c y hy
  · rw [Heap.get_set] at hy
    by_cases hcb : c = b
    · rw [if_pos hcb] at hy; injection hy with hy; subst hy; subst hcb
      exact .inr ⟨l, hf, hz, hx⟩
    · rw [if_neg hcb] at hy
      rcases h.own' c y hy with hgh | ⟨l2, hfc, hzc, hrc⟩
      · exact .inl hgh
      refine .inr ⟨l2, hfc, hzc, hrc.mono (ZLe.refl _) (PLe.refl _) (hbl l2.B (fun e => ?_) (h.flt _ _ hfc))⟩
      exact h.inj c b y x l2 l hcb hy hb hfc hf e
  · intro c c' y y' l1 l2 hne hy hy' hc hc'
    rw [Heap.get_set] at hy hy'
    have g : ∀ d z, (if d = b then some x' else H.get d) = some z → ∃ z', H.get d = some z' := fun d z hd => by
      by_cases e : d = b
      · subst e; exact ⟨x, hb⟩
      · rw [if_neg e] at hd; exact ⟨z, hd⟩
    obtain ⟨z1, g1⟩ := g _ _ hy
    obtain ⟨z2, g2⟩ := g _ _ hy'
    exact h.inj c c' z1 z2 l1 l2 hne g1 g2 hc hc'
  · intro c y l1 hy hc
    rw [Heap.get_set] at hy
    by_cases e : c = b
    · subst e; exact h.ob c x l1 hb hc
    · rw [if_neg e] at hy; exact h.ob c y l1 hy hc
end

/-! The frame: which slots are known. -/
abbrev Fr := List (Nat × AV)
def Fr.get : Fr → Nat → AV
  | [], _ => .undef
  | (c, v) :: F, t => if t = c then v else Fr.get F t
def Fr.put (F : Fr) : Option Tmp → AV → Fr
  | some d, v => (d, v) :: F
  | none, _ => F

def FrRel (Z : ZMap) (φ : PMap) (F : Fr) (tmps : Array Value) : Prop := ∀ t, Rep Z φ (F.get t) (tmps.getD t Go.undef)

theorem FrRel.mono {Z Z' : ZMap} {φ φ' : PMap} (hZ : ZLe Z Z') (hφ : PLe φ φ') {F : Fr} {tmps : Array Value} (h : FrRel Z φ F tmps) : FrRel Z' φ' F tmps :=
  fun t => (h t).mono hZ hφ

theorem FrRel.put {Z : ZMap} {φ : PMap} {F : Fr} {a : Act} (h : FrRel Z φ F a.tmps) {dst : Option Tmp} {r : AV} {v : Value} (hd : ∀ d, dst = some d → d < a.tmps.size) (hr : Rep Z φ r v) :
    FrRel Z φ (F.put dst r) (a.put dst v).tmps := by
  cases dst with
  | none => exact h
  | some d =>
    intro t
    have := hd d rfl
    simp only [Fr.put, Fr.get, Act.put]
    by_cases ht : t = d
    · subst ht; rw [if_pos rfl]; simpa [Array.getD, this] using hr
    · rw [if_neg ht]
      have h1 := h t
      simpa [Array.getD_eq_getD_getElem?, Array.getElem?_setIfInBounds, Ne.symm ht] using h1

/-- A constant. -/
def lift1 : Value → AV
  | .bool b => .bool b
  | .int k n => .int k n
  | .string s => .str s.data.toList
  | .pointer none => .nilp
  | .slice none 0 0 => .nils
  | .map none => .nilm
  | .nilFunc => .nilf
  | .nilIface => .nili
  | _ => .undef
def lift : Value → AV
  | .agg cs => .agg (cs.toList.map lift1)
  | .tuple cs => .tup (cs.toList.map lift1)
  | .iface t v => .iface t (lift1 v)
  | v => lift1 v
theorem rep_lift1 (Z : ZMap) (φ : PMap) (v : Value) : Rep Z φ (lift1 v) v := by
  unfold lift1; split <;> first | (constructor; done) | exact .str _ | exact .undef _
theorem rep_lift (Z : ZMap) (φ : PMap) (v : Value) : Rep Z φ (lift v) v := by
  unfold lift
  split
  · refine .agg (by simp) fun i v u h1 h2 => ?_
    rw [List.getElem?_map, Array.getElem?_toList, h2] at h1
    simp only [Option.map_some] at h1; injection h1 with h1; subst h1; exact rep_lift1 _ _ _
  · refine .tup (by simp) fun i v u h1 h2 => ?_
    rw [List.getElem?_map, Array.getElem?_toList, h2] at h1
    simp only [Option.map_some] at h1; injection h1 with h1; subst h1; exact rep_lift1 _ _ _
  · exact .iface (rep_lift1 _ _ _)
  · exact rep_lift1 _ _ _

def ev (F : Fr) : Operand → AV
  | .tmp t => F.get t
  | .const v => lift v
  | .global _ => .undef
  | .func f => .fn (.func f) [] []

theorem rep_ev {Z : ZMap} {φ : PMap} {F : Fr} {a : Act} (h : FrRel Z φ F a.tmps) (x : Operand) : Rep Z φ (ev F x) (a.eval x) := by
  cases x with
  | tmp t => exact h t
  | const v => exact rep_lift _ _ _
  | global g => exact .undef _
  | func f => exact .fn rfl rfl (fun i v u h _ => by simp at h) (fun i v u h _ => by simp at h)

end Go.Lom
