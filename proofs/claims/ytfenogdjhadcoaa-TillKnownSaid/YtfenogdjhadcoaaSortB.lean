/- The library's sort of whole numbers, as a contract over own lists. Conditions: the program's texts are the library's (Lays). -/
import Derived.Test.YtfenogdjhadcoaaLibD
import Derived.Shelf.Sort.Plain
import Derived.KernelRfl
set_option linter.all false
set_option maxRecDepth 100000
set_option maxHeartbeats 4000000
namespace Go.P8
open Go.Lom Go.Proofs Go Go.Sort Go.Shelf Go.RowKit
abbrev sortI (xs : List Int) : List Int := xs.mergeSort fun x y => decide (x <= y)
theorem sortI_len (xs : List Int) : (sortI xs).length = xs.length := List.length_mergeSort xs
abbrev fcSort : FC2 := ⟨.cons (.lst 0 (.i .i64)) .nil, 1, .cons (.lst 0 (.i .i64)) .nil, 1, fun x K => x.1.length < 4611686018427387904 /\ K (sortI x.1, ())⟩
theorem rep_int {Z : ZMap} {φ : PMap} {k : IntKind} {n : Int} {u : Value} (h : Rep Z φ (.int k n) u) : u = .int k n := by cases h; rfl
theorem mem_bang (d : List Int) (j : Nat) (hj : j < d.length) : d.toArray[j]! = d[j] := by
 simp [hj]
theorem put_heap (w : World) (n : Nat) (B off : Nat) (d : Array Int) (os : Array Obj) {c : Array Value} {T : TypeId} {fz : Nat × Nat} (hw : w.heap[B]? = some (.cells c T fz)) :
  (grow (putRow (Value.int .i64) (Sort.ahead w n) B off d) os).heap[B]? = some (.cells (putCells (Value.int .i64) off d c) T fz) := by
 have hlt : B < w.heap.size := (Array.getElem?_eq_some_iff.1 hw).1
 unfold grow putRow mapBlock Sort.ahead
 show ((w.heap.modify B (onCells (putCells (Value.int .i64) off d))) ++ os)[B]? = _
 rw [Array.getElem?_append, if_pos (by simpa using hlt), Array.getElem?_modify, if_pos rfl, hw]
 rfl
theorem put_heap_ne (w : World) (n : Nat) (B off : Nat) (d : Array Int) (os : Array Obj) (k : Nat) (hk : k ≠ B) (hlt : k < w.heap.size) :
  (grow (putRow (Value.int .i64) (Sort.ahead w n) B off d) os).heap[k]? = w.heap[k]? := by
 unfold grow putRow mapBlock Sort.ahead
 show ((w.heap.modify B (onCells (putCells (Value.int .i64) off d))) ++ os)[k]? = _
 rw [Array.getElem?_append, if_pos (by simpa using hlt), Array.getElem?_modify, if_neg (Ne.symm hk)]
theorem put_size (w : World) (n : Nat) (B off : Nat) (d : Array Int) (os : Array Obj) : w.heap.size <= (grow (putRow (Value.int .i64) (Sort.ahead w n) B off d) os).heap.size := by
 unfold grow putRow mapBlock Sort.ahead
 show w.heap.size <= ((w.heap.modify B (onCells (putCells (Value.int .i64) off d))) ++ os).size
 simp
theorem sort_own {P : Program} {ρ : Ren} (Ly : Lays.n189 P ρ) {base : Nat -> Prop} {w0 : Lom.Start} {Z : ZMap} {φ : PMap} {w : World} {xs : List Int} {l : Lom.Loc} {c : Nat}
  (hH : HRel base w0 Z φ [(0, .lst (.i .i64) xs)] 1 w) (hf : φ 0 = some l) (hs : l.s = 1) (hsz : xs.length < 4611686018427387904) :
  Calls P (ρ.f 189) #[.slice (some ⟨l.B, l.ob, none⟩) xs.length c] w fun e w' => e = .returned (.tuple #[]) /\ HRel base w0 Z φ [(0, .lst (.i .i64) (sortI xs))] 1 w' := by
 have hg : Heap.get [(0, Blk.lst (.i .i64) xs)] 0 = some (.lst (.i .i64) xs) := rfl
 obtain ⟨hz, hrel⟩ := hH.ownAt hg hf
 obtain ⟨h1, h2, cs, T, fz, hw, hsz2, hfz, he⟩ := hrel
 have hlen : xs.length <= l.lim := by simpa using h2
 have hcell : ∀ j (hj : j < xs.length), cs[l.ob + j]? = some (.int .i64 xs[j]) := fun j hj => by
  obtain ⟨_, _, hc⟩ := he j [.int .i64 xs[j]] (by simp [hj, Ty.enc])
  obtain ⟨u, hu, hr⟩ := hc 0 (.int .i64 xs[j]) rfl
  rw [rep_int hr] at hu
  rw [hs, Nat.mul_one, Nat.add_zero] at hu
  exact hu
 refine (Any.slices_Sort_int Ly l.B l.ob c xs w ?_ (hH.flt 0 l hf) hsz).mono ?_
 ·intro j hj
  have hj' : j < xs.length := by simpa using hj
  rw [mem_bang xs j hj']
  refine ⟨?_, ?_⟩
  ·simp only [World.cell?, hw]
   simpa using hcell j hj'
  ·simp only [World.frozen?, hw]
   have := hfz (l.ob + j) (by have := (Array.getElem?_eq_some_iff.1 (hcell j hj')).1; exact this)
   simpa using this
 ·rintro e w' ⟨rfl, n, os, rfl⟩
  refine ⟨rfl, ?_⟩
  have hset : Heap.set [(0, Blk.lst (.i .i64) xs)] 0 (.lst (.i .i64) (sortI xs)) = [(0, .lst (.i .i64) (sortI xs))] := rfl
  rw [<- hset]
  refine hH.upd hg hf rfl rfl rfl (put_size ..) (fun k hk hlt => put_heap_ne w n l.B l.ob _ os k hk hlt) ?_
  refine ⟨h1, by simpa [sortI_len] using hlen, _, T, fz, put_heap w n l.B l.ob _ os hw, ?_, ?_, ?_⟩
  ·simpa [putCells] using hsz2
  ·intro x hx; exact hfz x (by simpa [putCells] using hx)
  ·intro i e hi
   have hi' : i < (sortI xs).length := by
    have := (List.getElem?_eq_some_iff.1 hi).1
    simpa using this
   have hie : e = [.int .i64 (sortI xs)[i]] := by
    rw [List.getElem?_map, List.getElem?_eq_getElem hi'] at hi
    simpa [Ty.enc] using hi.symm
   subst hie
   refine ⟨by rw [hs]; rfl, rfl, fun j v hj => ?_⟩
   have hj0 : j = 0 := by cases j with | zero => rfl | succ j => simp at hj
   subst hj0
   have hv : v = .int .i64 (sortI xs)[i] := by simpa using hj.symm
   subst hv
   refine ⟨_, ?_, .int .i64 _⟩
   have hix : i < xs.length := by rw [sortI_len] at hi'; exact hi'
   have hc := hcell i hix
   rw [hs, Nat.mul_one, Nat.add_zero]
   simp only [putCells, Array.getElem?_mapIdx, hc, Option.map_some]
   rw [if_pos ⟨by omega, by simp only [List.size_toArray, sortI_len]; omega⟩, show l.ob + i - l.ob = i by omega, mem_bang _ i hi']
theorem ok_sort {P : Program} {ρ : Ren} (Ly : Lays.n189 P ρ) (hE : PCok P (ρ.f 189) [.v (.sl (.i .i64))] [] fun x K => x.1 = [] /\ K ()) : F2Ok P (ρ.f 189) fcSort := by
 rintro ⟨xs, _⟩ K ⟨hlt, hK⟩ base w0 Z φ w us hH hr
 have hus : us.size = 1 := hr.1
 obtain ⟨u, hu⟩ : ∃ u, us = #[u] := ⟨us[0], by
  apply Array.ext
  ·simpa using hus
  ·intro i h1 h2
   have : i = 0 := by simp at h2; exact h2
   subst this; simp⟩
 subst hu
 have h0 : Rep Z φ (.sl 0 1 0 xs.length none) u := hr.2 0 _ u rfl rfl
 have hH : HRel base w0 Z φ [(0, .lst (.i .i64) xs)] 1 w := hH
 have fin : ∀ {c : Nat} {a : Addr} {l : Lom.Loc}, φ 0 = some l -> l.s = 1 -> (a = ⟨l.B, l.ob + 0 * 1, none⟩) -> Calls P (ρ.f 189) #[.slice (some a) xs.length c] w fun e w' => ∃ Z' φ' x H' nx', ZLe Z Z' /\ PLe φ φ' /\ ERel Z' φ' x e /\ HRel base w0 Z' φ' H' nx' w' /\ (∃ y : (SV.cons (.lst 0 (.i .i64)) .nil).den, x = .ret (tupOf ((putS id (.cons (.lst 0 (.i .i64)) .nil) y).l.drop 1)) /\ H' = (putS id (.cons (.lst 0 (.i .i64)) .nil) y).h /\ nx' = 1 /\ K y) := by
  intro c a l hf hs ha
  subst ha
  refine (sort_own Ly (c := c) hH hf hs hlt).mono ?_
  rintro e w' ⟨rfl, hH'⟩
  refine ⟨Z, φ, .ret (.tup []), _, 1, ZLe.refl _, PLe.refl _, ?_, hH', (sortI xs, ()), rfl, rfl, rfl, hK⟩
  exact .tup rfl fun i v u h => by simp at h
 have emp : xs = [] -> Rep Z φ (.rl (.i .i64) []) u -> Calls P (ρ.f 189) #[u] w fun e w' => ∃ Z' φ' x H' nx', ZLe Z Z' /\ PLe φ φ' /\ ERel Z' φ' x e /\ HRel base w0 Z' φ' H' nx' w' /\ (∃ y : (SV.cons (.lst 0 (.i .i64)) .nil).den, x = .ret (tupOf ((putS id (.cons (.lst 0 (.i .i64)) .nil) y).l.drop 1)) /\ H' = (putS id (.cons (.lst 0 (.i .i64)) .nil) y).h /\ nx' = 1 /\ K y) := by
  intro hx hre
  subst hx
  have hp := pcD_ok (other := False) hE (avs := [.rl (.i .i64) []]) (H := [(0, .lst (.i .i64) [])]) (nx := 1) (R := fun x G m => x = .ret (.tup []) /\ G = [(0, Blk.lst (.i .i64) [])] /\ m = 1) (by simp [pcD, flatL, Ty.flat, decAs, allP, tupOf, vals, Ty.val]; exact rfl) fun h => h.elim
  refine (hp base w0 Z φ w #[u] hH ⟨rfl, fun i v y h1 h2 => ?_⟩).mono fun e w' ⟨Z', φ', x, G, m, a1, a2, a3, a4, a5⟩ => ?_
  ·cases i with
   | zero => simp at h1 h2; subst h1; subst h2; exact hre
   | succ i => simp at h1
  ·obtain ⟨rfl, rfl, rfl⟩ := a5
   exact ⟨Z', φ', _, _, 1, a1, a2, a3, a4, ([], ()), rfl, rfl, rfl, by simpa [sortI] using hK⟩
 generalize hn : xs.length = n at h0
 cases h0 with
 | sl h hs hc hl hm ha =>
  subst hn
  rcases ha with ha | hc0
  ·exact fin h hs ha
  ·subst hc0
   have hx : xs = [] := List.eq_nil_of_length_eq_zero (by omega)
   subst hx
   exact emp rfl (.rl (.rs (B := 0) (off := 0) (s := 1) (fun _ _ => .int .i64 0) rfl (Nat.zero_le _) (Or.inr rfl) (fun i e h => by simp at h) (fun i e j v h => by simp at h) (fun i e j v h => by simp at h)))
 | sl0n hc =>
  have hx : xs = [] := List.eq_nil_of_length_eq_zero hn
  exact emp hx (.rl .rs0)
 | sl0s hc a =>
  have hx : xs = [] := List.eq_nil_of_length_eq_zero hn
  exact emp hx (.rl (.rs (B := 0) (off := 0) (s := 1) (fun _ _ => .int .i64 0) rfl (Nat.zero_le _) (Or.inr rfl) (fun i e h => by simp at h) (fun i e j v h => by simp at h) (fun i e j v h => by simp at h)))
end Go.P8
