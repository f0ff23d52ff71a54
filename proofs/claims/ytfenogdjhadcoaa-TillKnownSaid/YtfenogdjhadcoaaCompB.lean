/- The library's Compact of whole numbers, as a contract over own lists. Conditions: the program's texts are the library's (Lays2). -/
import Derived.Test.YtfenogdjhadcoaaSortB
import Derived.Shelf.Slices.CompactI
set_option linter.all false
set_option maxRecDepth 100000
set_option maxHeartbeats 4000000
namespace Go.P8
open Go.Lom Go.Proofs Go Go.Sort Go.Shelf Go.RowKit
abbrev compI (xs : List Int) : List Int := Go.Lib.compact xs
theorem compI_le (xs : List Int) : (compI xs).length <= xs.length := by
 unfold compI Go.Lib.compact Go.Lib.compactUpTo
 rw [List.length_map]
 exact Nat.le_trans (List.length_filter_le _ _) (by rw [List.length_range]; exact Nat.le_refl _)
abbrev fcComp : FC2 := ⟨.cons (.lst 0 (.i .i64)) .nil, 1, .cons .any (.cons (.own 0 (.i .i64)) .nil), 1, fun x K => (1 <= x.1.length /\ x.1.length < 4611686018427387904) /\ ∀ r : List Int, r = compI x.1 -> K ((), r, ())⟩
theorem comp_own {P : Program} {ρ : Ren} (Ly : Lays2.n20 P ρ) {base : Nat -> Prop} {w0 : Lom.Start} {Z : ZMap} {φ : PMap} {w : World} {xs : List Int} {l : Lom.Loc} {c : Nat}
  (hH : HRel base w0 Z φ [(0, .lst (.i .i64) xs)] 1 w) (hf : φ 0 = some l) (hs : l.s = 1) (hsz : xs.length < 4611686018427387904) (hc : xs.length <= c) :
  Calls P (ρ.f 20) #[.slice (some ⟨l.B, l.ob, none⟩) xs.length c] w fun e w' => e = .returned (.slice (some ⟨l.B, l.ob, none⟩) (compI xs).length c) /\ HRel base w0 Z φ [(0, .lst (.i .i64) (compI xs))] 1 w' := by
 have hg : Heap.get [(0, Blk.lst (.i .i64) xs)] 0 = some (.lst (.i .i64) xs) := rfl
 obtain ⟨hz, hrel⟩ := hH.ownAt hg hf
 obtain ⟨h1, h2, cs, T, fz, hw, hsz2, hfz, he⟩ := hrel
 have hlen : xs.length <= l.lim := by simpa using h2
 have hcell : ∀ j (hj : j < xs.length), cs[l.ob + j]? = some (.int .i64 xs[j]) := fun j hj => by
  obtain ⟨_, _, hc⟩ := he j [.int .i64 xs[j]] (by simp [hj, Ty.enc])
  obtain ⟨u, hu, hr⟩ := hc 0 (.int .i64 xs[j]) rfl
  rw [rep_int hr] at hu
  rw [hs, Nat.mul_one, Nat.add_zero] at hu
  exact hu
 refine (Any.slices_Compact_int Ly l.B l.ob c xs w ?_ (by omega) hc).mono ?_
 ·intro j hj
  have hj' : j < xs.length := by simpa using hj
  rw [mem_bang xs j hj']
  refine ⟨?_, ?_⟩
  ·simp only [World.cell?, hw]
   simpa using hcell j hj'
  ·simp only [World.frozen?, hw]
   have := hfz (l.ob + j) (by have := (Array.getElem?_eq_some_iff.1 (hcell j hj')).1; exact this)
   simpa using this
 ·rintro e w' ⟨rfl, n, rfl⟩
  refine ⟨rfl, ?_⟩
  have hle := compI_le xs
  generalize hd : compI xs ++ List.replicate (xs.length - (compI xs).length) 0 = d
  have hdl : d.length = xs.length := by rw [<- hd, List.length_append, List.length_replicate]; omega
  have hdg : ∀ i (h : i < (compI xs).length), d[i]? = some ((compI xs)[i]) := fun i h => by
   rw [<- hd, List.getElem?_append_left h, List.getElem?_eq_getElem h]
  rw [show putRow (Value.int .i64) (Sort.ahead w n) l.B l.ob d.toArray = grow (putRow (Value.int .i64) (Sort.ahead w n) l.B l.ob d.toArray) #[] from (grow_empty _).symm]
  have hset : Heap.set [(0, Blk.lst (.i .i64) xs)] 0 (.lst (.i .i64) (compI xs)) = [(0, .lst (.i .i64) (compI xs))] := rfl
  rw [<- hset]
  refine hH.upd hg hf rfl rfl rfl (put_size ..) (fun k hk hlt => put_heap_ne w n l.B l.ob _ #[] k hk hlt) ?_
  refine ⟨h1, by simp only [List.length_map]; exact Nat.le_trans hle hlen, _, T, fz, put_heap w n l.B l.ob _ #[] hw, ?_, ?_, ?_⟩
  ·simpa [putCells] using hsz2
  ·intro x hx; exact hfz x (by simpa [putCells] using hx)
  ·intro i e hi
   have hi' : i < (compI xs).length := by
    have := (List.getElem?_eq_some_iff.1 hi).1
    simpa using this
   have hie : e = [.int .i64 (compI xs)[i]] := by
    rw [List.getElem?_map, List.getElem?_eq_getElem hi'] at hi
    simpa [Ty.enc] using hi.symm
   subst hie
   refine ⟨by rw [hs]; rfl, rfl, fun j v hj => ?_⟩
   have hj0 : j = 0 := by cases j with | zero => rfl | succ j => simp at hj
   subst hj0
   have hv : v = .int .i64 (compI xs)[i] := by simpa using hj.symm
   subst hv
   refine ⟨_, ?_, .int .i64 _⟩
   have hix : i < xs.length := by omega
   have hc := hcell i hix
   have hid : i < d.length := by omega
   rw [hs, Nat.mul_one, Nat.add_zero]
   simp only [putCells, Array.getElem?_mapIdx, hc, Option.map_some]
   rw [if_pos ⟨by omega, by simp only [List.size_toArray]; omega⟩, show l.ob + i - l.ob = i by omega, mem_bang d i hid]
   have := hdg i hi'
   rw [List.getElem?_eq_getElem hid] at this
   injection this with this
   rw [this]
theorem ok_comp {P : Program} {ρ : Ren} (Ly : Lays2.n20 P ρ) : F2Ok P (ρ.f 20) fcComp := by
 rintro ⟨xs, _⟩ K ⟨⟨h1, hlt⟩, hK⟩ base w0 Z φ w us hH hr
 have hus : us.size = 1 := hr.1
 obtain ⟨u, hu⟩ : ∃ u, us = #[u] := ⟨us[0], by
  apply Array.ext
  ·simpa using hus
  ·intro i h1 h2
   have : i = 0 := by simp at h2; exact h2
   subst this; simp⟩
 subst hu
 have h0 : Rep Z φ (.sl 0 1 0 xs.length none) u := hr.2 0 _ u rfl rfl
 have hH : HRel base w0 Z φ [(0, .lst (.i .i64) xs)] 1 w := hH
 have h1 : 1 <= xs.length := h1
 have hlt : xs.length < 4611686018427387904 := hlt
 generalize hn : xs.length = n at h0
 cases h0 with
 | sl h hs hc hl hm ha =>
  subst hn
  rcases ha with ha | hc0
  ·rename_i c l a
   have ha : a = ⟨l.B, l.ob, none⟩ := by rw [ha, Nat.zero_mul, Nat.add_zero]
   subst ha
   refine (comp_own Ly (c := c) hH h hs hlt (by omega)).mono ?_
   rintro e w' ⟨rfl, hH'⟩
   have hle := compI_le xs
   refine ⟨Z, φ, .ret (.sl 0 1 0 (compI xs).length none), _, 1, ZLe.refl _, PLe.refl _, ?_, hH', ((), compI xs, ()), rfl, rfl, rfl, hK _ rfl⟩
   refine .sl h hs (Nat.le_trans hle hl) (Nat.le_trans hle hl) hm (.inl ?_)
   rw [Nat.zero_mul, Nat.add_zero]
  ·omega
 | sl0n hc => omega
 | sl0s hc a => omega
end Go.P8
