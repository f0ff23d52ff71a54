/- What the condition on the package variable gives: the map of the calls. No conditions of its own. -/
import Derived.Test.YtcpdcpfbgmiaoaaDoorRows
import Derived.ProofKit
import Derived.LaidMore
import Derived.Stop.Joined
import Derived.Test.YtcpdcpfbgmiaoaaDoorLibV
set_option linter.all false
namespace Go.P3
open Go.Lom Go.Proofs Go.Proofs.YtcpdcpfbgmiaoaaDoor Go Go.ChangeShapes Go.WideShapes Go.ChangeAt Go.WideElems Go.RowKit
abbrev laidL : List (String × DataW Unit) := [("lombard/ticket.calls", Rows.laid_lombard_ticket_calls)]
theorem gCalls : Tryd.prog.globalNamed "lombard/ticket.calls" = some 0 := by kernel_rfl
theorem tCalls : (Tryd.prog.globals[0]?).map (·.type) = some 128 := by kernel_rfl
theorem door_met (os : Os) (args : Array Value) : laidMetH Tryd.prog laidL ((World.doorLaid Tryd.prog 49 os).forCall (fun _ _ => 0) ⟨#[], args, []⟩).memory :=
 laidMetH_of_parts3 (fuel := 8) (laidMet_of_run' 8 (by kernel_rfl) (by kernel_rfl)) (by kernel_rfl) (by kernel_rfl)
def callsE : List (AV × AV) := [(.int .i64 1, .fn (.func 126) [] []), (.int .i64 2, .fn (.func 127) [] []), (.int .i64 3, .fn (.func 128) [] []), (.int .i64 4, .fn (.func 129) [] []), (.int .i64 5, .fn (.func 130) [] []), (.int .i64 6, .fn (.func 131) [] []), (.int .i64 7, .fn (.func 132) [] [])]
def keyAV (m : MapEntry) : AV × AV := match m.key with
 | .int k n => (.int k n, .fn (.func (125 + n).toNat) [] [])
 | _ => (.undef, .undef)
theorem key_int {v : Value} {n : Int} (h : keyOf Tryd.prog 3 v = some (.int .i64 n)) : v = .int .i64 n := by
 rw [keyOf_int Tryd.underlying3] at h
 unfold mapKey at h
 rw [Tryd.underlying3] at h
 split at h
 ·cases h
 ·rename_i q q' n' e
  split at h
  ·rename_i hq
   cases e
   injection h with h
   injection h with h1 h2
   rw [hq.1, h2]
  ·cases h
 ·rename_i e; cases e
 ·cases h
theorem of_laid {W : World} (h : laidMetH Tryd.prog laidL W) : GlobOk (zAll W) := by
 obtain ⟨g, t, cs, fuel, p, hg, ht, hv, hd⟩ := h.funcs (List.mem_singleton.2 rfl)
 obtain rfl := Option.some.inj (gCalls.symm.trans hg)
 obtain rfl := Option.some.inj (tCalls.symm.trans ht)
 rcases open_map Tryd.underlying128 hd with ⟨_, hx⟩ | ⟨bm, es, clock, m, rfl, hcs, hb, _, F, hx⟩
 ·simp [DataW.funcsOut] at hx
 simp only [Prod.mk.injEq, DataW.funcsOut, DataW.funcsOutEntries, DataW.map.injEq] at hx
 have hperm := sorted_perm (es.toList.map (rg Tryd.prog 3 (elemAt (funcToken Tryd.prog) Tryd.prog W 0 (fun _ => true) true m 126)))
 rw [<- hx.1] at hperm
 have one : ∀ x ∈ es.toList, ∃ n : Int, x.key = .int .i64 n /\ (keyAV x) ∈ callsE /\ x.val = .func (.func (125 + n).toNat) #[] #[] := by
  intro x hxm
  have hmem := hperm.mem_iff.2 (List.mem_map_of_mem (f := rg Tryd.prog 3 (elemAt (funcToken Tryd.prog) Tryd.prog W 0 (fun _ => true) true m 126)) hxm)
  obtain ⟨y, hy⟩ := F.reads x hxm
  rw [rg_of hy] at hmem
  obtain ⟨z, hz, hyz⟩ := rd_val hy
  have hk := rd_key hy
  unfold elemAt at hz
  split at hz
  ·rename_i hform
   have hc : x.val.cells.toList = [x.val] := by
    cases hxv : x.val with
    | agg cs => rw [hxv] at hform; simp [Value.formed, Tryd.underlying126] at hform
    | _ => rfl
   rw [hc] at hz
   have go : ∀ (n : Int) (b : UInt8) (r : List UInt8) (f : FuncId), y = (.int .i64 n, .held (b :: r)) -> (125 + n).toNat = f ->
     ((List.range Tryd.prog.funcs.size).filter fun f => (Tryd.prog.funcs[f]?).any (·.name.toUTF8.data.toList == b :: r)) = [f] -> (.int .i64 n, .fn (.func f) [] []) ∈ callsE ->
     ∃ n : Int, x.key = .int .i64 n /\ (keyAV x) ∈ callsE /\ x.val = .func (.func (125 + n).toNat) #[] #[] := by
    intro n b r f hy' hf hone hin
    subst hy'
    have hkey := key_int hk
    obtain ⟨z1, z2⟩ := z
    simp only at hyz
    subst hyz
    have := func_of_trod Tryd.underlying126 hone hz
    subst hf
    exact ⟨n, hkey, by unfold keyAV; rw [hkey]; exact hin, this⟩
   simp only [List.mem_cons, List.not_mem_nil, or_false] at hmem
   rcases hmem with h1 | h1 | h1 | h1 | h1 | h1 | h1
   ·exact go 1 _ _ 126 h1 rfl (by kernel_rfl) (by simp [callsE])
   ·exact go 2 _ _ 127 h1 rfl (by kernel_rfl) (by simp [callsE])
   ·exact go 3 _ _ 128 h1 rfl (by kernel_rfl) (by simp [callsE])
   ·exact go 4 _ _ 129 h1 rfl (by kernel_rfl) (by simp [callsE])
   ·exact go 5 _ _ 130 h1 rfl (by kernel_rfl) (by simp [callsE])
   ·exact go 6 _ _ 131 h1 rfl (by kernel_rfl) (by simp [callsE])
   ·exact go 7 _ _ 132 h1 rfl (by kernel_rfl) (by simp [callsE])
  ·cases hz
 have all : ∀ n : Int, 1 <= n -> n <= 7 -> ∃ x ∈ es.toList, x.key = .int .i64 n := by
  intro n h1 h7
  have fin : ∀ (d : DataW (List UInt8)), (Lit.int .i64 n, d) ∈ es.toList.map (rg Tryd.prog 3 (elemAt (funcToken Tryd.prog) Tryd.prog W 0 (fun _ => true) true m 126)) -> ∃ x ∈ es.toList, x.key = .int .i64 n := by
   intro d hd
   obtain ⟨x, hxm, hr⟩ := List.mem_map.1 hd
   obtain ⟨y, hy⟩ := F.reads x hxm
   rw [rg_of hy] at hr
   subst hr
   exact ⟨x, hxm, key_int (rd_key hy)⟩
  have h : n = 1 \/ n = 2 \/ n = 3 \/ n = 4 \/ n = 5 \/ n = 6 \/ n = 7 := by omega
  rcases h with rfl | rfl | rfl | rfl | rfl | rfl | rfl
  ·exact fin _ (hperm.mem_iff.1 (.head _))
  ·exact fin _ (hperm.mem_iff.1 (.tail _ (.head _)))
  ·exact fin _ (hperm.mem_iff.1 (.tail _ (.tail _ (.head _))))
  ·exact fin _ (hperm.mem_iff.1 (.tail _ (.tail _ (.tail _ (.head _)))))
  ·exact fin _ (hperm.mem_iff.1 (.tail _ (.tail _ (.tail _ (.tail _ (.head _))))))
  ·exact fin _ (hperm.mem_iff.1 (.tail _ (.tail _ (.tail _ (.tail _ (.tail _ (.head _)))))))
  ·exact fin _ (hperm.mem_iff.1 (.tail _ (.tail _ (.tail _ (.tail _ (.tail _ (.tail _ (.head _))))))))
 have hcell : W.cell? ⟨0, 0, none⟩ = some (.map (some bm)) := by
  have := World.var?_cell hg hv 0
  rw [Array.eq_one_of_toList hcs] at this
  simpa using this
 have hZ : (zAll W) bm = some (.map es clock) := hb
 have hrep : Rep (zAll W) (fun _ => none) (.rm callsE) (.map (some bm)) := by
  refine .rm (es' := es.toList.map keyAV) hZ (by simp) (fun q hq => ?_) (fun q hq => ?_) (fun i k v x hi hx => ?_) fun i k v x hi hx => ?_
  ·obtain ⟨x, hxm, rfl⟩ := List.mem_map.1 hq
   obtain ⟨n, _, h2, _⟩ := one x hxm
   exact h2
  ·have key : ∀ (n : Int) (f : Nat), 1 <= n -> n <= 7 -> (125 + n).toNat = f -> ((.int .i64 n, .fn (.func f) [] []) : AV × AV) ∈ es.toList.map keyAV := fun n f h1 h7 hf => by
    obtain ⟨x, hxm, hk⟩ := all n h1 h7
    refine List.mem_map.2 ⟨x, hxm, ?_⟩
    unfold keyAV; rw [hk]; simp only; rw [hf]
   unfold callsE at hq
   simp only [List.mem_cons, List.not_mem_nil, or_false] at hq
   rcases hq with rfl | rfl | rfl | rfl | rfl | rfl | rfl <;> exact key _ _ (by omega) (by omega) rfl
  all_goals
   rw [List.getElem?_map] at hi
   have hx' : es.toList[i]? = some x := by simpa using hx
   rw [hx'] at hi
   have hxm : x ∈ es.toList := List.mem_of_getElem? hx'
   obtain ⟨n, hk, _, hval⟩ := one x hxm
   simp only [Option.map_some, Option.some.injEq, keyAV, hk, Prod.mk.injEq] at hi
   obtain ⟨rfl, rfl⟩ := hi
  ·rw [hk]; exact .int _ _
  ·rw [hval]; exact .fn rfl rfl (fun i v u h _ => by simp at h) (fun i v u h _ => by simp at h)
 intro g e he
 unfold globVal at he
 split at he
 ·injection he with he; subst he
  refine ⟨fun _ => .map (some bm), fun j v hj => ?_⟩
  cases j with
  | succ j => simp at hj
  | zero =>
   simp only [List.getElem?_cons_zero, Option.some.injEq] at hj
   subst hj
   refine ⟨?_, hrep⟩
   unfold World.cell? at hcell
   unfold zcell zAll
   simp only at hcell
   split at hcell <;> simp_all
 ·cases he
end Go.P3
