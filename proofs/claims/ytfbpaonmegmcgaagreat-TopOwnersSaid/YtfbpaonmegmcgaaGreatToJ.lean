/- TopOwners: strings.Join of the example, as a contract. No conditions. -/
import Derived.Test.YtfbpaonmegmcgaaGreatTryzShelf
import Derived.Test.YtfbpaonmegmcgaaGreatTryzShelf
set_option linter.all false
set_option maxRecDepth 100000
set_option maxHeartbeats 400000
namespace Go.PT
open Go.Lom Go.Proofs Go Go.P9
theorem hrel_below {base : Nat -> Prop} {w0 : Lom.Start} {Z : ZMap} {φ : PMap} {w w' : World} (hH : HRel base w0 Z φ [] 0 w) (hb : Go.RowKit.Below w.heap.size w w') : HRel base w0 Z φ [] 0 w' :=
 ⟨hH.below.trans ⟨hb.os, hb.tape, hb.output, hb.size, fun k hk _ => hb.block k hk⟩, fun B o hB => (hb.block B (Array.getElem?_eq_some_iff.1 (hH.z B o hB)).1).trans (hH.z B o hB), hH.z0, hH.gl, hH.fnx,
  fun b x h => by simp [Heap.get] at h, fun b l h => Nat.lt_of_lt_of_le (hH.flt b l h) hb.size, fun b x h => by simp [Heap.get] at h, fun b b' x x' l l' _ h => by simp [Heap.get] at h, fun b x l h => by simp [Heap.get] at h⟩
def baCoat : ByteArray := ⟨txCoat.toArray⟩
def baFur : ByteArray := ⟨txFur.toArray⟩
theorem join_all : (⟨(Lib.join ([baCoat, baFur].map (·.data.toList)) (⟨([32] : Tx).toArray⟩ : ByteArray).data.toList).toArray⟩ : ByteArray) = ⟨txAll.toArray⟩ := by rfl
theorem kkJoin : FnOk Tryz.prog 109 fkJoin := fun x K hx => by
 obtain ⟨l, s, ⟨⟩⟩ := x
 obtain ⟨hc, hK⟩ := whenB_iff.1 hx
 rw [Bool.and_eq_true] at hc
 have hl : (l : List Tx) = [txCoat, txFur] := of_decide_eq_true hc.1
 have hs : (s : Tx) = [32] := of_decide_eq_true hc.2
 subst hl hs
 intro base w0 Z φ w us hH hr
 obtain ⟨hsz, hrep⟩ := hr
 have hsz : us.size = 2 := hsz
 obtain ⟨u0, u1, rfl⟩ : ∃ u0 u1, us = #[u0, u1] := ⟨us[0], us[1], by
  apply Array.ext
  ·simp [hsz]
  ·intro i h1 h2
   have : i = 0 \/ i = 1 := by omega
   rcases this with rfl | rfl <;> rfl⟩
 have r0 : Rep Z φ (.rl .s [txCoat, txFur]) u0 := hrep 0 _ _ rfl rfl
 have r1 : Rep Z φ (.str [32]) u1 := hrep 1 _ _ rfl rfl
 cases r1
 cases r0 with
 | rl h =>
  rename_i ao n c hzz
  generalize hxs : ([txCoat, txFur].map (Ty.enc .s)) = xs at h
  cases h with
  | rs0 => cases hxs
  | rs us hn hc ha h0 h1 h2 =>
   rename_i B off s a
   subst hxs
   have hn : n = 2 := hn.symm
   subst hn
   have ha : a = ⟨B, off, none⟩ := ha.resolve_right (by omega)
   subst ha
   have s1 : s = 1 := (h0 0 [.str txCoat] rfl).1.symm
   subst s1
   have c0 := h1 0 [.str txCoat] 0 (.str txCoat) rfl rfl
   have c1 := h1 1 [.str txFur] 0 (.str txFur) rfl rfl
   have v0 : us 0 0 = .string baCoat := by
    have := h2 0 [.str txCoat] 0 (.str txCoat) rfl rfl
    generalize us 0 0 = v at this
    cases this; rfl
   have v1 : us 1 0 = .string baFur := by
    have := h2 1 [.str txFur] 0 (.str txFur) rfl rfl
    generalize us 1 0 = v at this
    cases this; rfl
   rw [v0] at c0
   rw [v1] at c1
   have toW : ∀ (x : Nat) (u : Value), zcell Z B x = some u -> w.cell? ⟨B, x, none⟩ = some u /\ B < w.heap.size := fun x u hz => by
    unfold zcell at hz
    split at hz
    ·rename_i cs T fz hB
     have hw := hH.z B _ hB
     refine ⟨?_, (Array.getElem?_eq_some_iff.1 hw).1⟩
     simp only [World.cell?, hw]
     simpa using hz
    ·cases hz
   obtain ⟨d0, hB⟩ := toW _ _ c0
   obtain ⟨d1, _⟩ := toW _ _ c1
   have hcells : ∀ (j : Nat) x, [baCoat, baFur][j]? = some x -> w.cell? ⟨B, off + j, none⟩ = some (.string x) := fun j x hx => by
    match j, hx with
    | 0, hx => injection hx with hx; subst hx; exact d0
    | 1, hx => injection hx with hx; subst hx; exact d1
    | j + 2, hx => simp at hx
   refine (Tryz.strings_Join B off c [baCoat, baFur] ⟨([32] : Tx).toArray⟩ w hcells hB (by decide) hc (by decide)).mono fun e w' ⟨he, hb⟩ => ?_
   rw [join_all] at he
   subst he
   exact ⟨Z, φ, .ret (.str txAll), [], 0, ZLe.refl _, PLe.refl _, .str _, hrel_below hH hb, rfl, rfl, (txAll, ()), rfl, hK⟩
end Go.PT
