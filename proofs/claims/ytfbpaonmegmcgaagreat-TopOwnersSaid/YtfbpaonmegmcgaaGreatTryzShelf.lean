import Derived.Test.YtfbpaonmegmcgaaGreatToS
import Derived.Shelf.Strings.OnBuilder
import Derived.Test.YtfbpaonmegmcgaaGreatProg
set_option linter.all false
/- TopOwners: what its examples call. No conditions. -/
set_option maxRecDepth 100000
set_option maxHeartbeats 2000000
namespace Go.PT
open Go.Lom Go.Proofs Go Go.P9
def whenB (b : Bool) (P : Prop) : Prop := match b with
 | true => P
 | false => False
theorem whenB_iff {b : Bool} {P : Prop} : whenB b P ↔ b = true /\ P := by cases b <;> simp [whenB]
def fewB {α : Type} (l : List α) : Bool := Nat.ble l.length 100
abbrev Tx : Type := List UInt8
def txFox : Tx := [102, 111, 120]
def txCoat : Tx := [99, 111, 97, 116]
def txFur : Tx := [102, 117, 114, 61, 102, 111, 120]
def txAll : Tx := [99, 111, 97, 116, 32, 102, 117, 114, 61, 102, 111, 120]
abbrev fkCap : FC := ⟨[.v TF], [I, E], fun x K => whenB (fewB (fIn x.1) && (fewB (fBonds x.1) && (fewB (fSell x.1) && (fewB (fPrices x.1) && (fewB (fGroups x.1) && fewB (fWays x.1)))))) (K (capR x.1, chkE x.1, ()))⟩
abbrev fkJoin : FC := ⟨[.v (.sl .s), .v .s], [.s], fun x K => whenB (decide ((x.1 : List Tx) = [txCoat, txFur]) && decide ((x.2.1 : Tx) = [32])) (K (txAll, ()))⟩
abbrev fkOrd : FC := ⟨[.v (.mp .s .b)], [.sl .s], fun x K => whenB (decide ((x.1 : List (Tx × Bool)) = [(txFox, true)])) (K ([txFox], ()))⟩
end Go.PT

/-
 Laid by a tool of the kit (lay-shelf, lay-plain): strings.Join at this program.
-/
namespace Go.Proofs
open Go.Shelf
def Tryz.lays156_ren : Go.Shelf.Ren := ⟨fun | 156 => 109 | 165 => 121 | 166 => 122 | 169 => 123 | 240 => 135 | 241 => 136 | 276 => 141 | 277 => 142 | n => n, fun | 31 => 101 | 9 => 9 | 3 => 3 | 4 => 4 | 0 => 0 | 20 => 20 | 72 => 202 | 76 => 206 | 70 => 200 | 37 => 171 | 75 => 205 | 127 => 219 | 164 => 222 | 5 => 5 | 80 => 208 | n => n, fun | n => n⟩
theorem Tryz.lays156 : Go.Proofs.Lays.n156 Tryz.prog Tryz.lays156_ren := {
 mixed := by kernel_rfl
 f156 := Tryz.func109.trans (congrArg some (by kernel_rfl))
 f165 := Tryz.func121.trans (congrArg some (by kernel_rfl))
 f166 := Tryz.func122.trans (congrArg some (by kernel_rfl))
 f169 := Tryz.func123.trans (congrArg some (by kernel_rfl))
 f240 := Tryz.func135.trans (congrArg some (by kernel_rfl))
 f241 := Tryz.func136.trans (congrArg some (by kernel_rfl))
 f276 := Tryz.func141.trans (congrArg some (by kernel_rfl))
 f277 := Tryz.func142.trans (congrArg some (by kernel_rfl))
 t0 := Tryz.underlying0
 a0 := Tryz.isAgg0
 z0 := Tryz.sizeOf0
 v0 := Tryz.zeroValue0
 t3 := Tryz.underlying3
 a3 := Tryz.isAgg3
 z3 := Tryz.sizeOf3
 v3 := Tryz.zeroValue3
 t4 := Tryz.underlying4
 a4 := Tryz.isAgg4
 z4 := Tryz.sizeOf4
 v4 := Tryz.zeroValue4
 t9 := Tryz.underlying9
 a9 := Tryz.isAgg9
 z9 := Tryz.sizeOf9
 v9 := Tryz.zeroValue9
 t20 := Tryz.underlying20
 a20 := Tryz.isAgg20
 z20 := Tryz.sizeOf20
 v20 := Tryz.zeroValue20
 t31 := Tryz.underlying101
 a31 := Tryz.isAgg101
 z31 := Tryz.sizeOf101
 v31 := Tryz.zeroValue101
 t37 := Tryz.underlying171
 a37 := Tryz.isAgg171
 z37 := Tryz.sizeOf171
 v37 := Tryz.zeroValue171
 t70 := Tryz.underlying200
 a70 := Tryz.isAgg200
 z70 := Tryz.sizeOf200
 v70 := Tryz.zeroValue200
 t72 := Tryz.underlying202
 a72 := Tryz.isAgg202
 z72 := Tryz.sizeOf202
 v72 := Tryz.zeroValue202
 t75 := Tryz.underlying205
 a75 := Tryz.isAgg205
 z75 := Tryz.sizeOf205
 v75 := Tryz.zeroValue205
 t76 := Tryz.underlying206
 a76 := Tryz.isAgg206
 z76 := Tryz.sizeOf206
 v76 := Tryz.zeroValue206
 t127 := Tryz.underlying219
 a127 := Tryz.isAgg219
 z127 := Tryz.sizeOf219
 v127 := Tryz.zeroValue219
 t164 := Tryz.underlying222
 a164 := Tryz.isAgg222
 z164 := Tryz.sizeOf222
 v164 := Tryz.zeroValue222 }
theorem Tryz.Builder_Extra_156 : Builder.Extra Tryz.prog Tryz.lays156_ren := {
 sizeBuilder := by kernel_rfl
 liesBuilder := by kernel_rfl
 t5 := Tryz.underlying5
 a5 := Tryz.isAgg5
 z5 := Tryz.sizeOf5
 v5 := Tryz.zeroValue5
 infoByte := by kernel_rfl
 cellsByte := by kernel_rfl
 sizeByte := by kernel_rfl
 neB5 := by decide }
open Go.RowKit in
theorem Tryz.strings_Join (bk o c : Nat) (xs : List ByteArray) (sep : ByteArray) (w : World) (hcells : ∀ (j : Nat) x, xs[j]? = some x -> w.cell? ⟨bk, o + j, none⟩ = some (.string x)) (hbk : bk < w.heap.size) (hN : xs.length <= 140737488355328) (hcap : xs.length <= c) (hlen : (Lib.join (xs.map (·.data.toList)) sep.data.toList).length <= 140737488355328) :
  Calls Tryz.prog 109 #[.slice (some ⟨bk, o, none⟩) xs.length c, .string sep] w fun e w' => e = .returned (.string ⟨(Lib.join (xs.map (·.data.toList)) sep.data.toList).toArray⟩) /\ Below w.heap.size w w' := Any.strings_Join Tryz.lays156 Tryz.Builder_Extra_156 bk o c xs sep w hcells hbk hN hcap hlen
end Go.Proofs
