/- The library's sort at this program: its texts are the library's (a table of numbers, printed by the kit's tool), and its contract over own lists. No conditions. -/
import Derived.Test.YtfenogdjhadcoaaSortB
import Derived.Test.YtfenogdjhadcoaaProg
set_option linter.all false
set_option maxRecDepth 100000
set_option maxHeartbeats 4000000
namespace Go.P8
open Go.Lom Go.Proofs Go
def lay87r : Go.Shelf.Ren := ⟨fun | 189 => 87 | 125 => 108 | 257 => 107 | 128 => 124 | 129 => 125 | 294 => 115 | 295 => 116 | 296 => 117 | 297 => 118 | 298 => 119 | 299 => 120 | 216 => 121 | 300 => 122 | 301 => 123 | 328 => 126 | 329 => 127 | 330 => 128 | 331 => 129 | 332 => 130 | 215 => 131 | 343 => 132 | n => n, fun | 28 => 22 | 3 => 3 | 46 => 163 | 0 => 0 | 51 => 176 | 53 => 178 | 4 => 4 | 183 => 170 | 182 => 169 | 131 => 43 | 5 => 5 | 9 => 9 | 218 => 179 | 222 => 183 | 228 => 185 | 229 => 186 | n => n, fun | n => n⟩
theorem lay87 : Go.Proofs.Lays.n189 Try.prog lay87r := {
 mixed := by kernel_rfl
 f125 := Try.func108.trans (congrArg some (by kernel_rfl))
 f128 := Try.func124.trans (congrArg some (by kernel_rfl))
 f129 := Try.func125.trans (congrArg some (by kernel_rfl))
 f189 := Try.func87.trans (congrArg some (by kernel_rfl))
 f215 := Try.func131.trans (congrArg some (by kernel_rfl))
 f216 := Try.func121.trans (congrArg some (by kernel_rfl))
 f257 := Try.func107.trans (congrArg some (by kernel_rfl))
 f294 := Try.func115.trans (congrArg some (by kernel_rfl))
 f295 := Try.func116.trans (congrArg some (by kernel_rfl))
 f296 := Try.func117.trans (congrArg some (by kernel_rfl))
 f297 := Try.func118.trans (congrArg some (by kernel_rfl))
 f298 := Try.func119.trans (congrArg some (by kernel_rfl))
 f299 := Try.func120.trans (congrArg some (by kernel_rfl))
 f300 := Try.func122.trans (congrArg some (by kernel_rfl))
 f301 := Try.func123.trans (congrArg some (by kernel_rfl))
 f328 := Try.func126.trans (congrArg some (by kernel_rfl))
 f329 := Try.func127.trans (congrArg some (by kernel_rfl))
 f330 := Try.func128.trans (congrArg some (by kernel_rfl))
 f331 := Try.func129.trans (congrArg some (by kernel_rfl))
 f332 := Try.func130.trans (congrArg some (by kernel_rfl))
 f343 := Try.func132.trans (congrArg some (by kernel_rfl))
 t0 := Try.underlying0
 a0 := Try.isAgg0
 z0 := Try.sizeOf0
 v0 := Try.zeroValue0
 t3 := Try.underlying3
 a3 := Try.isAgg3
 z3 := Try.sizeOf3
 v3 := Try.zeroValue3
 t4 := Try.underlying4
 a4 := Try.isAgg4
 z4 := Try.sizeOf4
 v4 := Try.zeroValue4
 t5 := Try.underlying5
 a5 := Try.isAgg5
 z5 := Try.sizeOf5
 v5 := Try.zeroValue5
 t9 := Try.underlying9
 a9 := Try.isAgg9
 z9 := Try.sizeOf9
 v9 := Try.zeroValue9
 t28 := Try.underlying22
 a28 := Try.isAgg22
 z28 := Try.sizeOf22
 v28 := Try.zeroValue22
 t46 := Try.underlying163
 a46 := Try.isAgg163
 z46 := Try.sizeOf163
 v46 := Try.zeroValue163
 t51 := Try.underlying176
 a51 := Try.isAgg176
 z51 := Try.sizeOf176
 v51 := Try.zeroValue176
 t53 := Try.underlying178
 a53 := Try.isAgg178
 z53 := Try.sizeOf178
 v53 := Try.zeroValue178
 t131 := Try.underlying43
 a131 := Try.isAgg43
 z131 := Try.sizeOf43
 v131 := Try.zeroValue43
 t182 := Try.underlying169
 a182 := Try.isAgg169
 z182 := Try.sizeOf169
 v182 := Try.zeroValue169
 t183 := Try.underlying170
 a183 := Try.isAgg170
 z183 := Try.sizeOf170
 v183 := Try.zeroValue170
 t218 := Try.underlying179
 a218 := Try.isAgg179
 z218 := Try.sizeOf179
 v218 := Try.zeroValue179
 t222 := Try.underlying183
 a222 := Try.isAgg183
 z222 := Try.sizeOf183
 v222 := Try.zeroValue183
 t228 := Try.underlying185
 a228 := Try.isAgg185
 z228 := Try.sizeOf185
 v228 := Try.zeroValue185
 t229 := Try.underlying186
 a229 := Try.isAgg186
 z229 := Try.sizeOf186
 v229 := Try.zeroValue186 }
theorem pc87 : PCok Try.prog 87 [.v (.sl (.i .i64))] [] fun x K => x.1 = [] /\ K () := by
 rintro ⟨xs, _⟩ K ⟨hx, hK⟩ base w0 Z φ w us hH hr
 have hx : xs = [] := hx
 subst hx
 have he : acall Try.prog 5 20 (.f 87) [.rl (.i .i64) []] [] 0 = some (.ret (.tup []), [], 0) := by kernel_rfl
 refine (acall_ok Try.prog 5 20 (.f 87) _ _ _ _ _ _ he base w0 Z φ w us hH hr).mono fun e w' ⟨Z', φ', y, G, m, h1, h2, h3, h4, h5⟩ => ?_
 obtain ⟨rfl, rfl, rfl⟩ := h5
 exact ⟨Z', φ', .ret (.tup []), [], 0, h1, h2, h3, h4, rfl, rfl, (), rfl, hK⟩
theorem ok87 : F2Ok Try.prog 87 fcSort := ok_sort (ρ := lay87r) lay87 pc87
end Go.P8
