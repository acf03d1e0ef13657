/- The contracts of the library's sorting functions on ints, laid at this program. The conditions are those of each theorem. -/
import Derived.Shelf.Strconv.Itoa0
import Derived.Shelf.Sort.Plain
import Derived.Shelf.Slices.In.SortNone
import Derived.Test.YtfhkpdnohcidgaaProg
namespace Go.Proofs
open Go.Shelf
def Try.lays189_ren : Go.Shelf.Ren := ⟨fun | 189 => 88 | 125 => 122 | 257 => 125 | 128 => 145 | 129 => 146 | 294 => 148 | 295 => 149 | 296 => 150 | 297 => 151 | 298 => 152 | 299 => 153 | 216 => 154 | 300 => 155 | 301 => 156 | 328 => 184 | 329 => 180 | 330 => 181 | 331 => 185 | 332 => 186 | 215 => 130 | 343 => 195 | n => n, fun | 28 => 44 | 3 => 3 | 46 => 162 | 0 => 0 | 51 => 185 | 53 => 187 | 4 => 4 | 183 => 178 | 182 => 177 | 131 => 182 | 5 => 5 | 9 => 9 | 218 => 209 | 222 => 213 | 228 => 221 | 229 => 222 | n => n, fun | n => n⟩
theorem Try.lays189 : Go.Proofs.Lays.n189 Try.prog Try.lays189_ren := {
  mixed := by kernel_rfl
  f125 := Try.func122.trans (congrArg some (by kernel_rfl))
  f128 := Try.func145.trans (congrArg some (by kernel_rfl))
  f129 := Try.func146.trans (congrArg some (by kernel_rfl))
  f189 := Try.func88.trans (congrArg some (by kernel_rfl))
  f215 := Try.func130.trans (congrArg some (by kernel_rfl))
  f216 := Try.func154.trans (congrArg some (by kernel_rfl))
  f257 := Try.func125.trans (congrArg some (by kernel_rfl))
  f294 := Try.func148.trans (congrArg some (by kernel_rfl))
  f295 := Try.func149.trans (congrArg some (by kernel_rfl))
  f296 := Try.func150.trans (congrArg some (by kernel_rfl))
  f297 := Try.func151.trans (congrArg some (by kernel_rfl))
  f298 := Try.func152.trans (congrArg some (by kernel_rfl))
  f299 := Try.func153.trans (congrArg some (by kernel_rfl))
  f300 := Try.func155.trans (congrArg some (by kernel_rfl))
  f301 := Try.func156.trans (congrArg some (by kernel_rfl))
  f328 := Try.func184.trans (congrArg some (by kernel_rfl))
  f329 := Try.func180.trans (congrArg some (by kernel_rfl))
  f330 := Try.func181.trans (congrArg some (by kernel_rfl))
  f331 := Try.func185.trans (congrArg some (by kernel_rfl))
  f332 := Try.func186.trans (congrArg some (by kernel_rfl))
  f343 := Try.func195.trans (congrArg some (by kernel_rfl))
  t0 := Try.underlying0
  a0 := Try.isAgg0
  z0 := Try.sizeOf0
  v0 := Try.zeroValue0
  t3 := Try.underlying3
  a3 := Try.isAgg3
  z3 := Try.sizeOf3
  v3 := Try.zeroValue3
  t4 := Try.underlying4
  a4 := Try.isAgg4
  z4 := Try.sizeOf4
  v4 := Try.zeroValue4
  t5 := Try.underlying5
  a5 := Try.isAgg5
  z5 := Try.sizeOf5
  v5 := Try.zeroValue5
  t9 := Try.underlying9
  a9 := Try.isAgg9
  z9 := Try.sizeOf9
  v9 := Try.zeroValue9
  t28 := Try.underlying44
  a28 := Try.isAgg44
  z28 := Try.sizeOf44
  v28 := Try.zeroValue44
  t46 := Try.underlying162
  a46 := Try.isAgg162
  z46 := Try.sizeOf162
  v46 := Try.zeroValue162
  t51 := Try.underlying185
  a51 := Try.isAgg185
  z51 := Try.sizeOf185
  v51 := Try.zeroValue185
  t53 := Try.underlying187
  a53 := Try.isAgg187
  z53 := Try.sizeOf187
  v53 := Try.zeroValue187
  t131 := Try.underlying182
  a131 := Try.isAgg182
  z131 := Try.sizeOf182
  v131 := Try.zeroValue182
  t182 := Try.underlying177
  a182 := Try.isAgg177
  z182 := Try.sizeOf177
  v182 := Try.zeroValue177
  t183 := Try.underlying178
  a183 := Try.isAgg178
  z183 := Try.sizeOf178
  v183 := Try.zeroValue178
  t218 := Try.underlying209
  a218 := Try.isAgg209
  z218 := Try.sizeOf209
  v218 := Try.zeroValue209
  t222 := Try.underlying213
  a222 := Try.isAgg213
  z222 := Try.sizeOf213
  v222 := Try.zeroValue213
  t228 := Try.underlying221
  a228 := Try.isAgg221
  z228 := Try.sizeOf221
  v228 := Try.zeroValue221
  t229 := Try.underlying222
  a229 := Try.isAgg222
  z229 := Try.sizeOf222
  v229 := Try.zeroValue222 }
open Go.Sort Go.RowKit in
theorem Try.slices_Sort_int (blk off cap : Nat) (zs : List Int) (w : World) (hH : Holds (Value.int .i64) w blk off zs.toArray) (hblk : blk < w.heap.size) (hsz : zs.length < 4611686018427387904) :
    Calls Try.prog 88 #[.slice (some ⟨blk, off, none⟩) zs.length cap] w fun e w' =>
      e = .returned (.tuple #[]) ∧ ∃ n os, w' = grow (putRow (Value.int .i64) (Sort.ahead w n) blk off (zs.mergeSort fun x y => decide (x ≤ y)).toArray) os := Any.slices_Sort_int Try.lays189 blk off cap zs w hH hblk hsz
open Go.RowKit Go.Sort in
theorem Try.slices_Sort_int_none (p : Option Addr) (cap : Nat) (w : World) :
    Calls Try.prog 88 #[.slice p 0 cap] w fun e w' => e = .returned (.tuple #[]) ∧ w' = w := Any.slices_Sort_int_none Try.lays189 p cap w
end Go.Proofs
