/- The sort of ints of this program is the one whose contract the library has (the laying: written by the kit's tool for plain layings). -/
import Derived.Shelf.Sort.Plain
import Derived.Shelf.Slices.In.SortNone
import Derived.Test.YtppallabmjdolaaDoorProg
import Derived.Test.YtppallabmjdolaaDoorCoreD
namespace Go.Proofs
open Go.Shelf
def Tryd.lays189_ren : Go.Shelf.Ren := ⟨fun | 189 => 81 | 125 => 103 | 257 => 105 | 128 => 129 | 129 => 130 | 294 => 131 | 295 => 132 | 296 => 133 | 297 => 134 | 298 => 135 | 299 => 136 | 216 => 137 | 300 => 138 | 301 => 139 | 328 => 146 | 329 => 142 | 330 => 143 | 331 => 147 | 332 => 148 | 215 => 149 | 343 => 151 | n => n, fun | 28 => 25 | 3 => 3 | 46 => 106 | 0 => 0 | 51 => 141 | 53 => 151 | 4 => 4 | 183 => 162 | 182 => 161 | 131 => 166 | 5 => 5 | 9 => 9 | 218 => 176 | 222 => 180 | 228 => 184 | 229 => 185 | n => n, fun | n => n⟩
theorem Tryd.lays189 : Go.Proofs.Lays.n189 Tryd.prog Tryd.lays189_ren := {
  mixed := by kernel_rfl
  f125 := Tryd.func103.trans (congrArg some (by kernel_rfl))
  f128 := Tryd.func129.trans (congrArg some (by kernel_rfl))
  f129 := Tryd.func130.trans (congrArg some (by kernel_rfl))
  f189 := Tryd.func81.trans (congrArg some (by kernel_rfl))
  f215 := Tryd.func149.trans (congrArg some (by kernel_rfl))
  f216 := Tryd.func137.trans (congrArg some (by kernel_rfl))
  f257 := Tryd.func105.trans (congrArg some (by kernel_rfl))
  f294 := Tryd.func131.trans (congrArg some (by kernel_rfl))
  f295 := Tryd.func132.trans (congrArg some (by kernel_rfl))
  f296 := Tryd.func133.trans (congrArg some (by kernel_rfl))
  f297 := Tryd.func134.trans (congrArg some (by kernel_rfl))
  f298 := Tryd.func135.trans (congrArg some (by kernel_rfl))
  f299 := Tryd.func136.trans (congrArg some (by kernel_rfl))
  f300 := Tryd.func138.trans (congrArg some (by kernel_rfl))
  f301 := Tryd.func139.trans (congrArg some (by kernel_rfl))
  f328 := Tryd.func146.trans (congrArg some (by kernel_rfl))
  f329 := Tryd.func142.trans (congrArg some (by kernel_rfl))
  f330 := Tryd.func143.trans (congrArg some (by kernel_rfl))
  f331 := Tryd.func147.trans (congrArg some (by kernel_rfl))
  f332 := Tryd.func148.trans (congrArg some (by kernel_rfl))
  f343 := Tryd.func151.trans (congrArg some (by kernel_rfl))
  t0 := Tryd.underlying0
  a0 := Tryd.isAgg0
  z0 := Tryd.sizeOf0
  v0 := Tryd.zeroValue0
  t3 := Tryd.underlying3
  a3 := Tryd.isAgg3
  z3 := Tryd.sizeOf3
  v3 := Tryd.zeroValue3
  t4 := Tryd.underlying4
  a4 := Tryd.isAgg4
  z4 := Tryd.sizeOf4
  v4 := Tryd.zeroValue4
  t5 := Tryd.underlying5
  a5 := Tryd.isAgg5
  z5 := Tryd.sizeOf5
  v5 := Tryd.zeroValue5
  t9 := Tryd.underlying9
  a9 := Tryd.isAgg9
  z9 := Tryd.sizeOf9
  v9 := Tryd.zeroValue9
  t28 := Tryd.underlying25
  a28 := Tryd.isAgg25
  z28 := Tryd.sizeOf25
  v28 := Tryd.zeroValue25
  t46 := Tryd.underlying106
  a46 := Tryd.isAgg106
  z46 := Tryd.sizeOf106
  v46 := Tryd.zeroValue106
  t51 := Tryd.underlying141
  a51 := Tryd.isAgg141
  z51 := Tryd.sizeOf141
  v51 := Tryd.zeroValue141
  t53 := Tryd.underlying151
  a53 := Tryd.isAgg151
  z53 := Tryd.sizeOf151
  v53 := Tryd.zeroValue151
  t131 := Tryd.underlying166
  a131 := Tryd.isAgg166
  z131 := Tryd.sizeOf166
  v131 := Tryd.zeroValue166
  t182 := Tryd.underlying161
  a182 := Tryd.isAgg161
  z182 := Tryd.sizeOf161
  v182 := Tryd.zeroValue161
  t183 := Tryd.underlying162
  a183 := Tryd.isAgg162
  z183 := Tryd.sizeOf162
  v183 := Tryd.zeroValue162
  t218 := Tryd.underlying176
  a218 := Tryd.isAgg176
  z218 := Tryd.sizeOf176
  v218 := Tryd.zeroValue176
  t222 := Tryd.underlying180
  a222 := Tryd.isAgg180
  z222 := Tryd.sizeOf180
  v222 := Tryd.zeroValue180
  t228 := Tryd.underlying184
  a228 := Tryd.isAgg184
  z228 := Tryd.sizeOf184
  v228 := Tryd.zeroValue184
  t229 := Tryd.underlying185
  a229 := Tryd.isAgg185
  z229 := Tryd.sizeOf185
  v229 := Tryd.zeroValue185 }
end Go.Proofs
namespace Go.Vit
open Go Go.Proofs
theorem sort_ok : SortOk Tryd.prog 81 where
  body := ⟨_, Tryd.func81, by kernel_rfl⟩
  full := fun blk off cap zs w h1 h2 h3 => Any.slices_Sort_int Tryd.lays189 blk off cap zs w h1 h2 h3
  none := fun p cap w => Any.slices_Sort_int_none Tryd.lays189 p cap w
end Go.Vit
