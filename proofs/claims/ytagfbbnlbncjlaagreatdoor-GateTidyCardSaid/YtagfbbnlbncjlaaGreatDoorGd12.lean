/-
  Texts that belong together, in one file: Sh3.
-/
import Derived.Test.YtagfbbnlbncjlaaGreatDoorGd11
import Derived.Test.YtagfbbnlbncjlaaGreatDoorProg
import Derived.Ground.NamesProg
import Derived.Shelf.Sort.Plain
namespace Go.Proofs
open Go.Shelf
def Tryz.lays190_ren : Go.Shelf.Ren := ⟨fun | 190 => 77 | 125 => 105 | 258 => 104 | 128 => 124 | 129 => 125 | 302 => 115 | 303 => 116 | 304 => 117 | 305 => 118 | 306 => 119 | 307 => 120 | 308 => 121 | 309 => 122 | 310 => 123 | 333 => 134 | 329 => 135 | 330 => 136 | 334 => 137 | 335 => 138 | 336 => 139 | 344 => 144 | n => n, fun | 31 => 34 | 9 => 9 | 3 => 3 | 46 => 38 | 0 => 0 | 51 => 199 | 53 => 201 | 4 => 4 | 183 => 192 | 182 => 191 | 131 => 196 | 5 => 5 | 218 => 204 | 222 => 208 | 228 => 214 | 229 => 215 | n => n, fun | n => n⟩
theorem Tryz.lays190 : Go.Proofs.Lays.n190 Tryz.prog Tryz.lays190_ren := {
 mixed := by kernel_rfl
 f125 := Tryz.func105.trans (congrArg some (by kernel_rfl))
 f128 := Tryz.func124.trans (congrArg some (by kernel_rfl))
 f129 := Tryz.func125.trans (congrArg some (by kernel_rfl))
 f190 := Tryz.func77.trans (congrArg some (by kernel_rfl))
 f258 := Tryz.func104.trans (congrArg some (by kernel_rfl))
 f302 := Tryz.func115.trans (congrArg some (by kernel_rfl))
 f303 := Tryz.func116.trans (congrArg some (by kernel_rfl))
 f304 := Tryz.func117.trans (congrArg some (by kernel_rfl))
 f305 := Tryz.func118.trans (congrArg some (by kernel_rfl))
 f306 := Tryz.func119.trans (congrArg some (by kernel_rfl))
 f307 := Tryz.func120.trans (congrArg some (by kernel_rfl))
 f308 := Tryz.func121.trans (congrArg some (by kernel_rfl))
 f309 := Tryz.func122.trans (congrArg some (by kernel_rfl))
 f310 := Tryz.func123.trans (congrArg some (by kernel_rfl))
 f329 := Tryz.func135.trans (congrArg some (by kernel_rfl))
 f330 := Tryz.func136.trans (congrArg some (by kernel_rfl))
 f333 := Tryz.func134.trans (congrArg some (by kernel_rfl))
 f334 := Tryz.func137.trans (congrArg some (by kernel_rfl))
 f335 := Tryz.func138.trans (congrArg some (by kernel_rfl))
 f336 := Tryz.func139.trans (congrArg some (by kernel_rfl))
 f344 := Tryz.func144.trans (congrArg some (by kernel_rfl))
 t0 := Tryz.underlying0
 a0 := Tryz.isAgg0
 z0 := Tryz.sizeOf0
 v0 := Tryz.zeroValue0
 t3 := Tryz.underlying3
 a3 := Tryz.isAgg3
 z3 := Tryz.sizeOf3
 v3 := Tryz.zeroValue3
 t4 := Tryz.underlying4
 a4 := Tryz.isAgg4
 z4 := Tryz.sizeOf4
 v4 := Tryz.zeroValue4
 t5 := Tryz.underlying5
 a5 := Tryz.isAgg5
 z5 := Tryz.sizeOf5
 v5 := Tryz.zeroValue5
 t9 := Tryz.underlying9
 a9 := Tryz.isAgg9
 z9 := Tryz.sizeOf9
 v9 := Tryz.zeroValue9
 t31 := Tryz.underlying34
 a31 := Tryz.isAgg34
 z31 := Tryz.sizeOf34
 v31 := Tryz.zeroValue34
 t46 := Tryz.underlying38
 a46 := Tryz.isAgg38
 z46 := Tryz.sizeOf38
 v46 := Tryz.zeroValue38
 t51 := Tryz.underlying199
 a51 := Tryz.isAgg199
 z51 := Tryz.sizeOf199
 v51 := Tryz.zeroValue199
 t53 := Tryz.underlying201
 a53 := Tryz.isAgg201
 z53 := Tryz.sizeOf201
 v53 := Tryz.zeroValue201
 t131 := Tryz.underlying196
 a131 := Tryz.isAgg196
 z131 := Tryz.sizeOf196
 v131 := Tryz.zeroValue196
 t182 := Tryz.underlying191
 a182 := Tryz.isAgg191
 z182 := Tryz.sizeOf191
 v182 := Tryz.zeroValue191
 t183 := Tryz.underlying192
 a183 := Tryz.isAgg192
 z183 := Tryz.sizeOf192
 v183 := Tryz.zeroValue192
 t218 := Tryz.underlying204
 a218 := Tryz.isAgg204
 z218 := Tryz.sizeOf204
 v218 := Tryz.zeroValue204
 t222 := Tryz.underlying208
 a222 := Tryz.isAgg208
 z222 := Tryz.sizeOf208
 v222 := Tryz.zeroValue208
 t228 := Tryz.underlying214
 a228 := Tryz.isAgg214
 z228 := Tryz.sizeOf214
 v228 := Tryz.zeroValue214
 t229 := Tryz.underlying215
 a229 := Tryz.isAgg215
 z229 := Tryz.sizeOf215
 v229 := Tryz.zeroValue215 }
end Go.Proofs
