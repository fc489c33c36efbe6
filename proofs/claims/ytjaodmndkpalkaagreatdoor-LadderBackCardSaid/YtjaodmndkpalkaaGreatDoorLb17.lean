/-
  Texts that belong together, in one file: Sh3.
-/
import Derived.Test.YtjaodmndkpalkaaGreatDoorLb16
import Derived.Test.YtjaodmndkpalkaaGreatDoorProg
import Derived.Ground.NamesProg
import Derived.Shelf.Sort.Plain
namespace Go.Proofs
open Go.Shelf
def Tryz.lays190_ren : Go.Shelf.Ren := ⟨fun | 190 => 190 | 125 => 144 | 258 => 232 | 128 => 201 | 129 => 202 | 302 => 261 | 303 => 262 | 304 => 263 | 305 => 264 | 306 => 265 | 307 => 266 | 308 => 267 | 309 => 268 | 310 => 269 | 333 => 280 | 329 => 234 | 330 => 235 | 334 => 281 | 335 => 282 | 336 => 283 | 344 => 286 | n => n, fun | 31 => 164 | 9 => 9 | 3 => 3 | 46 => 132 | 0 => 0 | 51 => 297 | 53 => 299 | 4 => 4 | 183 => 290 | 182 => 289 | 131 => 264 | 5 => 5 | 218 => 333 | 222 => 337 | 228 => 368 | 229 => 369 | n => n, fun | n => n⟩
theorem Tryz.lays190 : Go.Proofs.Lays.n190 Tryz.prog Tryz.lays190_ren := {
 mixed := by kernel_rfl
 f125 := Tryz.func144.trans (congrArg some (by kernel_rfl))
 f128 := Tryz.func201.trans (congrArg some (by kernel_rfl))
 f129 := Tryz.func202.trans (congrArg some (by kernel_rfl))
 f190 := Tryz.func190.trans (congrArg some (by kernel_rfl))
 f258 := Tryz.func232.trans (congrArg some (by kernel_rfl))
 f302 := Tryz.func261.trans (congrArg some (by kernel_rfl))
 f303 := Tryz.func262.trans (congrArg some (by kernel_rfl))
 f304 := Tryz.func263.trans (congrArg some (by kernel_rfl))
 f305 := Tryz.func264.trans (congrArg some (by kernel_rfl))
 f306 := Tryz.func265.trans (congrArg some (by kernel_rfl))
 f307 := Tryz.func266.trans (congrArg some (by kernel_rfl))
 f308 := Tryz.func267.trans (congrArg some (by kernel_rfl))
 f309 := Tryz.func268.trans (congrArg some (by kernel_rfl))
 f310 := Tryz.func269.trans (congrArg some (by kernel_rfl))
 f329 := Tryz.func234.trans (congrArg some (by kernel_rfl))
 f330 := Tryz.func235.trans (congrArg some (by kernel_rfl))
 f333 := Tryz.func280.trans (congrArg some (by kernel_rfl))
 f334 := Tryz.func281.trans (congrArg some (by kernel_rfl))
 f335 := Tryz.func282.trans (congrArg some (by kernel_rfl))
 f336 := Tryz.func283.trans (congrArg some (by kernel_rfl))
 f344 := Tryz.func286.trans (congrArg some (by kernel_rfl))
 t0 := Tryz.underlying0
 a0 := Tryz.isAgg0
 z0 := Tryz.sizeOf0
 v0 := Tryz.zeroValue0
 t3 := Tryz.underlying3
 a3 := Tryz.isAgg3
 z3 := Tryz.sizeOf3
 v3 := Tryz.zeroValue3
 t4 := Tryz.underlying4
 a4 := Tryz.isAgg4
 z4 := Tryz.sizeOf4
 v4 := Tryz.zeroValue4
 t5 := Tryz.underlying5
 a5 := Tryz.isAgg5
 z5 := Tryz.sizeOf5
 v5 := Tryz.zeroValue5
 t9 := Tryz.underlying9
 a9 := Tryz.isAgg9
 z9 := Tryz.sizeOf9
 v9 := Tryz.zeroValue9
 t31 := Tryz.underlying164
 a31 := Tryz.isAgg164
 z31 := Tryz.sizeOf164
 v31 := Tryz.zeroValue164
 t46 := Tryz.underlying132
 a46 := Tryz.isAgg132
 z46 := Tryz.sizeOf132
 v46 := Tryz.zeroValue132
 t51 := Tryz.underlying297
 a51 := Tryz.isAgg297
 z51 := Tryz.sizeOf297
 v51 := Tryz.zeroValue297
 t53 := Tryz.underlying299
 a53 := Tryz.isAgg299
 z53 := Tryz.sizeOf299
 v53 := Tryz.zeroValue299
 t131 := Tryz.underlying264
 a131 := Tryz.isAgg264
 z131 := Tryz.sizeOf264
 v131 := Tryz.zeroValue264
 t182 := Tryz.underlying289
 a182 := Tryz.isAgg289
 z182 := Tryz.sizeOf289
 v182 := Tryz.zeroValue289
 t183 := Tryz.underlying290
 a183 := Tryz.isAgg290
 z183 := Tryz.sizeOf290
 v183 := Tryz.zeroValue290
 t218 := Tryz.underlying333
 a218 := Tryz.isAgg333
 z218 := Tryz.sizeOf333
 v218 := Tryz.zeroValue333
 t222 := Tryz.underlying337
 a222 := Tryz.isAgg337
 z222 := Tryz.sizeOf337
 v222 := Tryz.zeroValue337
 t228 := Tryz.underlying368
 a228 := Tryz.isAgg368
 z228 := Tryz.sizeOf368
 v228 := Tryz.zeroValue368
 t229 := Tryz.underlying369
 a229 := Tryz.isAgg369
 z229 := Tryz.sizeOf369
 v229 := Tryz.zeroValue369 }
end Go.Proofs
