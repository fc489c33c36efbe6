/-
  Texts that belong together,in one file: Sh3.
-/
import Derived.Test.YthnjfeielmbfkaaGreatDoorSy15
import Derived.Test.YthnjfeielmbfkaaGreatDoorProg
import Derived.Ground.NamesProg
import Derived.Shelf.Sort.Plain
namespace Go.Proofs
open Go.Shelf
def Tryz.lays190_ren:Go.Shelf.Ren:=⟨fun | 190=>204 | 125=>164 | 258=>247 | 128=>215 | 129=>216 | 302=>266 | 303=>267 | 304=>268 | 305=>269 | 306=>270 | 307=>271 | 308=>272 | 309=>273 | 310=>274 | 333=>277 | 329=>249 | 330=>250 | 334=>278 | 335=>279 | 336=>280 | 344=>281 | n=>n,fun | 31=>169 | 9=>9 | 3=>3 | 46=>120 | 0=>0 | 51=>304 | 53=>286 | 4=>4 | 183=>297 | 182=>296 | 131=>183 | 5=>5 | 218=>337 | 222=>341 | 228=>370 | 229=>371 | n=>n,fun | n=>n⟩
theorem Tryz.lays190:Go.Proofs.Lays.n190 Tryz.prog Tryz.lays190_ren:={
 mixed:=by kernel_rfl
 f125:=Tryz.func164.trans (congrArg some (by kernel_rfl))
 f128:=Tryz.func215.trans (congrArg some (by kernel_rfl))
 f129:=Tryz.func216.trans (congrArg some (by kernel_rfl))
 f190:=Tryz.func204.trans (congrArg some (by kernel_rfl))
 f258:=Tryz.func247.trans (congrArg some (by kernel_rfl))
 f302:=Tryz.func266.trans (congrArg some (by kernel_rfl))
 f303:=Tryz.func267.trans (congrArg some (by kernel_rfl))
 f304:=Tryz.func268.trans (congrArg some (by kernel_rfl))
 f305:=Tryz.func269.trans (congrArg some (by kernel_rfl))
 f306:=Tryz.func270.trans (congrArg some (by kernel_rfl))
 f307:=Tryz.func271.trans (congrArg some (by kernel_rfl))
 f308:=Tryz.func272.trans (congrArg some (by kernel_rfl))
 f309:=Tryz.func273.trans (congrArg some (by kernel_rfl))
 f310:=Tryz.func274.trans (congrArg some (by kernel_rfl))
 f329:=Tryz.func249.trans (congrArg some (by kernel_rfl))
 f330:=Tryz.func250.trans (congrArg some (by kernel_rfl))
 f333:=Tryz.func277.trans (congrArg some (by kernel_rfl))
 f334:=Tryz.func278.trans (congrArg some (by kernel_rfl))
 f335:=Tryz.func279.trans (congrArg some (by kernel_rfl))
 f336:=Tryz.func280.trans (congrArg some (by kernel_rfl))
 f344:=Tryz.func281.trans (congrArg some (by kernel_rfl))
 t0:=Tryz.underlying0
 a0:=Tryz.isAgg0
 z0:=Tryz.sizeOf0
 v0:=Tryz.zeroValue0
 t3:=Tryz.underlying3
 a3:=Tryz.isAgg3
 z3:=Tryz.sizeOf3
 v3:=Tryz.zeroValue3
 t4:=Tryz.underlying4
 a4:=Tryz.isAgg4
 z4:=Tryz.sizeOf4
 v4:=Tryz.zeroValue4
 t5:=Tryz.underlying5
 a5:=Tryz.isAgg5
 z5:=Tryz.sizeOf5
 v5:=Tryz.zeroValue5
 t9:=Tryz.underlying9
 a9:=Tryz.isAgg9
 z9:=Tryz.sizeOf9
 v9:=Tryz.zeroValue9
 t31:=Tryz.underlying169
 a31:=Tryz.isAgg169
 z31:=Tryz.sizeOf169
 v31:=Tryz.zeroValue169
 t46:=Tryz.underlying120
 a46:=Tryz.isAgg120
 z46:=Tryz.sizeOf120
 v46:=Tryz.zeroValue120
 t51:=Tryz.underlying304
 a51:=Tryz.isAgg304
 z51:=Tryz.sizeOf304
 v51:=Tryz.zeroValue304
 t53:=Tryz.underlying286
 a53:=Tryz.isAgg286
 z53:=Tryz.sizeOf286
 v53:=Tryz.zeroValue286
 t131:=Tryz.underlying183
 a131:=Tryz.isAgg183
 z131:=Tryz.sizeOf183
 v131:=Tryz.zeroValue183
 t182:=Tryz.underlying296
 a182:=Tryz.isAgg296
 z182:=Tryz.sizeOf296
 v182:=Tryz.zeroValue296
 t183:=Tryz.underlying297
 a183:=Tryz.isAgg297
 z183:=Tryz.sizeOf297
 v183:=Tryz.zeroValue297
 t218:=Tryz.underlying337
 a218:=Tryz.isAgg337
 z218:=Tryz.sizeOf337
 v218:=Tryz.zeroValue337
 t222:=Tryz.underlying341
 a222:=Tryz.isAgg341
 z222:=Tryz.sizeOf341
 v222:=Tryz.zeroValue341
 t228:=Tryz.underlying370
 a228:=Tryz.isAgg370
 z228:=Tryz.sizeOf370
 v228:=Tryz.zeroValue370
 t229:=Tryz.underlying371
 a229:=Tryz.isAgg371
 z229:=Tryz.sizeOf371
 v229:=Tryz.zeroValue371 }
end Go.Proofs
