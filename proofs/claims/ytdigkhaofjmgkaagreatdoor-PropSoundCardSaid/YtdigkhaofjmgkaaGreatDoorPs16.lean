/-
  Texts that belong together,in one file: Sh3.
-/
import Derived.Test.YtdigkhaofjmgkaaGreatDoorProg
import Derived.Ground.NamesProg
import Derived.Shelf.Sort.Plain
namespace Go.Proofs
open Go.Shelf
def Tryz.G7:Go.Shelf.Ren:=⟨fun | 190=>201 | 125=>184 | 258=>231 | 128=>227 | 129=>228 | 302=>252 | 303=>253 | 304=>254 | 305=>255 | 306=>256 | 307=>257 | 308=>258 | 309=>259 | 310=>260 | 333=>274 | 329=>248 | 330=>249 | 334=>275 | 335=>276 | 336=>277 | 344=>281 | n=>n,fun | 31=>174 | 9=>9 | 3=>3 | 46=>156 | 0=>0 | 51=>300 | 53=>303 | 4=>4 | 183=>324 | 182=>323 | 131=>202 | 5=>5 | 218=>348 | 222=>352 | 228=>372 | 229=>373 | n=>n,fun | n=>n⟩
theorem Tryz.Q5:Go.Proofs.Lays.n190 Tryz.prog Tryz.G7:={
 mixed:=by kernel_rfl
 f125:=Tryz.func184.trans (congrArg some (by kernel_rfl))
 f128:=Tryz.func227.trans (congrArg some (by kernel_rfl))
 f129:=Tryz.func228.trans (congrArg some (by kernel_rfl))
 f190:=Tryz.func201.trans (congrArg some (by kernel_rfl))
 f258:=Tryz.func231.trans (congrArg some (by kernel_rfl))
 f302:=Tryz.func252.trans (congrArg some (by kernel_rfl))
 f303:=Tryz.func253.trans (congrArg some (by kernel_rfl))
 f304:=Tryz.func254.trans (congrArg some (by kernel_rfl))
 f305:=Tryz.func255.trans (congrArg some (by kernel_rfl))
 f306:=Tryz.func256.trans (congrArg some (by kernel_rfl))
 f307:=Tryz.func257.trans (congrArg some (by kernel_rfl))
 f308:=Tryz.func258.trans (congrArg some (by kernel_rfl))
 f309:=Tryz.func259.trans (congrArg some (by kernel_rfl))
 f310:=Tryz.func260.trans (congrArg some (by kernel_rfl))
 f329:=Tryz.func248.trans (congrArg some (by kernel_rfl))
 f330:=Tryz.func249.trans (congrArg some (by kernel_rfl))
 f333:=Tryz.func274.trans (congrArg some (by kernel_rfl))
 f334:=Tryz.func275.trans (congrArg some (by kernel_rfl))
 f335:=Tryz.func276.trans (congrArg some (by kernel_rfl))
 f336:=Tryz.func277.trans (congrArg some (by kernel_rfl))
 f344:=Tryz.func281.trans (congrArg some (by kernel_rfl))
 t0:=Tryz.underlying0
 a0:=Tryz.isAgg0
 z0:=Tryz.sizeOf0
 v0:=Tryz.zeroValue0
 t3:=Tryz.underlying3
 a3:=Tryz.isAgg3
 z3:=Tryz.sizeOf3
 v3:=Tryz.zeroValue3
 t4:=Tryz.underlying4
 a4:=Tryz.isAgg4
 z4:=Tryz.sizeOf4
 v4:=Tryz.zeroValue4
 t5:=Tryz.underlying5
 a5:=Tryz.isAgg5
 z5:=Tryz.sizeOf5
 v5:=Tryz.zeroValue5
 t9:=Tryz.underlying9
 a9:=Tryz.isAgg9
 z9:=Tryz.sizeOf9
 v9:=Tryz.zeroValue9
 t31:=Tryz.underlying174
 a31:=Tryz.isAgg174
 z31:=Tryz.sizeOf174
 v31:=Tryz.zeroValue174
 t46:=Tryz.underlying156
 a46:=Tryz.isAgg156
 z46:=Tryz.sizeOf156
 v46:=Tryz.zeroValue156
 t51:=Tryz.underlying300
 a51:=Tryz.isAgg300
 z51:=Tryz.sizeOf300
 v51:=Tryz.zeroValue300
 t53:=Tryz.underlying303
 a53:=Tryz.isAgg303
 z53:=Tryz.sizeOf303
 v53:=Tryz.zeroValue303
 t131:=Tryz.underlying202
 a131:=Tryz.isAgg202
 z131:=Tryz.sizeOf202
 v131:=Tryz.zeroValue202
 t182:=Tryz.underlying323
 a182:=Tryz.isAgg323
 z182:=Tryz.sizeOf323
 v182:=Tryz.zeroValue323
 t183:=Tryz.underlying324
 a183:=Tryz.isAgg324
 z183:=Tryz.sizeOf324
 v183:=Tryz.zeroValue324
 t218:=Tryz.underlying348
 a218:=Tryz.isAgg348
 z218:=Tryz.sizeOf348
 v218:=Tryz.zeroValue348
 t222:=Tryz.underlying352
 a222:=Tryz.isAgg352
 z222:=Tryz.sizeOf352
 v222:=Tryz.zeroValue352
 t228:=Tryz.underlying372
 a228:=Tryz.isAgg372
 z228:=Tryz.sizeOf372
 v228:=Tryz.zeroValue372
 t229:=Tryz.underlying373
 a229:=Tryz.isAgg373
 z229:=Tryz.sizeOf373
 v229:=Tryz.zeroValue373 }
end Go.Proofs
