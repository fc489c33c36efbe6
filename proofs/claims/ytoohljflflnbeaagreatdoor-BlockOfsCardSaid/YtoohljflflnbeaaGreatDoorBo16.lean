/- Parts. -/
import Derived.Test.YtoohljflflnbeaaGreatDoorBo1
import Derived.Test.YtoohljflflnbeaaGreatDoorProg
import Derived.Ground.NamesProg
import Derived.Shelf.Sort.Plain
open Go.Proofs.Tryz
namespace Go.Proofs
open Go.Shelf
def Tryz.O8:Go.Shelf.Ren:=⟨fun | 190=>243 | 125=>218 | 258=>291 | 128=>273 | 129=>274 | 302=>316 | 303=>317 | 304=>318 | 305=>319 | 306=>320 | 307=>321 | 308=>322 | 309=>323 | 310=>324 | 333=>333 | 329=>301 | 330=>302 | 334=>334 | 335=>335 | 336=>336 | 344=>337 | n=>n,fun | 31=>58 | 9=>9 | 3=>3 | 46=>205 | 0=>0 | 51=>374 | 53=>377 | 4=>4 | 183=>389 | 182=>388 | 131=>285 | 5=>5 | 218=>412 | 222=>416 | 228=>431 | 229=>432 | n=>n,fun | n=>n⟩
theorem Tryz.aaS:Go.Proofs.Lays.n190 prog Tryz.O8:={
 mixed:=ah
 f125:=func218.trans aO
 f128:=func273.trans aO
 f129:=func274.trans aO
 f190:=func243.trans aO
 f258:=func291.trans aO
 f302:=func316.trans aO
 f303:=func317.trans aO
 f304:=func318.trans aO
 f305:=func319.trans aO
 f306:=func320.trans aO
 f307:=func321.trans aO
 f308:=func322.trans aO
 f309:=func323.trans aO
 f310:=func324.trans aO
 f329:=func301.trans aO
 f330:=func302.trans aO
 f333:=func333.trans aO
 f334:=func334.trans aO
 f335:=func335.trans aO
 f336:=func336.trans aO
 f344:=func337.trans aO
 t0:=underlying0
 a0:=isAgg0
 z0:=sizeOf0
 v0:=zeroValue0
 t3:=underlying3
 a3:=isAgg3
 z3:=sizeOf3
 v3:=zeroValue3
 t4:=underlying4
 a4:=isAgg4
 z4:=sizeOf4
 v4:=zeroValue4
 t5:=underlying5
 a5:=isAgg5
 z5:=sizeOf5
 v5:=zeroValue5
 t9:=underlying9
 a9:=isAgg9
 z9:=sizeOf9
 v9:=zeroValue9
 t31:=underlying58
 a31:=isAgg58
 z31:=sizeOf58
 v31:=zeroValue58
 t46:=underlying205
 a46:=isAgg205
 z46:=sizeOf205
 v46:=zeroValue205
 t51:=underlying374
 a51:=isAgg374
 z51:=sizeOf374
 v51:=zeroValue374
 t53:=underlying377
 a53:=isAgg377
 z53:=sizeOf377
 v53:=zeroValue377
 t131:=underlying285
 a131:=isAgg285
 z131:=sizeOf285
 v131:=zeroValue285
 t182:=underlying388
 a182:=isAgg388
 z182:=sizeOf388
 v182:=zeroValue388
 t183:=underlying389
 a183:=isAgg389
 z183:=sizeOf389
 v183:=zeroValue389
 t218:=underlying412
 a218:=isAgg412
 z218:=sizeOf412
 v218:=zeroValue412
 t222:=underlying416
 a222:=isAgg416
 z222:=sizeOf416
 v222:=zeroValue416
 t228:=underlying431
 a228:=isAgg431
 z228:=sizeOf431
 v228:=zeroValue431
 t229:=underlying432
 a229:=isAgg432
 z229:=sizeOf432
 v229:=zeroValue432 }
