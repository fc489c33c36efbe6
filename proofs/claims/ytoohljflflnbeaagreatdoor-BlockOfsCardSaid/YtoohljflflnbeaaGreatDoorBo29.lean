/- Parts. -/
import Derived.Test.YtoohljflflnbeaaGreatDoorBo1
import Derived.Test.YtoohljflflnbeaaGreatDoorProg
import Derived.Ground.NamesProg
import Derived.Shelf.Strings.Split
open Go.Proofs.Tryz
namespace Go.Proofs
open Go.Shelf
def Tryz.O5:Go.Shelf.Ren:=⟨fun | 146=>172 | 221=>223 | 268=>279 | 138=>280 | 143=>171 | 195=>306 | 197=>285 | 218=>307 | 219=>222 | 260=>313 | 217=>224 | 225=>276 | 224=>277 | 267=>278 | 266=>281 | 314=>305 | n=>n,fun | 9=>9 | 31=>58 | 3=>3 | 4=>4 | 0=>0 | 105=>399 | 21=>21 | 5=>5 | 46=>205 | 119=>439 | 139=>442 | 138=>441 | 146=>375 | 51=>374 | n=>n,fun | 1=>5 | 3=>9 | 4=>10 | n=>n⟩
theorem Tryz.aaJ:Go.Proofs.Lays.n146 prog Tryz.O5:={
 mixed:=ah
 f138:=func280.trans aO
 f143:=func171.trans aO
 f146:=func172.trans aO
 f195:=func306.trans aO
 f197:=func285.trans aO
 f217:=func224.trans aO
 f218:=func307.trans aO
 f219:=func222.trans aO
 f221:=func223.trans aO
 f224:=func277.trans aO
 f225:=func276.trans aO
 f260:=func313.trans aO
 f266:=func281.trans aO
 f267:=func278.trans aO
 f268:=func279.trans aO
 f314:=func305.trans aO
 t0:=underlying0
 a0:=isAgg0
 z0:=sizeOf0
 v0:=zeroValue0
 t3:=underlying3
 a3:=isAgg3
 z3:=sizeOf3
 v3:=zeroValue3
 t4:=underlying4
 a4:=isAgg4
 z4:=sizeOf4
 v4:=zeroValue4
 t5:=underlying5
 a5:=isAgg5
 z5:=sizeOf5
 v5:=zeroValue5
 t9:=underlying9
 a9:=isAgg9
 z9:=sizeOf9
 v9:=zeroValue9
 t21:=underlying21
 a21:=isAgg21
 z21:=sizeOf21
 v21:=zeroValue21
 t31:=underlying58
 a31:=isAgg58
 z31:=sizeOf58
 v31:=zeroValue58
 t46:=underlying205
 a46:=isAgg205
 z46:=sizeOf205
 v46:=zeroValue205
 t51:=underlying374
 a51:=isAgg374
 z51:=sizeOf374
 v51:=zeroValue374
 t105:=underlying399
 a105:=isAgg399
 z105:=sizeOf399
 v105:=zeroValue399
 t119:=underlying439
 a119:=isAgg439
 z119:=sizeOf439
 t138:=underlying441
 a138:=isAgg441
 z138:=sizeOf441
 v138:=zeroValue441
 t139:=underlying442
 a139:=isAgg442
 z139:=sizeOf442
 v139:=zeroValue442
 t146:=underlying375
 a146:=isAgg375
 z146:=sizeOf375
 v146:=zeroValue375
 g1:=ah
 g3:=ah
 g4:=by kernel_rfl }
