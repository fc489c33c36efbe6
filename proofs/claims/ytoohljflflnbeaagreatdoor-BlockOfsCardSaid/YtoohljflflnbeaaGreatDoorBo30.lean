/- Parts. -/
import Derived.Test.YtoohljflflnbeaaGreatDoorBo1
import Derived.Test.YtoohljflflnbeaaGreatDoorProg
import Derived.Ground.NamesProg
import Derived.Shelf.Strings.Cut
import Derived.Shelf.Strings.Search3
open Go.Proofs.Tryz
namespace Go.Proofs
open Go.Shelf
def Tryz.O4:Go.Shelf.Ren:=⟨fun | 145=>236 | 220=>289 | 219=>222 | 217=>224 | 225=>276 | 224=>277 | 267=>278 | 266=>281 | 314=>305 | n=>n,fun | 9=>9 | 4=>4 | 59=>351 | 3=>3 | 5=>5 | 46=>205 | 146=>375 | 51=>374 | n=>n,fun | 1=>5 | n=>n⟩
theorem Tryz.aaI:Go.Proofs.Lays.n145 prog Tryz.O4:={
 mixed:=ah
 f145:=func236.trans aO
 f217:=func224.trans aO
 f219:=func222.trans aO
 f220:=func289.trans aO
 f224:=func277.trans aO
 f225:=func276.trans aO
 f266:=func281.trans aO
 f267:=func278.trans aO
 f314:=func305.trans aO
 t3:=underlying3
 a3:=isAgg3
 z3:=sizeOf3
 v3:=zeroValue3
 t4:=underlying4
 a4:=isAgg4
 z4:=sizeOf4
 v4:=zeroValue4
 t5:=underlying5
 a5:=isAgg5
 z5:=sizeOf5
 v5:=zeroValue5
 t9:=underlying9
 a9:=isAgg9
 z9:=sizeOf9
 v9:=zeroValue9
 t46:=underlying205
 a46:=isAgg205
 z46:=sizeOf205
 v46:=zeroValue205
 t51:=underlying374
 a51:=isAgg374
 z51:=sizeOf374
 v51:=zeroValue374
 t59:=underlying351
 a59:=isAgg351
 z59:=sizeOf351
 v59:=zeroValue351
 t146:=underlying375
 a146:=isAgg375
 z146:=sizeOf375
 v146:=zeroValue375
 g1:=by kernel_rfl }
def Tryz.O2:Go.Shelf.Ren:=⟨fun | 143=>171 | 219=>222 | 217=>224 | 225=>276 | 224=>277 | 267=>278 | 266=>281 | 314=>305 | n=>n,fun | 9=>9 | 3=>3 | 4=>4 | 5=>5 | 46=>205 | 146=>375 | 51=>374 | n=>n,fun | 1=>5 | n=>n⟩
theorem Tryz.aaG:Go.Proofs.Lays.n143 prog Tryz.O2:={
 mixed:=ah
 f143:=func171.trans aO
 f217:=func224.trans aO
 f219:=func222.trans aO
 f224:=func277.trans aO
 f225:=func276.trans aO
 f266:=func281.trans aO
 f267:=func278.trans aO
 f314:=func305.trans aO
 t3:=underlying3
 a3:=isAgg3
 z3:=sizeOf3
 v3:=zeroValue3
 t4:=underlying4
 a4:=isAgg4
 z4:=sizeOf4
 v4:=zeroValue4
 t5:=underlying5
 a5:=isAgg5
 z5:=sizeOf5
 v5:=zeroValue5
 t9:=underlying9
 a9:=isAgg9
 z9:=sizeOf9
 v9:=zeroValue9
 t46:=underlying205
 a46:=isAgg205
 z46:=sizeOf205
 v46:=zeroValue205
 t51:=underlying374
 a51:=isAgg374
 z51:=sizeOf374
 v51:=zeroValue374
 t146:=underlying375
 a146:=isAgg375
 z146:=sizeOf375
 v146:=zeroValue375
 g1:=by kernel_rfl }
