/- Parts. -/
import Derived.Test.YtdigkhaofjmgkaaGreatDoorProg
import Derived.Ground.NamesProg
import Derived.Shelf.Strings.Split
open Go.Proofs.Tryz
namespace Go.Proofs
open Go.Shelf
def Tryz.J4:Go.Shelf.Ren:=⟨fun | 146=>114 | 221=>159 | 268=>203 | 138=>204 | 143=>205 | 195=>232 | 197=>211 | 218=>233 | 219=>234 | 260=>244 | 217=>160 | 225=>261 | 224=>262 | 267=>263 | 266=>206 | 314=>278 | n=>n,fun | 9=>9 | 31=>174 | 3=>3 | 4=>4 | 0=>0 | 105=>316 | 21=>21 | 5=>5 | 46=>156 | 119=>368 | 139=>371 | 138=>370 | 146=>301 | 51=>300 | n=>n,fun | 1=>4 | 3=>8 | 4=>9 | n=>n⟩
theorem Tryz.TY:Go.Proofs.Lays.n146 prog Tryz.J4:={
 mixed:=by kernel_rfl
 f138:=func204.trans (congrArg some (by kernel_rfl))
 f143:=func205.trans (congrArg some (by kernel_rfl))
 f146:=func114.trans (congrArg some (by kernel_rfl))
 f195:=func232.trans (congrArg some (by kernel_rfl))
 f197:=func211.trans (congrArg some (by kernel_rfl))
 f217:=func160.trans (congrArg some (by kernel_rfl))
 f218:=func233.trans (congrArg some (by kernel_rfl))
 f219:=func234.trans (congrArg some (by kernel_rfl))
 f221:=func159.trans (congrArg some (by kernel_rfl))
 f224:=func262.trans (congrArg some (by kernel_rfl))
 f225:=func261.trans (congrArg some (by kernel_rfl))
 f260:=func244.trans (congrArg some (by kernel_rfl))
 f266:=func206.trans (congrArg some (by kernel_rfl))
 f267:=func263.trans (congrArg some (by kernel_rfl))
 f268:=func203.trans (congrArg some (by kernel_rfl))
 f314:=func278.trans (congrArg some (by kernel_rfl))
 t0:=underlying0
 a0:=isAgg0
 z0:=sizeOf0
 v0:=zeroValue0
 t3:=underlying3
 a3:=isAgg3
 z3:=sizeOf3
 v3:=zeroValue3
 t4:=underlying4
 a4:=isAgg4
 z4:=sizeOf4
 v4:=zeroValue4
 t5:=underlying5
 a5:=isAgg5
 z5:=sizeOf5
 v5:=zeroValue5
 t9:=underlying9
 a9:=isAgg9
 z9:=sizeOf9
 v9:=zeroValue9
 t21:=underlying21
 a21:=isAgg21
 z21:=sizeOf21
 v21:=zeroValue21
 t31:=underlying174
 a31:=isAgg174
 z31:=sizeOf174
 v31:=zeroValue174
 t46:=underlying156
 a46:=isAgg156
 z46:=sizeOf156
 v46:=zeroValue156
 t51:=underlying300
 a51:=isAgg300
 z51:=sizeOf300
 v51:=zeroValue300
 t105:=underlying316
 a105:=isAgg316
 z105:=sizeOf316
 v105:=zeroValue316
 t119:=underlying368
 a119:=isAgg368
 z119:=sizeOf368
 t138:=underlying370
 a138:=isAgg370
 z138:=sizeOf370
 v138:=zeroValue370
 t139:=underlying371
 a139:=isAgg371
 z139:=sizeOf371
 v139:=zeroValue371
 t146:=underlying301
 a146:=isAgg301
 z146:=sizeOf301
 v146:=zeroValue301
 g1:=by kernel_rfl
 g3:=by kernel_rfl
 g4:=by kernel_rfl }
