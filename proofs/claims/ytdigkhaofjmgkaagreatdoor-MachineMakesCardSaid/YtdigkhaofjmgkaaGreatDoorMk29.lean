/-
  Texts that belong together,in one file: Sh11.
-/
import Derived.Test.YtdigkhaofjmgkaaGreatDoorProg
import Derived.Ground.NamesProg
import Derived.Shelf.Strings.Split
namespace Go.Proofs
open Go.Shelf
def Tryz.Ir:Go.Shelf.Ren:=⟨fun | 146=>114 | 221=>159 | 268=>203 | 138=>204 | 143=>205 | 195=>232 | 197=>211 | 218=>233 | 219=>234 | 260=>244 | 217=>160 | 225=>261 | 224=>262 | 267=>263 | 266=>206 | 314=>278 | n=>n,fun | 9=>9 | 31=>174 | 3=>3 | 4=>4 | 0=>0 | 105=>316 | 21=>21 | 5=>5 | 46=>156 | 119=>368 | 139=>371 | 138=>370 | 146=>301 | 51=>300 | n=>n,fun | 1=>4 | 3=>8 | 4=>9 | n=>n⟩
theorem Tryz.R3:Go.Proofs.Lays.n146 Tryz.prog Tryz.Ir:={
 mixed:=by kernel_rfl
 f138:=Tryz.func204.trans (congrArg some (by kernel_rfl))
 f143:=Tryz.func205.trans (congrArg some (by kernel_rfl))
 f146:=Tryz.func114.trans (congrArg some (by kernel_rfl))
 f195:=Tryz.func232.trans (congrArg some (by kernel_rfl))
 f197:=Tryz.func211.trans (congrArg some (by kernel_rfl))
 f217:=Tryz.func160.trans (congrArg some (by kernel_rfl))
 f218:=Tryz.func233.trans (congrArg some (by kernel_rfl))
 f219:=Tryz.func234.trans (congrArg some (by kernel_rfl))
 f221:=Tryz.func159.trans (congrArg some (by kernel_rfl))
 f224:=Tryz.func262.trans (congrArg some (by kernel_rfl))
 f225:=Tryz.func261.trans (congrArg some (by kernel_rfl))
 f260:=Tryz.func244.trans (congrArg some (by kernel_rfl))
 f266:=Tryz.func206.trans (congrArg some (by kernel_rfl))
 f267:=Tryz.func263.trans (congrArg some (by kernel_rfl))
 f268:=Tryz.func203.trans (congrArg some (by kernel_rfl))
 f314:=Tryz.func278.trans (congrArg some (by kernel_rfl))
 t0:=Tryz.underlying0
 a0:=Tryz.isAgg0
 z0:=Tryz.sizeOf0
 v0:=Tryz.zeroValue0
 t3:=Tryz.underlying3
 a3:=Tryz.isAgg3
 z3:=Tryz.sizeOf3
 v3:=Tryz.zeroValue3
 t4:=Tryz.underlying4
 a4:=Tryz.isAgg4
 z4:=Tryz.sizeOf4
 v4:=Tryz.zeroValue4
 t5:=Tryz.underlying5
 a5:=Tryz.isAgg5
 z5:=Tryz.sizeOf5
 v5:=Tryz.zeroValue5
 t9:=Tryz.underlying9
 a9:=Tryz.isAgg9
 z9:=Tryz.sizeOf9
 v9:=Tryz.zeroValue9
 t21:=Tryz.underlying21
 a21:=Tryz.isAgg21
 z21:=Tryz.sizeOf21
 v21:=Tryz.zeroValue21
 t31:=Tryz.underlying174
 a31:=Tryz.isAgg174
 z31:=Tryz.sizeOf174
 v31:=Tryz.zeroValue174
 t46:=Tryz.underlying156
 a46:=Tryz.isAgg156
 z46:=Tryz.sizeOf156
 v46:=Tryz.zeroValue156
 t51:=Tryz.underlying300
 a51:=Tryz.isAgg300
 z51:=Tryz.sizeOf300
 v51:=Tryz.zeroValue300
 t105:=Tryz.underlying316
 a105:=Tryz.isAgg316
 z105:=Tryz.sizeOf316
 v105:=Tryz.zeroValue316
 t119:=Tryz.underlying368
 a119:=Tryz.isAgg368
 z119:=Tryz.sizeOf368
 t138:=Tryz.underlying370
 a138:=Tryz.isAgg370
 z138:=Tryz.sizeOf370
 v138:=Tryz.zeroValue370
 t139:=Tryz.underlying371
 a139:=Tryz.isAgg371
 z139:=Tryz.sizeOf371
 v139:=Tryz.zeroValue371
 t146:=Tryz.underlying301
 a146:=Tryz.isAgg301
 z146:=Tryz.sizeOf301
 v146:=Tryz.zeroValue301
 g1:=by kernel_rfl
 g3:=by kernel_rfl
 g4:=by kernel_rfl }
end Go.Proofs
