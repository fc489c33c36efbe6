/- Parts. -/
import Derived.Test.YtobejfcgcfdpfaaGreatDoorPc1
import Derived.Test.YtobejfcgcfdpfaaGreatDoorProg
import Derived.Ground.NamesProg
import Derived.Shelf.Strings.Split
open Go.Proofs.Tryz
namespace Go.Proofs
open Go.Shelf
def Tryz.UB:Go.Shelf.Ren:=⟨fun | 146=>85 | 221=>123 | 268=>158 | 138=>159 | 143=>157 | 195=>198 | 197=>165 | 218=>199 | 219=>197 | 260=>209 | 217=>124 | 225=>224 | 224=>225 | 267=>226 | 266=>160 | 314=>238 | n=>n,fun | 9=>9 | 31=>77 | 3=>3 | 4=>4 | 0=>0 | 105=>245 | 21=>21 | 5=>5 | 46=>198 | 119=>322 | 139=>325 | 138=>324 | 146=>235 | 51=>234 | n=>n,fun | 1=>4 | 3=>8 | 4=>9 | n=>n⟩
theorem Tryz.ad6:Go.Proofs.Lays.n146 prog Tryz.UB:={
 mixed:=ah
 f138:=func159.trans aU
 f143:=func157.trans aU
 f146:=func85.trans aU
 f195:=func198.trans aU
 f197:=func165.trans aU
 f217:=func124.trans aU
 f218:=func199.trans aU
 f219:=func197.trans aU
 f221:=func123.trans aU
 f224:=func225.trans aU
 f225:=func224.trans aU
 f260:=func209.trans aU
 f266:=func160.trans aU
 f267:=func226.trans aU
 f268:=func158.trans aU
 f314:=func238.trans aU
 t0:=underlying0
 a0:=isAgg0
 z0:=sizeOf0
 v0:=zeroValue0
 t3:=underlying3
 a3:=isAgg3
 z3:=sizeOf3
 v3:=zeroValue3
 t4:=underlying4
 a4:=isAgg4
 z4:=sizeOf4
 v4:=zeroValue4
 t5:=underlying5
 a5:=isAgg5
 z5:=sizeOf5
 v5:=zeroValue5
 t9:=underlying9
 a9:=isAgg9
 z9:=sizeOf9
 v9:=zeroValue9
 t21:=underlying21
 a21:=isAgg21
 z21:=sizeOf21
 v21:=zeroValue21
 t31:=underlying77
 a31:=isAgg77
 z31:=sizeOf77
 v31:=zeroValue77
 t46:=underlying198
 a46:=isAgg198
 z46:=sizeOf198
 v46:=zeroValue198
 t51:=underlying234
 a51:=isAgg234
 z51:=sizeOf234
 v51:=zeroValue234
 t105:=underlying245
 a105:=isAgg245
 z105:=sizeOf245
 v105:=zeroValue245
 t119:=underlying322
 a119:=isAgg322
 z119:=sizeOf322
 t138:=underlying324
 a138:=isAgg324
 z138:=sizeOf324
 v138:=zeroValue324
 t139:=underlying325
 a139:=isAgg325
 z139:=sizeOf325
 v139:=zeroValue325
 t146:=underlying235
 a146:=isAgg235
 z146:=sizeOf235
 v146:=zeroValue235
 g1:=ah
 g3:=ah
 g4:=by kernel_rfl }
