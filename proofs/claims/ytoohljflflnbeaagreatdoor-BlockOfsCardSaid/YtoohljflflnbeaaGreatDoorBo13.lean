/- Parts. -/
import Derived.Test.YtoohljflflnbeaaGreatDoorBo1
import Derived.Test.YtoohljflflnbeaaGreatDoorProg
import Derived.Ground.NamesProg
import Derived.Shelf.Strings.SlTrimAscii
open Go.Proofs.Tryz
namespace Go.Proofs
open Go.Shelf
def Tryz.Jj:Go.Shelf.Ren:=⟨fun | 160=>179 | 232=>230 | 231=>229 | 227=>231 | 234=>233 | 233=>232 | 236=>235 | 235=>234 | 228=>286 | 271=>288 | 151=>287 | 197=>285 | 120=>315 | 152=>314 | 260=>313 | 137=>174 | 119=>332 | 224=>277 | 225=>276 | 217=>224 | 266=>281 | n=>n,fun | 9=>9 | 4=>4 | 3=>3 | 5=>5 | 117=>347 | 116=>346 | 0=>0 | 124=>350 | 21=>21 | 105=>399 | 46=>205 | 119=>439 | 139=>442 | 138=>441 | n=>n,fun | 3=>9 | 4=>10 | n=>n⟩
theorem Tryz.Ji:Go.Proofs.Lays.n160 prog Tryz.Jj:={
 mixed:=ah
 f119:=func332.trans aO
 f120:=func315.trans aO
 f137:=func174.trans aO
 f151:=func287.trans aO
 f152:=func314.trans aO
 f160:=func179.trans aO
 f197:=func285.trans aO
 f217:=func224.trans aO
 f224:=func277.trans aO
 f225:=func276.trans aO
 f227:=func231.trans aO
 f228:=func286.trans aO
 f231:=func229.trans aO
 f232:=func230.trans aO
 f233:=func232.trans aO
 f234:=func233.trans aO
 f235:=func234.trans aO
 f236:=func235.trans aO
 f260:=func313.trans aO
 f266:=func281.trans aO
 f271:=func288.trans aO
 t0:=underlying0
 a0:=isAgg0
 z0:=sizeOf0
 v0:=zeroValue0
 t3:=underlying3
 a3:=isAgg3
 z3:=sizeOf3
 v3:=zeroValue3
 t4:=underlying4
 a4:=isAgg4
 z4:=sizeOf4
 v4:=zeroValue4
 t5:=underlying5
 a5:=isAgg5
 z5:=sizeOf5
 v5:=zeroValue5
 t9:=underlying9
 a9:=isAgg9
 z9:=sizeOf9
 v9:=zeroValue9
 t21:=underlying21
 a21:=isAgg21
 z21:=sizeOf21
 v21:=zeroValue21
 t46:=underlying205
 a46:=isAgg205
 z46:=sizeOf205
 v46:=zeroValue205
 t105:=underlying399
 a105:=isAgg399
 z105:=sizeOf399
 v105:=zeroValue399
 t116:=underlying346
 a116:=isAgg346
 z116:=sizeOf346
 t117:=underlying347
 a117:=isAgg347
 z117:=sizeOf347
 v117:=zeroValue347
 t119:=underlying439
 a119:=isAgg439
 z119:=sizeOf439
 t124:=underlying350
 a124:=isAgg350
 z124:=sizeOf350
 v124:=zeroValue350
 t138:=underlying441
 a138:=isAgg441
 z138:=sizeOf441
 v138:=zeroValue441
 t139:=underlying442
 a139:=isAgg442
 z139:=sizeOf442
 v139:=zeroValue442
 g3:=ah
 g4:=by kernel_rfl }
