/- Parts. -/
import Derived.Test.YtdigkhaofjmgkaaGreatDoorProg
import Derived.Ground.NamesProg
import Derived.Shelf.Strings.SlTrimAscii
open Go.Proofs.Tryz
namespace Go.Proofs
open Go.Shelf
def Tryz.Ez:Go.Shelf.Ren:=⟨fun | 160=>121 | 232=>167 | 231=>166 | 227=>168 | 234=>170 | 233=>169 | 236=>172 | 235=>171 | 228=>212 | 271=>214 | 151=>213 | 197=>211 | 120=>246 | 152=>245 | 260=>244 | 137=>116 | 119=>272 | 224=>262 | 225=>261 | 217=>160 | 266=>206 | n=>n,fun | 9=>9 | 4=>4 | 3=>3 | 5=>5 | 117=>269 | 116=>268 | 0=>0 | 124=>272 | 21=>21 | 105=>316 | 46=>156 | 119=>368 | 139=>371 | 138=>370 | n=>n,fun | 3=>8 | 4=>9 | n=>n⟩
theorem Tryz.Ey:Go.Proofs.Lays.n160 prog Tryz.Ez:={
 mixed:=by kernel_rfl
 f119:=func272.trans (congrArg some (by kernel_rfl))
 f120:=func246.trans (congrArg some (by kernel_rfl))
 f137:=func116.trans (congrArg some (by kernel_rfl))
 f151:=func213.trans (congrArg some (by kernel_rfl))
 f152:=func245.trans (congrArg some (by kernel_rfl))
 f160:=func121.trans (congrArg some (by kernel_rfl))
 f197:=func211.trans (congrArg some (by kernel_rfl))
 f217:=func160.trans (congrArg some (by kernel_rfl))
 f224:=func262.trans (congrArg some (by kernel_rfl))
 f225:=func261.trans (congrArg some (by kernel_rfl))
 f227:=func168.trans (congrArg some (by kernel_rfl))
 f228:=func212.trans (congrArg some (by kernel_rfl))
 f231:=func166.trans (congrArg some (by kernel_rfl))
 f232:=func167.trans (congrArg some (by kernel_rfl))
 f233:=func169.trans (congrArg some (by kernel_rfl))
 f234:=func170.trans (congrArg some (by kernel_rfl))
 f235:=func171.trans (congrArg some (by kernel_rfl))
 f236:=func172.trans (congrArg some (by kernel_rfl))
 f260:=func244.trans (congrArg some (by kernel_rfl))
 f266:=func206.trans (congrArg some (by kernel_rfl))
 f271:=func214.trans (congrArg some (by kernel_rfl))
 t0:=underlying0
 a0:=isAgg0
 z0:=sizeOf0
 v0:=zeroValue0
 t3:=underlying3
 a3:=isAgg3
 z3:=sizeOf3
 v3:=zeroValue3
 t4:=underlying4
 a4:=isAgg4
 z4:=sizeOf4
 v4:=zeroValue4
 t5:=underlying5
 a5:=isAgg5
 z5:=sizeOf5
 v5:=zeroValue5
 t9:=underlying9
 a9:=isAgg9
 z9:=sizeOf9
 v9:=zeroValue9
 t21:=underlying21
 a21:=isAgg21
 z21:=sizeOf21
 v21:=zeroValue21
 t46:=underlying156
 a46:=isAgg156
 z46:=sizeOf156
 v46:=zeroValue156
 t105:=underlying316
 a105:=isAgg316
 z105:=sizeOf316
 v105:=zeroValue316
 t116:=underlying268
 a116:=isAgg268
 z116:=sizeOf268
 t117:=underlying269
 a117:=isAgg269
 z117:=sizeOf269
 v117:=zeroValue269
 t119:=underlying368
 a119:=isAgg368
 z119:=sizeOf368
 t124:=underlying272
 a124:=isAgg272
 z124:=sizeOf272
 v124:=zeroValue272
 t138:=underlying370
 a138:=isAgg370
 z138:=sizeOf370
 v138:=zeroValue370
 t139:=underlying371
 a139:=isAgg371
 z139:=sizeOf371
 v139:=zeroValue371
 g3:=by kernel_rfl
 g4:=by kernel_rfl }
