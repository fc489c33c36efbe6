/- Parts. -/
import Derived.Test.YtobejfcgcfdpfaaGreatDoorPc1
import Derived.Test.YtobejfcgcfdpfaaGreatDoorProg
import Derived.Ground.NamesProg
import Derived.Shelf.Strings.SlTrimAscii
open Go.Proofs.Tryz
namespace Go.Proofs
open Go.Shelf
def Tryz.NQ:Go.Shelf.Ren:=⟨fun | 160=>92 | 232=>131 | 231=>130 | 227=>132 | 234=>134 | 233=>133 | 236=>136 | 235=>135 | 228=>166 | 271=>168 | 151=>167 | 197=>165 | 120=>211 | 152=>210 | 260=>209 | 137=>87 | 119=>235 | 224=>225 | 225=>224 | 217=>124 | 266=>160 | n=>n,fun | 9=>9 | 4=>4 | 3=>3 | 5=>5 | 117=>215 | 116=>214 | 0=>0 | 124=>218 | 21=>21 | 105=>245 | 46=>198 | 119=>322 | 139=>325 | 138=>324 | n=>n,fun | 3=>8 | 4=>9 | n=>n⟩
theorem Tryz.NP:Go.Proofs.Lays.n160 prog Tryz.NQ:={
 mixed:=ah
 f119:=func235.trans aU
 f120:=func211.trans aU
 f137:=func87.trans aU
 f151:=func167.trans aU
 f152:=func210.trans aU
 f160:=func92.trans aU
 f197:=func165.trans aU
 f217:=func124.trans aU
 f224:=func225.trans aU
 f225:=func224.trans aU
 f227:=func132.trans aU
 f228:=func166.trans aU
 f231:=func130.trans aU
 f232:=func131.trans aU
 f233:=func133.trans aU
 f234:=func134.trans aU
 f235:=func135.trans aU
 f236:=func136.trans aU
 f260:=func209.trans aU
 f266:=func160.trans aU
 f271:=func168.trans aU
 t0:=underlying0
 a0:=isAgg0
 z0:=sizeOf0
 v0:=zeroValue0
 t3:=underlying3
 a3:=isAgg3
 z3:=sizeOf3
 v3:=zeroValue3
 t4:=underlying4
 a4:=isAgg4
 z4:=sizeOf4
 v4:=zeroValue4
 t5:=underlying5
 a5:=isAgg5
 z5:=sizeOf5
 v5:=zeroValue5
 t9:=underlying9
 a9:=isAgg9
 z9:=sizeOf9
 v9:=zeroValue9
 t21:=underlying21
 a21:=isAgg21
 z21:=sizeOf21
 v21:=zeroValue21
 t46:=underlying198
 a46:=isAgg198
 z46:=sizeOf198
 v46:=zeroValue198
 t105:=underlying245
 a105:=isAgg245
 z105:=sizeOf245
 v105:=zeroValue245
 t116:=underlying214
 a116:=isAgg214
 z116:=sizeOf214
 t117:=underlying215
 a117:=isAgg215
 z117:=sizeOf215
 v117:=zeroValue215
 t119:=underlying322
 a119:=isAgg322
 z119:=sizeOf322
 t124:=underlying218
 a124:=isAgg218
 z124:=sizeOf218
 v124:=zeroValue218
 t138:=underlying324
 a138:=isAgg324
 z138:=sizeOf324
 v138:=zeroValue324
 t139:=underlying325
 a139:=isAgg325
 z139:=sizeOf325
 v139:=zeroValue325
 g3:=ah
 g4:=by kernel_rfl }
