/- Parts. -/
import Derived.Test.YtobejfcgcfdpfaaGreatDoorPc1
import Derived.Test.YtobejfcgcfdpfaaGreatDoorProg
import Derived.Ground.NamesProg
import Derived.Shelf.Sort.Plain
open Go.Proofs.Tryz
namespace Go.Proofs
open Go.Shelf
def Tryz.UE:Go.Shelf.Ren:=⟨fun | 190=>114 | 125=>149 | 258=>153 | 128=>181 | 129=>182 | 302=>184 | 303=>185 | 304=>186 | 305=>187 | 306=>188 | 307=>189 | 308=>190 | 309=>191 | 310=>192 | 333=>217 | 329=>213 | 330=>214 | 334=>218 | 335=>219 | 336=>220 | 344=>237 | n=>n,fun | 31=>77 | 9=>9 | 3=>3 | 46=>198 | 0=>0 | 51=>234 | 53=>237 | 4=>4 | 183=>253 | 182=>252 | 131=>167 | 5=>5 | 218=>293 | 222=>297 | 228=>326 | 229=>327 | n=>n,fun | n=>n⟩
theorem Tryz.aef:Go.Proofs.Lays.n190 prog Tryz.UE:={
 mixed:=ah
 f125:=func149.trans aU
 f128:=func181.trans aU
 f129:=func182.trans aU
 f190:=func114.trans aU
 f258:=func153.trans aU
 f302:=func184.trans aU
 f303:=func185.trans aU
 f304:=func186.trans aU
 f305:=func187.trans aU
 f306:=func188.trans aU
 f307:=func189.trans aU
 f308:=func190.trans aU
 f309:=func191.trans aU
 f310:=func192.trans aU
 f329:=func213.trans aU
 f330:=func214.trans aU
 f333:=func217.trans aU
 f334:=func218.trans aU
 f335:=func219.trans aU
 f336:=func220.trans aU
 f344:=func237.trans aU
 t0:=underlying0
 a0:=isAgg0
 z0:=sizeOf0
 v0:=zeroValue0
 t3:=underlying3
 a3:=isAgg3
 z3:=sizeOf3
 v3:=zeroValue3
 t4:=underlying4
 a4:=isAgg4
 z4:=sizeOf4
 v4:=zeroValue4
 t5:=underlying5
 a5:=isAgg5
 z5:=sizeOf5
 v5:=zeroValue5
 t9:=underlying9
 a9:=isAgg9
 z9:=sizeOf9
 v9:=zeroValue9
 t31:=underlying77
 a31:=isAgg77
 z31:=sizeOf77
 v31:=zeroValue77
 t46:=underlying198
 a46:=isAgg198
 z46:=sizeOf198
 v46:=zeroValue198
 t51:=underlying234
 a51:=isAgg234
 z51:=sizeOf234
 v51:=zeroValue234
 t53:=underlying237
 a53:=isAgg237
 z53:=sizeOf237
 v53:=zeroValue237
 t131:=underlying167
 a131:=isAgg167
 z131:=sizeOf167
 v131:=zeroValue167
 t182:=underlying252
 a182:=isAgg252
 z182:=sizeOf252
 v182:=zeroValue252
 t183:=underlying253
 a183:=isAgg253
 z183:=sizeOf253
 v183:=zeroValue253
 t218:=underlying293
 a218:=isAgg293
 z218:=sizeOf293
 v218:=zeroValue293
 t222:=underlying297
 a222:=isAgg297
 z222:=sizeOf297
 v222:=zeroValue297
 t228:=underlying326
 a228:=isAgg326
 z228:=sizeOf326
 v228:=zeroValue326
 t229:=underlying327
 a229:=isAgg327
 z229:=sizeOf327
 v229:=zeroValue327 }
