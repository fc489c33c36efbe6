/- Parts. -/
import Derived.Test.YtoohljflflnbeaaGreatDoorBo1
import Derived.Test.YtoohljflflnbeaaGreatDoorProg
import Derived.Ground.NamesProg
import Derived.Shelf.Strings.FieldsFuncAny
open Go.Proofs.Tryz
namespace Go.Proofs
open Go.Shelf
def Tryz.Pa:Go.Shelf.Ren:=⟨fun | 229=>237 | n=>n,fun | 9=>9 | 40=>354 | 31=>58 | 152=>402 | 3=>3 | 0=>0 | 4=>4 | 21=>21 | 154=>404 | n=>n,fun | n=>n⟩
theorem Tryz.aaU:Go.Proofs.Lays.n229 prog Tryz.Pa:={
 mixed:=ah
 f229:=func237.trans aO
 t0:=underlying0
 a0:=isAgg0
 z0:=sizeOf0
 v0:=zeroValue0
 t3:=underlying3
 a3:=isAgg3
 z3:=sizeOf3
 v3:=zeroValue3
 t4:=underlying4
 a4:=isAgg4
 z4:=sizeOf4
 v4:=zeroValue4
 t9:=underlying9
 a9:=isAgg9
 z9:=sizeOf9
 v9:=zeroValue9
 t21:=underlying21
 a21:=isAgg21
 z21:=sizeOf21
 v21:=zeroValue21
 t31:=underlying58
 a31:=isAgg58
 z31:=sizeOf58
 v31:=zeroValue58
 t40:=underlying354
 a40:=isAgg354
 z40:=sizeOf354
 v40:=zeroValue354
 t152:=underlying402
 a152:=isAgg402
 z152:=sizeOf402
 v152:=zeroValue402
 t154:=underlying404
 a154:=isAgg404
 z154:=sizeOf404
 v154:=zeroValue404 }
