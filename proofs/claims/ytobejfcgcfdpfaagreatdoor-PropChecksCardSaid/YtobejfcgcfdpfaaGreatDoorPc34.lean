/- Parts. -/
import Derived.Test.YtobejfcgcfdpfaaGreatDoorPc1
import Derived.Test.YtobejfcgcfdpfaaGreatDoorProg
import Derived.Ground.NamesProg
import Derived.Shelf.Strings.FieldsFuncAny
open Go.Proofs.Tryz
namespace Go.Proofs
open Go.Shelf
def Tryz.UG:Go.Shelf.Ren:=⟨fun | 229=>138 | n=>n,fun | 9=>9 | 40=>222 | 31=>77 | 152=>248 | 3=>3 | 0=>0 | 4=>4 | 21=>21 | 154=>250 | n=>n,fun | n=>n⟩
theorem Tryz.aeh:Go.Proofs.Lays.n229 prog Tryz.UG:={
 mixed:=ah
 f229:=func138.trans aU
 t0:=underlying0
 a0:=isAgg0
 z0:=sizeOf0
 v0:=zeroValue0
 t3:=underlying3
 a3:=isAgg3
 z3:=sizeOf3
 v3:=zeroValue3
 t4:=underlying4
 a4:=isAgg4
 z4:=sizeOf4
 v4:=zeroValue4
 t9:=underlying9
 a9:=isAgg9
 z9:=sizeOf9
 v9:=zeroValue9
 t21:=underlying21
 a21:=isAgg21
 z21:=sizeOf21
 v21:=zeroValue21
 t31:=underlying77
 a31:=isAgg77
 z31:=sizeOf77
 v31:=zeroValue77
 t40:=underlying222
 a40:=isAgg222
 z40:=sizeOf222
 v40:=zeroValue222
 t152:=underlying248
 a152:=isAgg248
 z152:=sizeOf248
 v152:=zeroValue248
 t154:=underlying250
 a154:=isAgg250
 z154:=sizeOf250
 v154:=zeroValue250 }
