/- Parts. -/
import Derived.Test.YtdigkhaofjmgkaaGreatDoorProg
import Derived.Ground.NamesProg
import Derived.Shelf.Strings.FieldsFuncAny
open Go.Proofs.Tryz
namespace Go.Proofs
open Go.Shelf
def Tryz.J9:Go.Shelf.Ren:=⟨fun | 229=>174 | n=>n,fun | 9=>9 | 40=>276 | 31=>174 | 152=>319 | 3=>3 | 0=>0 | 4=>4 | 21=>21 | 154=>321 | n=>n,fun | n=>n⟩
theorem Tryz.T9:Go.Proofs.Lays.n229 prog Tryz.J9:={
 mixed:=by kernel_rfl
 f229:=func174.trans (congrArg some (by kernel_rfl))
 t0:=underlying0
 a0:=isAgg0
 z0:=sizeOf0
 v0:=zeroValue0
 t3:=underlying3
 a3:=isAgg3
 z3:=sizeOf3
 v3:=zeroValue3
 t4:=underlying4
 a4:=isAgg4
 z4:=sizeOf4
 v4:=zeroValue4
 t9:=underlying9
 a9:=isAgg9
 z9:=sizeOf9
 v9:=zeroValue9
 t21:=underlying21
 a21:=isAgg21
 z21:=sizeOf21
 v21:=zeroValue21
 t31:=underlying174
 a31:=isAgg174
 z31:=sizeOf174
 v31:=zeroValue174
 t40:=underlying276
 a40:=isAgg276
 z40:=sizeOf276
 v40:=zeroValue276
 t152:=underlying319
 a152:=isAgg319
 z152:=sizeOf319
 v152:=zeroValue319
 t154:=underlying321
 a154:=isAgg321
 z154:=sizeOf321
 v154:=zeroValue321 }
