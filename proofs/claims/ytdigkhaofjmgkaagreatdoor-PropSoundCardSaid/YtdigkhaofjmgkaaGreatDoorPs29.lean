/-
  Texts that belong together,in one file: Sh13.
-/
import Derived.Test.YtdigkhaofjmgkaaGreatDoorProg
import Derived.Ground.NamesProg
import Derived.Shelf.Strings.FieldsFuncAny
namespace Go.Proofs
open Go.Shelf
def Tryz.G9:Go.Shelf.Ren:=⟨fun | 229=>174 | n=>n,fun | 9=>9 | 40=>276 | 31=>174 | 152=>319 | 3=>3 | 0=>0 | 4=>4 | 21=>21 | 154=>321 | n=>n,fun | n=>n⟩
theorem Tryz.Q7:Go.Proofs.Lays.n229 Tryz.prog Tryz.G9:={
 mixed:=by kernel_rfl
 f229:=Tryz.func174.trans (congrArg some (by kernel_rfl))
 t0:=Tryz.underlying0
 a0:=Tryz.isAgg0
 z0:=Tryz.sizeOf0
 v0:=Tryz.zeroValue0
 t3:=Tryz.underlying3
 a3:=Tryz.isAgg3
 z3:=Tryz.sizeOf3
 v3:=Tryz.zeroValue3
 t4:=Tryz.underlying4
 a4:=Tryz.isAgg4
 z4:=Tryz.sizeOf4
 v4:=Tryz.zeroValue4
 t9:=Tryz.underlying9
 a9:=Tryz.isAgg9
 z9:=Tryz.sizeOf9
 v9:=Tryz.zeroValue9
 t21:=Tryz.underlying21
 a21:=Tryz.isAgg21
 z21:=Tryz.sizeOf21
 v21:=Tryz.zeroValue21
 t31:=Tryz.underlying174
 a31:=Tryz.isAgg174
 z31:=Tryz.sizeOf174
 v31:=Tryz.zeroValue174
 t40:=Tryz.underlying276
 a40:=Tryz.isAgg276
 z40:=Tryz.sizeOf276
 v40:=Tryz.zeroValue276
 t152:=Tryz.underlying319
 a152:=Tryz.isAgg319
 z152:=Tryz.sizeOf319
 v152:=Tryz.zeroValue319
 t154:=Tryz.underlying321
 a154:=Tryz.isAgg321
 z154:=Tryz.sizeOf321
 v154:=Tryz.zeroValue321 }
end Go.Proofs
