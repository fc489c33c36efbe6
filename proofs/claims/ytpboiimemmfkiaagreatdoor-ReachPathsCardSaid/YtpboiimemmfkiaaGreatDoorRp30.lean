/-
  Texts that belong together,in one file: Sh13.
-/
import Derived.Test.YtpboiimemmfkiaaGreatDoorRp29
import Derived.Test.YtpboiimemmfkiaaGreatDoorProg
import Derived.Ground.NamesProg
import Derived.Shelf.Strings.FieldsFuncAny
namespace Go.Proofs
open Go.Shelf
def Tryz.lays229_ren:Go.Shelf.Ren:=⟨fun | 229=>210 | n=>n,fun | 9=>9 | 40=>305 | 31=>113 | 152=>357 | 3=>3 | 0=>0 | 4=>4 | 21=>21 | 154=>359 | n=>n,fun | n=>n⟩
theorem Tryz.lays229:Go.Proofs.Lays.n229 Tryz.prog Tryz.lays229_ren:={
 mixed:=by kernel_rfl
 f229:=Tryz.func210.trans (congrArg some (by kernel_rfl))
 t0:=Tryz.underlying0
 a0:=Tryz.isAgg0
 z0:=Tryz.sizeOf0
 v0:=Tryz.zeroValue0
 t3:=Tryz.underlying3
 a3:=Tryz.isAgg3
 z3:=Tryz.sizeOf3
 v3:=Tryz.zeroValue3
 t4:=Tryz.underlying4
 a4:=Tryz.isAgg4
 z4:=Tryz.sizeOf4
 v4:=Tryz.zeroValue4
 t9:=Tryz.underlying9
 a9:=Tryz.isAgg9
 z9:=Tryz.sizeOf9
 v9:=Tryz.zeroValue9
 t21:=Tryz.underlying21
 a21:=Tryz.isAgg21
 z21:=Tryz.sizeOf21
 v21:=Tryz.zeroValue21
 t31:=Tryz.underlying113
 a31:=Tryz.isAgg113
 z31:=Tryz.sizeOf113
 v31:=Tryz.zeroValue113
 t40:=Tryz.underlying305
 a40:=Tryz.isAgg305
 z40:=Tryz.sizeOf305
 v40:=Tryz.zeroValue305
 t152:=Tryz.underlying357
 a152:=Tryz.isAgg357
 z152:=Tryz.sizeOf357
 v152:=Tryz.zeroValue357
 t154:=Tryz.underlying359
 a154:=Tryz.isAgg359
 z154:=Tryz.sizeOf359
 v154:=Tryz.zeroValue359 }
end Go.Proofs
