/-
  Texts that belong together, in one file: Sh13.
-/
import Derived.Test.YtjaodmndkpalkaaGreatDoorLb28
import Derived.Test.YtjaodmndkpalkaaGreatDoorProg
import Derived.Ground.NamesProg
import Derived.Shelf.Strings.FieldsFuncAny
namespace Go.Proofs
open Go.Shelf
def Tryz.lays229_ren : Go.Shelf.Ren := ⟨fun | 229 => 157 | n => n, fun | 9 => 9 | 40 => 261 | 31 => 164 | 152 => 304 | 3 => 3 | 0 => 0 | 4 => 4 | 21 => 21 | 154 => 306 | n => n, fun | n => n⟩
theorem Tryz.lays229 : Go.Proofs.Lays.n229 Tryz.prog Tryz.lays229_ren := {
 mixed := by kernel_rfl
 f229 := Tryz.func157.trans (congrArg some (by kernel_rfl))
 t0 := Tryz.underlying0
 a0 := Tryz.isAgg0
 z0 := Tryz.sizeOf0
 v0 := Tryz.zeroValue0
 t3 := Tryz.underlying3
 a3 := Tryz.isAgg3
 z3 := Tryz.sizeOf3
 v3 := Tryz.zeroValue3
 t4 := Tryz.underlying4
 a4 := Tryz.isAgg4
 z4 := Tryz.sizeOf4
 v4 := Tryz.zeroValue4
 t9 := Tryz.underlying9
 a9 := Tryz.isAgg9
 z9 := Tryz.sizeOf9
 v9 := Tryz.zeroValue9
 t21 := Tryz.underlying21
 a21 := Tryz.isAgg21
 z21 := Tryz.sizeOf21
 v21 := Tryz.zeroValue21
 t31 := Tryz.underlying164
 a31 := Tryz.isAgg164
 z31 := Tryz.sizeOf164
 v31 := Tryz.zeroValue164
 t40 := Tryz.underlying261
 a40 := Tryz.isAgg261
 z40 := Tryz.sizeOf261
 v40 := Tryz.zeroValue261
 t152 := Tryz.underlying304
 a152 := Tryz.isAgg304
 z152 := Tryz.sizeOf304
 v152 := Tryz.zeroValue304
 t154 := Tryz.underlying306
 a154 := Tryz.isAgg306
 z154 := Tryz.sizeOf306
 v154 := Tryz.zeroValue306 }
end Go.Proofs
