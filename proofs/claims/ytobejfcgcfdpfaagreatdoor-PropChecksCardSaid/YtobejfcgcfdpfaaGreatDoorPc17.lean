/- Parts. -/
import Derived.Test.YtobejfcgcfdpfaaGreatDoorPc1
import Derived.Test.YtobejfcgcfdpfaaGreatDoorProg
import Derived.Ground.NamesProg
import Derived.Shelf.Slices.CompactS
open Go.Proofs.Tryz
namespace Go.Proofs
open Go.Shelf
def Tryz.UF:Go.Shelf.Ren:=⟨fun | 194=>115 | n=>n,fun | 31=>77 | 9=>9 | 3=>3 | 4=>4 | 0=>0 | n=>n,fun | n=>n⟩
theorem Tryz.aeg:Go.Proofs.Lays.n194 prog Tryz.UF:={
 mixed:=ah
 f194:=func115.trans aU
 t0:=underlying0
 a0:=isAgg0
 z0:=sizeOf0
 v0:=zeroValue0
 t3:=underlying3
 a3:=isAgg3
 z3:=sizeOf3
 v3:=zeroValue3
 t4:=underlying4
 a4:=isAgg4
 z4:=sizeOf4
 v4:=zeroValue4
 t9:=underlying9
 a9:=isAgg9
 z9:=sizeOf9
 v9:=zeroValue9
 t31:=underlying77
 a31:=isAgg77
 z31:=sizeOf77
 v31:=zeroValue77 }
