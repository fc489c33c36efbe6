/- Parts. -/
import Derived.Test.YtobejfcgcfdpfaaGreatDoorPc1
import Derived.Test.YtobejfcgcfdpfaaGreatDoorProg
import Derived.Ground.NamesProg
import Derived.Shelf.Strings.Search1
open Go.Proofs.Tryz
namespace Go.Proofs
open Go.Shelf
def Tryz.Ux:Go.Shelf.Ren:=⟨fun | 137=>87 | 217=>124 | 266=>160 | n=>n,fun | 9=>9 | 5=>5 | 3=>3 | n=>n,fun | n=>n⟩
theorem Tryz.ad2:Go.Proofs.Lays.n137 prog Tryz.Ux:={
 mixed:=ah
 f137:=func87.trans aU
 f217:=func124.trans aU
 f266:=func160.trans aU
 t3:=underlying3
 a3:=isAgg3
 z3:=sizeOf3
 v3:=zeroValue3
 t5:=underlying5
 a5:=isAgg5
 z5:=sizeOf5
 v5:=zeroValue5
 t9:=underlying9
 a9:=isAgg9
 z9:=sizeOf9
 v9:=zeroValue9 }
