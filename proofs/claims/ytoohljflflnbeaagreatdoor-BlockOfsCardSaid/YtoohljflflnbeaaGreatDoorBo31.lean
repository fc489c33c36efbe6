/- Parts. -/
import Derived.Test.YtoohljflflnbeaaGreatDoorBo1
import Derived.Test.YtoohljflflnbeaaGreatDoorProg
import Derived.Ground.NamesProg
import Derived.Shelf.Strings.Search1
open Go.Proofs.Tryz
namespace Go.Proofs
open Go.Shelf
def Tryz.O1:Go.Shelf.Ren:=⟨fun | 137=>174 | 217=>224 | 266=>281 | n=>n,fun | 9=>9 | 5=>5 | 3=>3 | n=>n,fun | n=>n⟩
theorem Tryz.aaF:Go.Proofs.Lays.n137 prog Tryz.O1:={
 mixed:=ah
 f137:=func174.trans aO
 f217:=func224.trans aO
 f266:=func281.trans aO
 t3:=underlying3
 a3:=isAgg3
 z3:=sizeOf3
 v3:=zeroValue3
 t5:=underlying5
 a5:=isAgg5
 z5:=sizeOf5
 v5:=zeroValue5
 t9:=underlying9
 a9:=isAgg9
 z9:=sizeOf9
 v9:=zeroValue9 }
