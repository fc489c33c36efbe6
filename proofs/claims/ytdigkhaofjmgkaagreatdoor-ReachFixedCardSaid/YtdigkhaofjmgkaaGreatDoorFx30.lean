/- Parts. -/
import Derived.Test.YtdigkhaofjmgkaaGreatDoorProg
import Derived.Ground.NamesProg
import Derived.Shelf.Strings.Cut
import Derived.Shelf.Strings.Search3
open Go.Proofs.Tryz
namespace Go.Proofs
open Go.Shelf
def Tryz.J3:Go.Shelf.Ren:=⟨fun | 145=>173 | 220=>215 | 219=>234 | 217=>160 | 225=>261 | 224=>262 | 267=>263 | 266=>206 | 314=>278 | n=>n,fun | 9=>9 | 4=>4 | 59=>273 | 3=>3 | 5=>5 | 46=>156 | 146=>301 | 51=>300 | n=>n,fun | 1=>4 | n=>n⟩
theorem Tryz.TX:Go.Proofs.Lays.n145 prog Tryz.J3:={
 mixed:=by kernel_rfl
 f145:=func173.trans (congrArg some (by kernel_rfl))
 f217:=func160.trans (congrArg some (by kernel_rfl))
 f219:=func234.trans (congrArg some (by kernel_rfl))
 f220:=func215.trans (congrArg some (by kernel_rfl))
 f224:=func262.trans (congrArg some (by kernel_rfl))
 f225:=func261.trans (congrArg some (by kernel_rfl))
 f266:=func206.trans (congrArg some (by kernel_rfl))
 f267:=func263.trans (congrArg some (by kernel_rfl))
 f314:=func278.trans (congrArg some (by kernel_rfl))
 t3:=underlying3
 a3:=isAgg3
 z3:=sizeOf3
 v3:=zeroValue3
 t4:=underlying4
 a4:=isAgg4
 z4:=sizeOf4
 v4:=zeroValue4
 t5:=underlying5
 a5:=isAgg5
 z5:=sizeOf5
 v5:=zeroValue5
 t9:=underlying9
 a9:=isAgg9
 z9:=sizeOf9
 v9:=zeroValue9
 t46:=underlying156
 a46:=isAgg156
 z46:=sizeOf156
 v46:=zeroValue156
 t51:=underlying300
 a51:=isAgg300
 z51:=sizeOf300
 v51:=zeroValue300
 t59:=underlying273
 a59:=isAgg273
 z59:=sizeOf273
 v59:=zeroValue273
 t146:=underlying301
 a146:=isAgg301
 z146:=sizeOf301
 v146:=zeroValue301
 g1:=by kernel_rfl }
def Tryz.J1:Go.Shelf.Ren:=⟨fun | 143=>205 | 219=>234 | 217=>160 | 225=>261 | 224=>262 | 267=>263 | 266=>206 | 314=>278 | n=>n,fun | 9=>9 | 3=>3 | 4=>4 | 5=>5 | 46=>156 | 146=>301 | 51=>300 | n=>n,fun | 1=>4 | n=>n⟩
theorem Tryz.TV:Go.Proofs.Lays.n143 prog Tryz.J1:={
 mixed:=by kernel_rfl
 f143:=func205.trans (congrArg some (by kernel_rfl))
 f217:=func160.trans (congrArg some (by kernel_rfl))
 f219:=func234.trans (congrArg some (by kernel_rfl))
 f224:=func262.trans (congrArg some (by kernel_rfl))
 f225:=func261.trans (congrArg some (by kernel_rfl))
 f266:=func206.trans (congrArg some (by kernel_rfl))
 f267:=func263.trans (congrArg some (by kernel_rfl))
 f314:=func278.trans (congrArg some (by kernel_rfl))
 t3:=underlying3
 a3:=isAgg3
 z3:=sizeOf3
 v3:=zeroValue3
 t4:=underlying4
 a4:=isAgg4
 z4:=sizeOf4
 v4:=zeroValue4
 t5:=underlying5
 a5:=isAgg5
 z5:=sizeOf5
 v5:=zeroValue5
 t9:=underlying9
 a9:=isAgg9
 z9:=sizeOf9
 v9:=zeroValue9
 t46:=underlying156
 a46:=isAgg156
 z46:=sizeOf156
 v46:=zeroValue156
 t51:=underlying300
 a51:=isAgg300
 z51:=sizeOf300
 v51:=zeroValue300
 t146:=underlying301
 a146:=isAgg301
 z146:=sizeOf301
 v146:=zeroValue301
 g1:=by kernel_rfl }
