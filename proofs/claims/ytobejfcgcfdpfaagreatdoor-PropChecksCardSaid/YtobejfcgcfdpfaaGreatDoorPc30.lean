/- Parts. -/
import Derived.Test.YtobejfcgcfdpfaaGreatDoorPc1
import Derived.Test.YtobejfcgcfdpfaaGreatDoorProg
import Derived.Ground.NamesProg
import Derived.Shelf.Strings.Cut
import Derived.Shelf.Strings.Search3
open Go.Proofs.Tryz
namespace Go.Proofs
open Go.Shelf
def Tryz.UA:Go.Shelf.Ren:=⟨fun | 145=>137 | 220=>169 | 219=>197 | 217=>124 | 225=>224 | 224=>225 | 267=>226 | 266=>160 | 314=>238 | n=>n,fun | 9=>9 | 4=>4 | 59=>219 | 3=>3 | 5=>5 | 46=>198 | 146=>235 | 51=>234 | n=>n,fun | 1=>4 | n=>n⟩
theorem Tryz.ad5:Go.Proofs.Lays.n145 prog Tryz.UA:={
 mixed:=ah
 f145:=func137.trans aU
 f217:=func124.trans aU
 f219:=func197.trans aU
 f220:=func169.trans aU
 f224:=func225.trans aU
 f225:=func224.trans aU
 f266:=func160.trans aU
 f267:=func226.trans aU
 f314:=func238.trans aU
 t3:=underlying3
 a3:=isAgg3
 z3:=sizeOf3
 v3:=zeroValue3
 t4:=underlying4
 a4:=isAgg4
 z4:=sizeOf4
 v4:=zeroValue4
 t5:=underlying5
 a5:=isAgg5
 z5:=sizeOf5
 v5:=zeroValue5
 t9:=underlying9
 a9:=isAgg9
 z9:=sizeOf9
 v9:=zeroValue9
 t46:=underlying198
 a46:=isAgg198
 z46:=sizeOf198
 v46:=zeroValue198
 t51:=underlying234
 a51:=isAgg234
 z51:=sizeOf234
 v51:=zeroValue234
 t59:=underlying219
 a59:=isAgg219
 z59:=sizeOf219
 v59:=zeroValue219
 t146:=underlying235
 a146:=isAgg235
 z146:=sizeOf235
 v146:=zeroValue235
 g1:=by kernel_rfl }
def Tryz.Uy:Go.Shelf.Ren:=⟨fun | 143=>157 | 219=>197 | 217=>124 | 225=>224 | 224=>225 | 267=>226 | 266=>160 | 314=>238 | n=>n,fun | 9=>9 | 3=>3 | 4=>4 | 5=>5 | 46=>198 | 146=>235 | 51=>234 | n=>n,fun | 1=>4 | n=>n⟩
theorem Tryz.ad3:Go.Proofs.Lays.n143 prog Tryz.Uy:={
 mixed:=ah
 f143:=func157.trans aU
 f217:=func124.trans aU
 f219:=func197.trans aU
 f224:=func225.trans aU
 f225:=func224.trans aU
 f266:=func160.trans aU
 f267:=func226.trans aU
 f314:=func238.trans aU
 t3:=underlying3
 a3:=isAgg3
 z3:=sizeOf3
 v3:=zeroValue3
 t4:=underlying4
 a4:=isAgg4
 z4:=sizeOf4
 v4:=zeroValue4
 t5:=underlying5
 a5:=isAgg5
 z5:=sizeOf5
 v5:=zeroValue5
 t9:=underlying9
 a9:=isAgg9
 z9:=sizeOf9
 v9:=zeroValue9
 t46:=underlying198
 a46:=isAgg198
 z46:=sizeOf198
 v46:=zeroValue198
 t51:=underlying234
 a51:=isAgg234
 z51:=sizeOf234
 v51:=zeroValue234
 t146:=underlying235
 a146:=isAgg235
 z146:=sizeOf235
 v146:=zeroValue235
 g1:=by kernel_rfl }
