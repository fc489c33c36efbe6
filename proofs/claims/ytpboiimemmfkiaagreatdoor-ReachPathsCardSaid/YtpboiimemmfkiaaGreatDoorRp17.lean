/-
  Texts that belong together,in one file: Sh3.
-/
import Derived.Test.YtpboiimemmfkiaaGreatDoorRp16
import Derived.Test.YtpboiimemmfkiaaGreatDoorProg
import Derived.Ground.NamesProg
import Derived.Shelf.Sort.Plain
namespace Go.Proofs
open Go.Shelf
def Tryz.lays190_ren:Go.Shelf.Ren:=⟨fun | 190=>224 | 125=>188 | 258=>270 | 128=>247 | 129=>248 | 302=>296 | 303=>297 | 304=>298 | 305=>299 | 306=>300 | 307=>301 | 308=>302 | 309=>303 | 310=>304 | 333=>315 | 329=>278 | 330=>279 | 334=>316 | 335=>317 | 336=>318 | 344=>320 | n=>n,fun | 31=>113 | 9=>9 | 3=>3 | 46=>184 | 0=>0 | 51=>307 | 53=>310 | 4=>4 | 183=>341 | 182=>340 | 131=>243 | 5=>5 | 218=>371 | 222=>375 | 228=>391 | 229=>392 | n=>n,fun | n=>n⟩
theorem Tryz.lays190:Go.Proofs.Lays.n190 Tryz.prog Tryz.lays190_ren:={
 mixed:=by kernel_rfl
 f125:=Tryz.func188.trans (congrArg some (by kernel_rfl))
 f128:=Tryz.func247.trans (congrArg some (by kernel_rfl))
 f129:=Tryz.func248.trans (congrArg some (by kernel_rfl))
 f190:=Tryz.func224.trans (congrArg some (by kernel_rfl))
 f258:=Tryz.func270.trans (congrArg some (by kernel_rfl))
 f302:=Tryz.func296.trans (congrArg some (by kernel_rfl))
 f303:=Tryz.func297.trans (congrArg some (by kernel_rfl))
 f304:=Tryz.func298.trans (congrArg some (by kernel_rfl))
 f305:=Tryz.func299.trans (congrArg some (by kernel_rfl))
 f306:=Tryz.func300.trans (congrArg some (by kernel_rfl))
 f307:=Tryz.func301.trans (congrArg some (by kernel_rfl))
 f308:=Tryz.func302.trans (congrArg some (by kernel_rfl))
 f309:=Tryz.func303.trans (congrArg some (by kernel_rfl))
 f310:=Tryz.func304.trans (congrArg some (by kernel_rfl))
 f329:=Tryz.func278.trans (congrArg some (by kernel_rfl))
 f330:=Tryz.func279.trans (congrArg some (by kernel_rfl))
 f333:=Tryz.func315.trans (congrArg some (by kernel_rfl))
 f334:=Tryz.func316.trans (congrArg some (by kernel_rfl))
 f335:=Tryz.func317.trans (congrArg some (by kernel_rfl))
 f336:=Tryz.func318.trans (congrArg some (by kernel_rfl))
 f344:=Tryz.func320.trans (congrArg some (by kernel_rfl))
 t0:=Tryz.underlying0
 a0:=Tryz.isAgg0
 z0:=Tryz.sizeOf0
 v0:=Tryz.zeroValue0
 t3:=Tryz.underlying3
 a3:=Tryz.isAgg3
 z3:=Tryz.sizeOf3
 v3:=Tryz.zeroValue3
 t4:=Tryz.underlying4
 a4:=Tryz.isAgg4
 z4:=Tryz.sizeOf4
 v4:=Tryz.zeroValue4
 t5:=Tryz.underlying5
 a5:=Tryz.isAgg5
 z5:=Tryz.sizeOf5
 v5:=Tryz.zeroValue5
 t9:=Tryz.underlying9
 a9:=Tryz.isAgg9
 z9:=Tryz.sizeOf9
 v9:=Tryz.zeroValue9
 t31:=Tryz.underlying113
 a31:=Tryz.isAgg113
 z31:=Tryz.sizeOf113
 v31:=Tryz.zeroValue113
 t46:=Tryz.underlying184
 a46:=Tryz.isAgg184
 z46:=Tryz.sizeOf184
 v46:=Tryz.zeroValue184
 t51:=Tryz.underlying307
 a51:=Tryz.isAgg307
 z51:=Tryz.sizeOf307
 v51:=Tryz.zeroValue307
 t53:=Tryz.underlying310
 a53:=Tryz.isAgg310
 z53:=Tryz.sizeOf310
 v53:=Tryz.zeroValue310
 t131:=Tryz.underlying243
 a131:=Tryz.isAgg243
 z131:=Tryz.sizeOf243
 v131:=Tryz.zeroValue243
 t182:=Tryz.underlying340
 a182:=Tryz.isAgg340
 z182:=Tryz.sizeOf340
 v182:=Tryz.zeroValue340
 t183:=Tryz.underlying341
 a183:=Tryz.isAgg341
 z183:=Tryz.sizeOf341
 v183:=Tryz.zeroValue341
 t218:=Tryz.underlying371
 a218:=Tryz.isAgg371
 z218:=Tryz.sizeOf371
 v218:=Tryz.zeroValue371
 t222:=Tryz.underlying375
 a222:=Tryz.isAgg375
 z222:=Tryz.sizeOf375
 v222:=Tryz.zeroValue375
 t228:=Tryz.underlying391
 a228:=Tryz.isAgg391
 z228:=Tryz.sizeOf391
 v228:=Tryz.zeroValue391
 t229:=Tryz.underlying392
 a229:=Tryz.isAgg392
 z229:=Tryz.sizeOf392
 v229:=Tryz.zeroValue392 }
end Go.Proofs
