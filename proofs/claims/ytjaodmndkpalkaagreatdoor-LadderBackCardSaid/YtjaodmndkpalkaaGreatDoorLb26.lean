/-
  Texts that belong together, in one file: Sh12, Sh14.
-/
import Derived.Test.YtjaodmndkpalkaaGreatDoorLb25
import Derived.Test.YtjaodmndkpalkaaGreatDoorProg
import Derived.Ground.NamesProg
import Derived.Shelf.Strings.Cut
import Derived.Shelf.Strings.Search3
namespace Go.Proofs
open Go.Shelf
def Tryz.lays145_ren : Go.Shelf.Ren := ⟨fun | 145 => 156 | 220 => 210 | 219 => 204 | 217 => 214 | 225 => 239 | 224 => 240 | 267 => 241 | 266 => 252 | 314 => 271 | n => n, fun | 9 => 9 | 4 => 4 | 59 => 258 | 3 => 3 | 5 => 5 | 46 => 132 | 146 => 317 | 51 => 297 | n => n, fun | 1 => 5 | n => n⟩
theorem Tryz.lays145 : Go.Proofs.Lays.n145 Tryz.prog Tryz.lays145_ren := {
 mixed := by kernel_rfl
 f145 := Tryz.func156.trans (congrArg some (by kernel_rfl))
 f217 := Tryz.func214.trans (congrArg some (by kernel_rfl))
 f219 := Tryz.func204.trans (congrArg some (by kernel_rfl))
 f220 := Tryz.func210.trans (congrArg some (by kernel_rfl))
 f224 := Tryz.func240.trans (congrArg some (by kernel_rfl))
 f225 := Tryz.func239.trans (congrArg some (by kernel_rfl))
 f266 := Tryz.func252.trans (congrArg some (by kernel_rfl))
 f267 := Tryz.func241.trans (congrArg some (by kernel_rfl))
 f314 := Tryz.func271.trans (congrArg some (by kernel_rfl))
 t3 := Tryz.underlying3
 a3 := Tryz.isAgg3
 z3 := Tryz.sizeOf3
 v3 := Tryz.zeroValue3
 t4 := Tryz.underlying4
 a4 := Tryz.isAgg4
 z4 := Tryz.sizeOf4
 v4 := Tryz.zeroValue4
 t5 := Tryz.underlying5
 a5 := Tryz.isAgg5
 z5 := Tryz.sizeOf5
 v5 := Tryz.zeroValue5
 t9 := Tryz.underlying9
 a9 := Tryz.isAgg9
 z9 := Tryz.sizeOf9
 v9 := Tryz.zeroValue9
 t46 := Tryz.underlying132
 a46 := Tryz.isAgg132
 z46 := Tryz.sizeOf132
 v46 := Tryz.zeroValue132
 t51 := Tryz.underlying297
 a51 := Tryz.isAgg297
 z51 := Tryz.sizeOf297
 v51 := Tryz.zeroValue297
 t59 := Tryz.underlying258
 a59 := Tryz.isAgg258
 z59 := Tryz.sizeOf258
 v59 := Tryz.zeroValue258
 t146 := Tryz.underlying317
 a146 := Tryz.isAgg317
 z146 := Tryz.sizeOf317
 v146 := Tryz.zeroValue317
 g1 := by kernel_rfl }
end Go.Proofs
namespace Go.Proofs
open Go.Shelf
def Tryz.lays143_ren : Go.Shelf.Ren := ⟨fun | 143 => 147 | 219 => 204 | 217 => 214 | 225 => 239 | 224 => 240 | 267 => 241 | 266 => 252 | 314 => 271 | n => n, fun | 9 => 9 | 3 => 3 | 4 => 4 | 5 => 5 | 46 => 132 | 146 => 317 | 51 => 297 | n => n, fun | 1 => 5 | n => n⟩
theorem Tryz.lays143 : Go.Proofs.Lays.n143 Tryz.prog Tryz.lays143_ren := {
 mixed := by kernel_rfl
 f143 := Tryz.func147.trans (congrArg some (by kernel_rfl))
 f217 := Tryz.func214.trans (congrArg some (by kernel_rfl))
 f219 := Tryz.func204.trans (congrArg some (by kernel_rfl))
 f224 := Tryz.func240.trans (congrArg some (by kernel_rfl))
 f225 := Tryz.func239.trans (congrArg some (by kernel_rfl))
 f266 := Tryz.func252.trans (congrArg some (by kernel_rfl))
 f267 := Tryz.func241.trans (congrArg some (by kernel_rfl))
 f314 := Tryz.func271.trans (congrArg some (by kernel_rfl))
 t3 := Tryz.underlying3
 a3 := Tryz.isAgg3
 z3 := Tryz.sizeOf3
 v3 := Tryz.zeroValue3
 t4 := Tryz.underlying4
 a4 := Tryz.isAgg4
 z4 := Tryz.sizeOf4
 v4 := Tryz.zeroValue4
 t5 := Tryz.underlying5
 a5 := Tryz.isAgg5
 z5 := Tryz.sizeOf5
 v5 := Tryz.zeroValue5
 t9 := Tryz.underlying9
 a9 := Tryz.isAgg9
 z9 := Tryz.sizeOf9
 v9 := Tryz.zeroValue9
 t46 := Tryz.underlying132
 a46 := Tryz.isAgg132
 z46 := Tryz.sizeOf132
 v46 := Tryz.zeroValue132
 t51 := Tryz.underlying297
 a51 := Tryz.isAgg297
 z51 := Tryz.sizeOf297
 v51 := Tryz.zeroValue297
 t146 := Tryz.underlying317
 a146 := Tryz.isAgg317
 z146 := Tryz.sizeOf317
 v146 := Tryz.zeroValue317
 g1 := by kernel_rfl }
end Go.Proofs
