/-
  Texts that belong together, in one file: Sh0.
-/
import Derived.Test.YtjaodmndkpalkaaGreatDoorLb13
import Derived.Test.YtjaodmndkpalkaaGreatDoorProg
import Derived.Ground.NamesProg
import Derived.Shelf.Strings.SlTrimAscii
namespace Go.Proofs
open Go.Shelf
def Tryz.lays160_ren : Go.Shelf.Ren := ⟨fun | 160 => 97 | 232 => 150 | 231 => 149 | 227 => 151 | 234 => 153 | 233 => 152 | 236 => 155 | 235 => 154 | 228 => 207 | 271 => 209 | 151 => 208 | 197 => 206 | 120 => 244 | 152 => 243 | 260 => 242 | 137 => 164 | 119 => 272 | 224 => 240 | 225 => 239 | 217 => 214 | 266 => 252 | n => n, fun | 9 => 9 | 4 => 4 | 3 => 3 | 5 => 5 | 117 => 254 | 116 => 253 | 0 => 0 | 124 => 257 | 21 => 21 | 105 => 300 | 46 => 132 | 119 => 372 | 139 => 375 | 138 => 374 | n => n, fun | 3 => 7 | 4 => 8 | n => n⟩
theorem Tryz.lays160 : Go.Proofs.Lays.n160 Tryz.prog Tryz.lays160_ren := {
 mixed := by kernel_rfl
 f119 := Tryz.func272.trans (congrArg some (by kernel_rfl))
 f120 := Tryz.func244.trans (congrArg some (by kernel_rfl))
 f137 := Tryz.func164.trans (congrArg some (by kernel_rfl))
 f151 := Tryz.func208.trans (congrArg some (by kernel_rfl))
 f152 := Tryz.func243.trans (congrArg some (by kernel_rfl))
 f160 := Tryz.func97.trans (congrArg some (by kernel_rfl))
 f197 := Tryz.func206.trans (congrArg some (by kernel_rfl))
 f217 := Tryz.func214.trans (congrArg some (by kernel_rfl))
 f224 := Tryz.func240.trans (congrArg some (by kernel_rfl))
 f225 := Tryz.func239.trans (congrArg some (by kernel_rfl))
 f227 := Tryz.func151.trans (congrArg some (by kernel_rfl))
 f228 := Tryz.func207.trans (congrArg some (by kernel_rfl))
 f231 := Tryz.func149.trans (congrArg some (by kernel_rfl))
 f232 := Tryz.func150.trans (congrArg some (by kernel_rfl))
 f233 := Tryz.func152.trans (congrArg some (by kernel_rfl))
 f234 := Tryz.func153.trans (congrArg some (by kernel_rfl))
 f235 := Tryz.func154.trans (congrArg some (by kernel_rfl))
 f236 := Tryz.func155.trans (congrArg some (by kernel_rfl))
 f260 := Tryz.func242.trans (congrArg some (by kernel_rfl))
 f266 := Tryz.func252.trans (congrArg some (by kernel_rfl))
 f271 := Tryz.func209.trans (congrArg some (by kernel_rfl))
 t0 := Tryz.underlying0
 a0 := Tryz.isAgg0
 z0 := Tryz.sizeOf0
 v0 := Tryz.zeroValue0
 t3 := Tryz.underlying3
 a3 := Tryz.isAgg3
 z3 := Tryz.sizeOf3
 v3 := Tryz.zeroValue3
 t4 := Tryz.underlying4
 a4 := Tryz.isAgg4
 z4 := Tryz.sizeOf4
 v4 := Tryz.zeroValue4
 t5 := Tryz.underlying5
 a5 := Tryz.isAgg5
 z5 := Tryz.sizeOf5
 v5 := Tryz.zeroValue5
 t9 := Tryz.underlying9
 a9 := Tryz.isAgg9
 z9 := Tryz.sizeOf9
 v9 := Tryz.zeroValue9
 t21 := Tryz.underlying21
 a21 := Tryz.isAgg21
 z21 := Tryz.sizeOf21
 v21 := Tryz.zeroValue21
 t46 := Tryz.underlying132
 a46 := Tryz.isAgg132
 z46 := Tryz.sizeOf132
 v46 := Tryz.zeroValue132
 t105 := Tryz.underlying300
 a105 := Tryz.isAgg300
 z105 := Tryz.sizeOf300
 v105 := Tryz.zeroValue300
 t116 := Tryz.underlying253
 a116 := Tryz.isAgg253
 z116 := Tryz.sizeOf253
 t117 := Tryz.underlying254
 a117 := Tryz.isAgg254
 z117 := Tryz.sizeOf254
 v117 := Tryz.zeroValue254
 t119 := Tryz.underlying372
 a119 := Tryz.isAgg372
 z119 := Tryz.sizeOf372
 t124 := Tryz.underlying257
 a124 := Tryz.isAgg257
 z124 := Tryz.sizeOf257
 v124 := Tryz.zeroValue257
 t138 := Tryz.underlying374
 a138 := Tryz.isAgg374
 z138 := Tryz.sizeOf374
 v138 := Tryz.zeroValue374
 t139 := Tryz.underlying375
 a139 := Tryz.isAgg375
 z139 := Tryz.sizeOf375
 v139 := Tryz.zeroValue375
 g3 := by kernel_rfl
 g4 := by kernel_rfl }
end Go.Proofs
