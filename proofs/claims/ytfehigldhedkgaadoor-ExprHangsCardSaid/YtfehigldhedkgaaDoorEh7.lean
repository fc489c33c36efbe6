/-
  Texts that belong together, in one file: Sh0.
-/
import Derived.Test.YtfehigldhedkgaaDoorEh6
import Derived.Test.YtfehigldhedkgaaDoorProg
import Derived.Ground.NamesProg
import Derived.Shelf.Strings.SlTrimAscii
/-
  DERIVED: THE SHELF's CONTRACTS AT THIS DUMP, IN PLAIN WORDS (tools/lay-plain.mjs out of 'YtfehigldhedkgaaDoorSh0s.lean', which tools/lay-shelf.mjs wrote): THE SAME DECLARATIONS UNDER THE SAME NAMES: 'import', 'namespace', 'open', 'def', 'theorem' AND NOTHING ELSE: no command of the shelf's: FOR A HAND-IN. Each laying: the table of numbers ('.._ren') and one theorem, a field a fact of the dump's own or the kernel's comparison; each contract: ONE APPLICATION.
-/
namespace Go.Proofs
open Go.Shelf
def Tryd.lays160_ren : Go.Shelf.Ren := ⟨fun | 160 => 143 | 232 => 150 | 231 => 149 | 227 => 151 | 234 => 153 | 233 => 152 | 236 => 155 | 235 => 154 | 228 => 156 | 271 => 158 | 151 => 111 | 197 => 157 | 120 => 160 | 152 => 133 | 260 => 159 | 137 => 131 | 119 => 144 | 224 => 145 | 225 => 146 | 217 => 142 | 266 => 148 | n => n, fun | 9 => 9 | 4 => 4 | 3 => 3 | 5 => 5 | 117 => 227 | 116 => 226 | 0 => 0 | 124 => 230 | 21 => 21 | 105 => 231 | 46 => 160 | 119 => 233 | 139 => 236 | 138 => 235 | n => n, fun | 3 => 6 | 4 => 7 | n => n⟩
theorem Tryd.lays160 : Go.Proofs.Lays.n160 Tryd.prog Tryd.lays160_ren := {
  mixed := by kernel_rfl
  f119 := Tryd.func144.trans (congrArg some (by kernel_rfl))
  f120 := Tryd.func160.trans (congrArg some (by kernel_rfl))
  f137 := Tryd.func131.trans (congrArg some (by kernel_rfl))
  f151 := Tryd.func111.trans (congrArg some (by kernel_rfl))
  f152 := Tryd.func133.trans (congrArg some (by kernel_rfl))
  f160 := Tryd.func143.trans (congrArg some (by kernel_rfl))
  f197 := Tryd.func157.trans (congrArg some (by kernel_rfl))
  f217 := Tryd.func142.trans (congrArg some (by kernel_rfl))
  f224 := Tryd.func145.trans (congrArg some (by kernel_rfl))
  f225 := Tryd.func146.trans (congrArg some (by kernel_rfl))
  f227 := Tryd.func151.trans (congrArg some (by kernel_rfl))
  f228 := Tryd.func156.trans (congrArg some (by kernel_rfl))
  f231 := Tryd.func149.trans (congrArg some (by kernel_rfl))
  f232 := Tryd.func150.trans (congrArg some (by kernel_rfl))
  f233 := Tryd.func152.trans (congrArg some (by kernel_rfl))
  f234 := Tryd.func153.trans (congrArg some (by kernel_rfl))
  f235 := Tryd.func154.trans (congrArg some (by kernel_rfl))
  f236 := Tryd.func155.trans (congrArg some (by kernel_rfl))
  f260 := Tryd.func159.trans (congrArg some (by kernel_rfl))
  f266 := Tryd.func148.trans (congrArg some (by kernel_rfl))
  f271 := Tryd.func158.trans (congrArg some (by kernel_rfl))
  t0 := Tryd.underlying0
  a0 := Tryd.isAgg0
  z0 := Tryd.sizeOf0
  v0 := Tryd.zeroValue0
  t3 := Tryd.underlying3
  a3 := Tryd.isAgg3
  z3 := Tryd.sizeOf3
  v3 := Tryd.zeroValue3
  t4 := Tryd.underlying4
  a4 := Tryd.isAgg4
  z4 := Tryd.sizeOf4
  v4 := Tryd.zeroValue4
  t5 := Tryd.underlying5
  a5 := Tryd.isAgg5
  z5 := Tryd.sizeOf5
  v5 := Tryd.zeroValue5
  t9 := Tryd.underlying9
  a9 := Tryd.isAgg9
  z9 := Tryd.sizeOf9
  v9 := Tryd.zeroValue9
  t21 := Tryd.underlying21
  a21 := Tryd.isAgg21
  z21 := Tryd.sizeOf21
  v21 := Tryd.zeroValue21
  t46 := Tryd.underlying160
  a46 := Tryd.isAgg160
  z46 := Tryd.sizeOf160
  v46 := Tryd.zeroValue160
  t105 := Tryd.underlying231
  a105 := Tryd.isAgg231
  z105 := Tryd.sizeOf231
  v105 := Tryd.zeroValue231
  t116 := Tryd.underlying226
  a116 := Tryd.isAgg226
  z116 := Tryd.sizeOf226
  t117 := Tryd.underlying227
  a117 := Tryd.isAgg227
  z117 := Tryd.sizeOf227
  v117 := Tryd.zeroValue227
  t119 := Tryd.underlying233
  a119 := Tryd.isAgg233
  z119 := Tryd.sizeOf233
  t124 := Tryd.underlying230
  a124 := Tryd.isAgg230
  z124 := Tryd.sizeOf230
  v124 := Tryd.zeroValue230
  t138 := Tryd.underlying235
  a138 := Tryd.isAgg235
  z138 := Tryd.sizeOf235
  v138 := Tryd.zeroValue235
  t139 := Tryd.underlying236
  a139 := Tryd.isAgg236
  z139 := Tryd.sizeOf236
  v139 := Tryd.zeroValue236
  g3 := by kernel_rfl
  g4 := by kernel_rfl }
end Go.Proofs
