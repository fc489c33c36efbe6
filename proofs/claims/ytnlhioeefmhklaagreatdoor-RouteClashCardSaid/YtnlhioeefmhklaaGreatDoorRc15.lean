/-
  Texts that belong together, in one file: Sh3.
-/
import Derived.Test.YtnlhioeefmhklaaGreatDoorRc14
import Derived.Test.YtnlhioeefmhklaaGreatDoorProg
import Derived.Ground.NamesProg
import Derived.Shelf.Sort.Plain
/-
  DERIVED: THE SHELF's CONTRACTS AT THIS DUMP, IN PLAIN WORDS (tools/lay-plain.mjs out of 'YtnlhioeefmhklaaGreatDoorSh3s.lean', which tools/lay-shelf.mjs wrote): THE SAME DECLARATIONS UNDER THE SAME NAMES: 'import', 'namespace', 'open', 'def', 'theorem' AND NOTHING ELSE: no command of the shelf's: FOR A HAND-IN. Each laying: the table of numbers ('.._ren') and one theorem, a field a fact of the dump's own or the kernel's comparison; each contract: ONE APPLICATION.
-/
namespace Go.Proofs
open Go.Shelf
def Tryz.lays190_ren : Go.Shelf.Ren := ⟨fun | 190 => 127 | 125 => 92 | 258 => 168 | 128 => 138 | 129 => 139 | 302 => 197 | 303 => 198 | 304 => 199 | 305 => 200 | 306 => 201 | 307 => 202 | 308 => 203 | 309 => 204 | 310 => 205 | 333 => 220 | 329 => 170 | 330 => 171 | 334 => 221 | 335 => 222 | 336 => 223 | 344 => 228 | n => n, fun | 31 => 101 | 9 => 9 | 3 => 3 | 46 => 181 | 0 => 0 | 51 => 226 | 53 => 228 | 4 => 4 | 183 => 218 | 182 => 217 | 131 => 223 | 5 => 5 | 218 => 257 | 222 => 261 | 228 => 299 | 229 => 300 | n => n, fun | n => n⟩
theorem Tryz.lays190 : Go.Proofs.Lays.n190 Tryz.prog Tryz.lays190_ren := {
  mixed := by kernel_rfl
  f125 := Tryz.func92.trans (congrArg some (by kernel_rfl))
  f128 := Tryz.func138.trans (congrArg some (by kernel_rfl))
  f129 := Tryz.func139.trans (congrArg some (by kernel_rfl))
  f190 := Tryz.func127.trans (congrArg some (by kernel_rfl))
  f258 := Tryz.func168.trans (congrArg some (by kernel_rfl))
  f302 := Tryz.func197.trans (congrArg some (by kernel_rfl))
  f303 := Tryz.func198.trans (congrArg some (by kernel_rfl))
  f304 := Tryz.func199.trans (congrArg some (by kernel_rfl))
  f305 := Tryz.func200.trans (congrArg some (by kernel_rfl))
  f306 := Tryz.func201.trans (congrArg some (by kernel_rfl))
  f307 := Tryz.func202.trans (congrArg some (by kernel_rfl))
  f308 := Tryz.func203.trans (congrArg some (by kernel_rfl))
  f309 := Tryz.func204.trans (congrArg some (by kernel_rfl))
  f310 := Tryz.func205.trans (congrArg some (by kernel_rfl))
  f329 := Tryz.func170.trans (congrArg some (by kernel_rfl))
  f330 := Tryz.func171.trans (congrArg some (by kernel_rfl))
  f333 := Tryz.func220.trans (congrArg some (by kernel_rfl))
  f334 := Tryz.func221.trans (congrArg some (by kernel_rfl))
  f335 := Tryz.func222.trans (congrArg some (by kernel_rfl))
  f336 := Tryz.func223.trans (congrArg some (by kernel_rfl))
  f344 := Tryz.func228.trans (congrArg some (by kernel_rfl))
  t0 := Tryz.underlying0
  a0 := Tryz.isAgg0
  z0 := Tryz.sizeOf0
  v0 := Tryz.zeroValue0
  t3 := Tryz.underlying3
  a3 := Tryz.isAgg3
  z3 := Tryz.sizeOf3
  v3 := Tryz.zeroValue3
  t4 := Tryz.underlying4
  a4 := Tryz.isAgg4
  z4 := Tryz.sizeOf4
  v4 := Tryz.zeroValue4
  t5 := Tryz.underlying5
  a5 := Tryz.isAgg5
  z5 := Tryz.sizeOf5
  v5 := Tryz.zeroValue5
  t9 := Tryz.underlying9
  a9 := Tryz.isAgg9
  z9 := Tryz.sizeOf9
  v9 := Tryz.zeroValue9
  t31 := Tryz.underlying101
  a31 := Tryz.isAgg101
  z31 := Tryz.sizeOf101
  v31 := Tryz.zeroValue101
  t46 := Tryz.underlying181
  a46 := Tryz.isAgg181
  z46 := Tryz.sizeOf181
  v46 := Tryz.zeroValue181
  t51 := Tryz.underlying226
  a51 := Tryz.isAgg226
  z51 := Tryz.sizeOf226
  v51 := Tryz.zeroValue226
  t53 := Tryz.underlying228
  a53 := Tryz.isAgg228
  z53 := Tryz.sizeOf228
  v53 := Tryz.zeroValue228
  t131 := Tryz.underlying223
  a131 := Tryz.isAgg223
  z131 := Tryz.sizeOf223
  v131 := Tryz.zeroValue223
  t182 := Tryz.underlying217
  a182 := Tryz.isAgg217
  z182 := Tryz.sizeOf217
  v182 := Tryz.zeroValue217
  t183 := Tryz.underlying218
  a183 := Tryz.isAgg218
  z183 := Tryz.sizeOf218
  v183 := Tryz.zeroValue218
  t218 := Tryz.underlying257
  a218 := Tryz.isAgg257
  z218 := Tryz.sizeOf257
  v218 := Tryz.zeroValue257
  t222 := Tryz.underlying261
  a222 := Tryz.isAgg261
  z222 := Tryz.sizeOf261
  v222 := Tryz.zeroValue261
  t228 := Tryz.underlying299
  a228 := Tryz.isAgg299
  z228 := Tryz.sizeOf299
  v228 := Tryz.zeroValue299
  t229 := Tryz.underlying300
  a229 := Tryz.isAgg300
  z229 := Tryz.sizeOf300
  v229 := Tryz.zeroValue300 }
end Go.Proofs
