/-
  Texts that belong together, in one file: Sh3.
-/
import Derived.Test.YtfehigldhedkgaaDoorEh9
import Derived.Test.YtfehigldhedkgaaDoorProg
import Derived.Ground.NamesProg
import Derived.Shelf.Sort.Plain
/-
  DERIVED: THE SHELF's CONTRACTS AT THIS DUMP, IN PLAIN WORDS (tools/lay-plain.mjs out of 'YtfehigldhedkgaaDoorSh3s.lean', which tools/lay-shelf.mjs wrote): THE SAME DECLARATIONS UNDER THE SAME NAMES: 'import', 'namespace', 'open', 'def', 'theorem' AND NOTHING ELSE: no command of the shelf's: FOR A HAND-IN. Each laying: the table of numbers ('.._ren') and one theorem, a field a fact of the dump's own or the kernel's comparison; each contract: ONE APPLICATION.
-/
namespace Go.Proofs
open Go.Shelf
def Tryd.lays190_ren : Go.Shelf.Ren := ⟨fun | 190 => 88 | 125 => 100 | 258 => 99 | 128 => 122 | 129 => 123 | 302 => 113 | 303 => 114 | 304 => 115 | 305 => 116 | 306 => 117 | 307 => 118 | 308 => 119 | 309 => 120 | 310 => 121 | 333 => 134 | 329 => 135 | 330 => 136 | 334 => 137 | 335 => 138 | 336 => 139 | 344 => 147 | n => n, fun | 31 => 49 | 9 => 9 | 3 => 3 | 46 => 160 | 0 => 0 | 51 => 192 | 53 => 173 | 4 => 4 | 183 => 184 | 182 => 183 | 131 => 189 | 5 => 5 | 218 => 210 | 222 => 214 | 228 => 219 | 229 => 220 | n => n, fun | n => n⟩
theorem Tryd.lays190 : Go.Proofs.Lays.n190 Tryd.prog Tryd.lays190_ren := {
  mixed := by kernel_rfl
  f125 := Tryd.func100.trans (congrArg some (by kernel_rfl))
  f128 := Tryd.func122.trans (congrArg some (by kernel_rfl))
  f129 := Tryd.func123.trans (congrArg some (by kernel_rfl))
  f190 := Tryd.func88.trans (congrArg some (by kernel_rfl))
  f258 := Tryd.func99.trans (congrArg some (by kernel_rfl))
  f302 := Tryd.func113.trans (congrArg some (by kernel_rfl))
  f303 := Tryd.func114.trans (congrArg some (by kernel_rfl))
  f304 := Tryd.func115.trans (congrArg some (by kernel_rfl))
  f305 := Tryd.func116.trans (congrArg some (by kernel_rfl))
  f306 := Tryd.func117.trans (congrArg some (by kernel_rfl))
  f307 := Tryd.func118.trans (congrArg some (by kernel_rfl))
  f308 := Tryd.func119.trans (congrArg some (by kernel_rfl))
  f309 := Tryd.func120.trans (congrArg some (by kernel_rfl))
  f310 := Tryd.func121.trans (congrArg some (by kernel_rfl))
  f329 := Tryd.func135.trans (congrArg some (by kernel_rfl))
  f330 := Tryd.func136.trans (congrArg some (by kernel_rfl))
  f333 := Tryd.func134.trans (congrArg some (by kernel_rfl))
  f334 := Tryd.func137.trans (congrArg some (by kernel_rfl))
  f335 := Tryd.func138.trans (congrArg some (by kernel_rfl))
  f336 := Tryd.func139.trans (congrArg some (by kernel_rfl))
  f344 := Tryd.func147.trans (congrArg some (by kernel_rfl))
  t0 := Tryd.underlying0
  a0 := Tryd.isAgg0
  z0 := Tryd.sizeOf0
  v0 := Tryd.zeroValue0
  t3 := Tryd.underlying3
  a3 := Tryd.isAgg3
  z3 := Tryd.sizeOf3
  v3 := Tryd.zeroValue3
  t4 := Tryd.underlying4
  a4 := Tryd.isAgg4
  z4 := Tryd.sizeOf4
  v4 := Tryd.zeroValue4
  t5 := Tryd.underlying5
  a5 := Tryd.isAgg5
  z5 := Tryd.sizeOf5
  v5 := Tryd.zeroValue5
  t9 := Tryd.underlying9
  a9 := Tryd.isAgg9
  z9 := Tryd.sizeOf9
  v9 := Tryd.zeroValue9
  t31 := Tryd.underlying49
  a31 := Tryd.isAgg49
  z31 := Tryd.sizeOf49
  v31 := Tryd.zeroValue49
  t46 := Tryd.underlying160
  a46 := Tryd.isAgg160
  z46 := Tryd.sizeOf160
  v46 := Tryd.zeroValue160
  t51 := Tryd.underlying192
  a51 := Tryd.isAgg192
  z51 := Tryd.sizeOf192
  v51 := Tryd.zeroValue192
  t53 := Tryd.underlying173
  a53 := Tryd.isAgg173
  z53 := Tryd.sizeOf173
  v53 := Tryd.zeroValue173
  t131 := Tryd.underlying189
  a131 := Tryd.isAgg189
  z131 := Tryd.sizeOf189
  v131 := Tryd.zeroValue189
  t182 := Tryd.underlying183
  a182 := Tryd.isAgg183
  z182 := Tryd.sizeOf183
  v182 := Tryd.zeroValue183
  t183 := Tryd.underlying184
  a183 := Tryd.isAgg184
  z183 := Tryd.sizeOf184
  v183 := Tryd.zeroValue184
  t218 := Tryd.underlying210
  a218 := Tryd.isAgg210
  z218 := Tryd.sizeOf210
  v218 := Tryd.zeroValue210
  t222 := Tryd.underlying214
  a222 := Tryd.isAgg214
  z222 := Tryd.sizeOf214
  v222 := Tryd.zeroValue214
  t228 := Tryd.underlying219
  a228 := Tryd.isAgg219
  z228 := Tryd.sizeOf219
  v228 := Tryd.zeroValue219
  t229 := Tryd.underlying220
  a229 := Tryd.isAgg220
  z229 := Tryd.sizeOf220
  v229 := Tryd.zeroValue220 }
end Go.Proofs
