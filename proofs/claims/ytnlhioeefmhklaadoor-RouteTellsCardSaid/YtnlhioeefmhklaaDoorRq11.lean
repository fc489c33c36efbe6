/-
  Texts that belong together, in one file: Ty, F1, F2, F3, RT1, F5, F6, RT2, RT3.
-/
import Derived.Test.YtnlhioeefmhklaaDoorRq10
import Derived.Test.YtnlhioeefmhklaaDoorProg
/-
  What the types of this seat's translation are: closed facts, by program (wip/tools/gen_ty.py).
-/
namespace Go.Proofs.YtnlhioeefmhklaaDoor
open Go.Av
@[simp] theorem ty0 : tyOf Tryd.prog 0 = some ⟨.tuple #[], 1, 0, .tuple #[], peOf Tryd.prog 0⟩ := by kernel_rfl
@[simp] theorem ty1 : tyOf Tryd.prog 1 = some ⟨.func #[] #[] false, 1, 8, .nilFunc, peOf Tryd.prog 1⟩ := by kernel_rfl
@[simp] theorem ty2 : tyOf Tryd.prog 2 = some ⟨.int .i64, 1, 8, .int .i64 0, peOf Tryd.prog 2⟩ := by kernel_rfl
@[simp] theorem ty3 : tyOf Tryd.prog 3 = some ⟨.int .i64, 1, 8, .int .i64 0, peOf Tryd.prog 3⟩ := by kernel_rfl
@[simp] theorem ty4 : tyOf Tryd.prog 4 = some ⟨.bool, 1, 1, .bool false, peOf Tryd.prog 4⟩ := by kernel_rfl
@[simp] theorem ty5 : tyOf Tryd.prog 5 = some ⟨.int .u8, 1, 1, .int .u8 0, peOf Tryd.prog 5⟩ := by kernel_rfl
@[simp] theorem ty7 : tyOf Tryd.prog 7 = some ⟨.struct #[{ name := "x", type := 2, offset := 0, embedded := false, tag := "", pkgPath := "runtime", byteOffset := 0 }, { name := "y", type := 3, offset := 1, embedded := false, tag := "", pkgPath := "runtime", byteOffset := 8 }, { name := "signed", type := 4, offset := 2, embedded := false, tag := "", pkgPath := "runtime", byteOffset := 16 }, { name := "code", type := 6, offset := 3, embedded := false, tag := "", pkgPath := "runtime", byteOffset := 17 }], 4, 24, .agg #[.int .i64 0, .int .i64 0, .bool false, .int .u8 0], peOf Tryd.prog 7⟩ := by kernel_rfl
@[simp] theorem ty9 : tyOf Tryd.prog 9 = some ⟨.string, 1, 16, .string ⟨#[]⟩, peOf Tryd.prog 9⟩ := by kernel_rfl
@[simp] theorem ty12 : tyOf Tryd.prog 12 = some ⟨.int .u64, 1, 8, .int .u64 0, peOf Tryd.prog 12⟩ := by kernel_rfl
@[simp] theorem ty13 : tyOf Tryd.prog 13 = some ⟨.struct #[{ name := "msg", type := 9, offset := 0, embedded := false, tag := "", pkgPath := "runtime", byteOffset := 0 }, { name := "addr", type := 12, offset := 1, embedded := false, tag := "", pkgPath := "runtime", byteOffset := 16 }], 2, 24, .agg #[.string ⟨#[]⟩, .int .u64 0], peOf Tryd.prog 13⟩ := by kernel_rfl
@[simp] theorem ty15 : tyOf Tryd.prog 15 = some ⟨.pointer 135, 1, 8, .pointer none, peOf Tryd.prog 15⟩ := by kernel_rfl
@[simp] theorem ty16 : tyOf Tryd.prog 16 = some ⟨.pointer 138, 1, 8, .pointer none, peOf Tryd.prog 16⟩ := by kernel_rfl
@[simp] theorem ty17 : tyOf Tryd.prog 17 = some ⟨.pointer 146, 1, 8, .pointer none, peOf Tryd.prog 17⟩ := by kernel_rfl
@[simp] theorem ty18 : tyOf Tryd.prog 18 = some ⟨.struct #[{ name := "typ", type := 17, offset := 0, embedded := false, tag := "", pkgPath := "internal/runtime/maps", byteOffset := 0 }], 1, 8, .agg #[.pointer none], peOf Tryd.prog 18⟩ := by kernel_rfl
@[simp] theorem ty20 : tyOf Tryd.prog 20 = some ⟨.interface #[], 1, 16, .nilIface, peOf Tryd.prog 20⟩ := by kernel_rfl
@[simp] theorem ty21 : tyOf Tryd.prog 21 = some ⟨.int .i32, 1, 4, .int .i32 0, peOf Tryd.prog 21⟩ := by kernel_rfl
@[simp] theorem ty22 : tyOf Tryd.prog 22 = some ⟨.slice 42, 1, 24, .slice none 0 0, peOf Tryd.prog 22⟩ := by kernel_rfl
@[simp] theorem ty23 : tyOf Tryd.prog 23 = some ⟨.struct #[{ name := "Sections", type := 3, offset := 0, embedded := false, tag := "", pkgPath := "", byteOffset := 0 }, { name := "Points", type := 3, offset := 1, embedded := false, tag := "", pkgPath := "", byteOffset := 8 }, { name := "Routes", type := 22, offset := 2, embedded := false, tag := "", pkgPath := "", byteOffset := 16 }], 3, 40, .agg #[.int .i64 0, .int .i64 0, .slice none 0 0], peOf Tryd.prog 23⟩ := by kernel_rfl
@[simp] theorem ty24 : tyOf Tryd.prog 24 = some ⟨.struct #[{ name := "Sections", type := 3, offset := 0, embedded := false, tag := "", pkgPath := "", byteOffset := 0 }, { name := "Points", type := 3, offset := 1, embedded := false, tag := "", pkgPath := "", byteOffset := 8 }, { name := "Routes", type := 22, offset := 2, embedded := false, tag := "", pkgPath := "", byteOffset := 16 }], 3, 40, .agg #[.int .i64 0, .int .i64 0, .slice none 0 0], peOf Tryd.prog 24⟩ := by kernel_rfl
@[simp] theorem ty25 : tyOf Tryd.prog 25 = some ⟨.slice 45, 1, 24, .slice none 0 0, peOf Tryd.prog 25⟩ := by kernel_rfl
@[simp] theorem ty26 : tyOf Tryd.prog 26 = some ⟨.struct #[{ name := "Sections", type := 3, offset := 0, embedded := false, tag := "", pkgPath := "", byteOffset := 0 }, { name := "Points", type := 3, offset := 1, embedded := false, tag := "", pkgPath := "", byteOffset := 8 }, { name := "Routes", type := 25, offset := 2, embedded := false, tag := "", pkgPath := "", byteOffset := 16 }], 3, 40, .agg #[.int .i64 0, .int .i64 0, .slice none 0 0], peOf Tryd.prog 26⟩ := by kernel_rfl
@[simp] theorem ty27 : tyOf Tryd.prog 27 = some ⟨.struct #[{ name := "Sections", type := 3, offset := 0, embedded := false, tag := "", pkgPath := "", byteOffset := 0 }, { name := "Points", type := 3, offset := 1, embedded := false, tag := "", pkgPath := "", byteOffset := 8 }, { name := "Routes", type := 25, offset := 2, embedded := false, tag := "", pkgPath := "", byteOffset := 16 }], 3, 40, .agg #[.int .i64 0, .int .i64 0, .slice none 0 0], peOf Tryd.prog 27⟩ := by kernel_rfl
@[simp] theorem ty28 : tyOf Tryd.prog 28 = some ⟨.tuple #[27, 4], 1, 0, .tuple #[.agg #[.int .i64 0, .int .i64 0, .slice none 0 0], .bool false], peOf Tryd.prog 28⟩ := by kernel_rfl
@[simp] theorem ty29 : tyOf Tryd.prog 29 = some ⟨.func #[24] #[27, 4] false, 1, 8, .nilFunc, peOf Tryd.prog 29⟩ := by kernel_rfl
@[simp] theorem ty30 : tyOf Tryd.prog 30 = some ⟨.int .i64, 1, 8, .int .i64 0, peOf Tryd.prog 30⟩ := by kernel_rfl
@[simp] theorem ty31 : tyOf Tryd.prog 31 = some ⟨.struct #[{ name := "Err", type := 30, offset := 0, embedded := false, tag := "", pkgPath := "", byteOffset := 0 }, { name := "Place", type := 3, offset := 1, embedded := false, tag := "", pkgPath := "", byteOffset := 8 }], 2, 16, .agg #[.int .i64 0, .int .i64 0], peOf Tryd.prog 31⟩ := by kernel_rfl
@[simp] theorem ty32 : tyOf Tryd.prog 32 = some ⟨.struct #[{ name := "Err", type := 30, offset := 0, embedded := false, tag := "", pkgPath := "", byteOffset := 0 }, { name := "Place", type := 3, offset := 1, embedded := false, tag := "", pkgPath := "", byteOffset := 8 }], 2, 16, .agg #[.int .i64 0, .int .i64 0], true⟩ := by kernel_rfl
@[simp] theorem ty33 : tyOf Tryd.prog 33 = some ⟨.func #[27] #[32] false, 1, 8, .nilFunc, peOf Tryd.prog 33⟩ := by kernel_rfl
@[simp] theorem ty34 : tyOf Tryd.prog 34 = some ⟨.func #[36, 32] #[4] false, 1, 8, .nilFunc, peOf Tryd.prog 34⟩ := by kernel_rfl
@[simp] theorem ty35 : tyOf Tryd.prog 35 = some ⟨.interface #[("Error", 74)], 1, 16, .nilIface, peOf Tryd.prog 35⟩ := by kernel_rfl
@[simp] theorem ty36 : tyOf Tryd.prog 36 = some ⟨.interface #[("Error", 74)], 1, 16, .nilIface, peOf Tryd.prog 36⟩ := by kernel_rfl
@[simp] theorem ty37 : tyOf Tryd.prog 37 = some ⟨.func #[24] #[36] false, 1, 8, .nilFunc, peOf Tryd.prog 37⟩ := by kernel_rfl
@[simp] theorem ty38 : tyOf Tryd.prog 38 = some ⟨.func #[42, 42] #[4] false, 1, 8, .nilFunc, peOf Tryd.prog 38⟩ := by kernel_rfl
@[simp] theorem ty39 : tyOf Tryd.prog 39 = some ⟨.slice 3, 1, 24, .slice none 0 0, peOf Tryd.prog 39⟩ := by kernel_rfl
@[simp] theorem ty40 : tyOf Tryd.prog 40 = some ⟨.slice 50, 1, 24, .slice none 0 0, peOf Tryd.prog 40⟩ := by kernel_rfl
@[simp] theorem ty41 : tyOf Tryd.prog 41 = some ⟨.struct #[{ name := "Sections", type := 39, offset := 0, embedded := false, tag := "", pkgPath := "", byteOffset := 0 }, { name := "Points", type := 40, offset := 1, embedded := false, tag := "", pkgPath := "", byteOffset := 24 }], 2, 48, .agg #[.slice none 0 0, .slice none 0 0], peOf Tryd.prog 41⟩ := by kernel_rfl
@[simp] theorem ty42 : tyOf Tryd.prog 42 = some ⟨.struct #[{ name := "Sections", type := 39, offset := 0, embedded := false, tag := "", pkgPath := "", byteOffset := 0 }, { name := "Points", type := 40, offset := 1, embedded := false, tag := "", pkgPath := "", byteOffset := 24 }], 2, 48, .agg #[.slice none 0 0, .slice none 0 0], peOf Tryd.prog 42⟩ := by kernel_rfl
@[simp] theorem ty43 : tyOf Tryd.prog 43 = some ⟨.func #[45, 45] #[4] false, 1, 8, .nilFunc, peOf Tryd.prog 43⟩ := by kernel_rfl
@[simp] theorem ty44 : tyOf Tryd.prog 44 = some ⟨.struct #[{ name := "Sections", type := 39, offset := 0, embedded := false, tag := "", pkgPath := "", byteOffset := 0 }, { name := "Points", type := 39, offset := 1, embedded := false, tag := "", pkgPath := "", byteOffset := 24 }], 2, 48, .agg #[.slice none 0 0, .slice none 0 0], peOf Tryd.prog 44⟩ := by kernel_rfl
@[simp] theorem ty45 : tyOf Tryd.prog 45 = some ⟨.struct #[{ name := "Sections", type := 39, offset := 0, embedded := false, tag := "", pkgPath := "", byteOffset := 0 }, { name := "Points", type := 39, offset := 1, embedded := false, tag := "", pkgPath := "", byteOffset := 24 }], 2, 48, .agg #[.slice none 0 0, .slice none 0 0], peOf Tryd.prog 45⟩ := by kernel_rfl
@[simp] theorem ty46 : tyOf Tryd.prog 46 = some ⟨.func #[24] #[9] false, 1, 8, .nilFunc, peOf Tryd.prog 46⟩ := by kernel_rfl
@[simp] theorem ty47 : tyOf Tryd.prog 47 = some ⟨.func #[27] #[9] false, 1, 8, .nilFunc, peOf Tryd.prog 47⟩ := by kernel_rfl
@[simp] theorem ty48 : tyOf Tryd.prog 48 = some ⟨.func #[24] #[4] false, 1, 8, .nilFunc, peOf Tryd.prog 48⟩ := by kernel_rfl
@[simp] theorem ty49 : tyOf Tryd.prog 49 = some ⟨.struct #[{ name := "Number", type := 3, offset := 0, embedded := false, tag := "", pkgPath := "", byteOffset := 0 }, { name := "Over", type := 4, offset := 1, embedded := false, tag := "", pkgPath := "", byteOffset := 8 }], 2, 16, .agg #[.int .i64 0, .bool false], peOf Tryd.prog 49⟩ := by kernel_rfl
@[simp] theorem ty50 : tyOf Tryd.prog 50 = some ⟨.struct #[{ name := "Number", type := 3, offset := 0, embedded := false, tag := "", pkgPath := "", byteOffset := 0 }, { name := "Over", type := 4, offset := 1, embedded := false, tag := "", pkgPath := "", byteOffset := 8 }], 2, 16, .agg #[.int .i64 0, .bool false], true⟩ := by kernel_rfl
@[simp] theorem ty51 : tyOf Tryd.prog 51 = some ⟨.func #[3, 3, 3] #[4] false, 1, 8, .nilFunc, peOf Tryd.prog 51⟩ := by kernel_rfl
@[simp] theorem ty52 : tyOf Tryd.prog 52 = some ⟨.func #[30] #[32] false, 1, 8, .nilFunc, peOf Tryd.prog 52⟩ := by kernel_rfl
@[simp] theorem ty53 : tyOf Tryd.prog 53 = some ⟨.func #[3] #[3] false, 1, 8, .nilFunc, peOf Tryd.prog 53⟩ := by kernel_rfl
@[simp] theorem ty54 : tyOf Tryd.prog 54 = some ⟨.tuple #[30, 3], 1, 0, .tuple #[.int .i64 0, .int .i64 0], peOf Tryd.prog 54⟩ := by kernel_rfl
@[simp] theorem ty55 : tyOf Tryd.prog 55 = some ⟨.func #[36] #[30, 3] false, 1, 8, .nilFunc, peOf Tryd.prog 55⟩ := by kernel_rfl
@[simp] theorem ty56 : tyOf Tryd.prog 56 = some ⟨.func #[39, 57] #[4] false, 1, 8, .nilFunc, peOf Tryd.prog 56⟩ := by kernel_rfl
@[simp] theorem ty57 : tyOf Tryd.prog 57 = some ⟨.func #[3] #[4] false, 1, 8, .nilFunc, peOf Tryd.prog 57⟩ := by kernel_rfl
@[simp] theorem ty58 : tyOf Tryd.prog 58 = some ⟨.func #[40, 59] #[4] false, 1, 8, .nilFunc, peOf Tryd.prog 58⟩ := by kernel_rfl
@[simp] theorem ty59 : tyOf Tryd.prog 59 = some ⟨.func #[50] #[4] false, 1, 8, .nilFunc, peOf Tryd.prog 59⟩ := by kernel_rfl
@[simp] theorem ty60 : tyOf Tryd.prog 60 = some ⟨.func #[42] #[4] false, 1, 8, .nilFunc, peOf Tryd.prog 60⟩ := by kernel_rfl
@[simp] theorem ty61 : tyOf Tryd.prog 61 = some ⟨.pointer 62, 1, 8, .pointer none, peOf Tryd.prog 61⟩ := by kernel_rfl
@[simp] theorem ty62 : tyOf Tryd.prog 62 = some ⟨.struct #[{ name := "Err", type := 30, offset := 0, embedded := false, tag := "", pkgPath := "", byteOffset := 0 }, { name := "Place", type := 3, offset := 1, embedded := false, tag := "", pkgPath := "", byteOffset := 8 }], 2, 16, .agg #[.int .i64 0, .int .i64 0], true⟩ := by kernel_rfl
@[simp] theorem ty63 : tyOf Tryd.prog 63 = some ⟨.func #[39, 3] #[4] false, 1, 8, .nilFunc, peOf Tryd.prog 63⟩ := by kernel_rfl
@[simp] theorem ty64 : tyOf Tryd.prog 64 = some ⟨.func #[40, 50] #[4] false, 1, 8, .nilFunc, peOf Tryd.prog 64⟩ := by kernel_rfl
@[simp] theorem ty65 : tyOf Tryd.prog 65 = some ⟨.pointer 68, 1, 8, .pointer none, peOf Tryd.prog 65⟩ := by kernel_rfl
@[simp] theorem ty66 : tyOf Tryd.prog 66 = some ⟨.slice 5, 1, 24, .slice none 0 0, peOf Tryd.prog 66⟩ := by kernel_rfl
@[simp] theorem ty67 : tyOf Tryd.prog 67 = some ⟨.struct #[{ name := "addr", type := 65, offset := 0, embedded := false, tag := "", pkgPath := "strings", byteOffset := 0 }, { name := "buf", type := 66, offset := 1, embedded := false, tag := "", pkgPath := "strings", byteOffset := 8 }], 2, 32, .agg #[.pointer none, .slice none 0 0], peOf Tryd.prog 67⟩ := by kernel_rfl
@[simp] theorem ty68 : tyOf Tryd.prog 68 = some ⟨.struct #[{ name := "addr", type := 65, offset := 0, embedded := false, tag := "", pkgPath := "strings", byteOffset := 0 }, { name := "buf", type := 66, offset := 1, embedded := false, tag := "", pkgPath := "strings", byteOffset := 8 }], 2, 32, .agg #[.pointer none, .slice none 0 0], peOf Tryd.prog 68⟩ := by kernel_rfl
@[simp] theorem ty69 : tyOf Tryd.prog 69 = some ⟨.tuple #[3, 36], 1, 0, .tuple #[.int .i64 0, .nilIface], peOf Tryd.prog 69⟩ := by kernel_rfl
@[simp] theorem ty70 : tyOf Tryd.prog 70 = some ⟨.func #[9] #[3, 36] false, 1, 8, .nilFunc, peOf Tryd.prog 70⟩ := by kernel_rfl
@[simp] theorem ty71 : tyOf Tryd.prog 71 = some ⟨.func #[3] #[9] false, 1, 8, .nilFunc, peOf Tryd.prog 71⟩ := by kernel_rfl
@[simp] theorem ty72 : tyOf Tryd.prog 72 = some ⟨.map 4 9, 1, 8, .map none, peOf Tryd.prog 72⟩ := by kernel_rfl
@[simp] theorem ty73 : tyOf Tryd.prog 73 = some ⟨.func #[5] #[36] false, 1, 8, .nilFunc, peOf Tryd.prog 73⟩ := by kernel_rfl
@[simp] theorem ty74 : tyOf Tryd.prog 74 = some ⟨.func #[] #[9] false, 1, 8, .nilFunc, peOf Tryd.prog 74⟩ := by kernel_rfl
@[simp] theorem ty75 : tyOf Tryd.prog 75 = some ⟨.func #[39] #[9] true, 1, 8, .nilFunc, peOf Tryd.prog 75⟩ := by kernel_rfl
@[simp] theorem ty76 : tyOf Tryd.prog 76 = some ⟨.func #[36] #[30] false, 1, 8, .nilFunc, peOf Tryd.prog 76⟩ := by kernel_rfl
@[simp] theorem ty77 : tyOf Tryd.prog 77 = some ⟨.tuple #[61, 4], 1, 0, .tuple #[.pointer none, .bool false], peOf Tryd.prog 77⟩ := by kernel_rfl
@[simp] theorem ty78 : tyOf Tryd.prog 78 = some ⟨.interface #[("Unwrap", 80)], 1, 16, .nilIface, peOf Tryd.prog 78⟩ := by kernel_rfl
@[simp] theorem ty79 : tyOf Tryd.prog 79 = some ⟨.tuple #[78, 4], 1, 0, .tuple #[.nilIface, .bool false], peOf Tryd.prog 79⟩ := by kernel_rfl
@[simp] theorem ty80 : tyOf Tryd.prog 80 = some ⟨.func #[] #[36] false, 1, 8, .nilFunc, peOf Tryd.prog 80⟩ := by kernel_rfl
@[simp] theorem ty81 : tyOf Tryd.prog 81 = some ⟨.func #[39, 57] #[3] false, 1, 8, .nilFunc, peOf Tryd.prog 81⟩ := by kernel_rfl
@[simp] theorem ty82 : tyOf Tryd.prog 82 = some ⟨.func #[40, 59] #[3] false, 1, 8, .nilFunc, peOf Tryd.prog 82⟩ := by kernel_rfl
@[simp] theorem ty83 : tyOf Tryd.prog 83 = some ⟨.func #[39, 3] #[3] false, 1, 8, .nilFunc, peOf Tryd.prog 83⟩ := by kernel_rfl
@[simp] theorem ty84 : tyOf Tryd.prog 84 = some ⟨.func #[40, 50] #[3] false, 1, 8, .nilFunc, peOf Tryd.prog 84⟩ := by kernel_rfl
@[simp] theorem ty85 : tyOf Tryd.prog 85 = some ⟨.pointer 5, 1, 8, .pointer none, peOf Tryd.prog 85⟩ := by kernel_rfl
@[simp] theorem ty86 : tyOf Tryd.prog 86 = some ⟨.slice 9, 1, 24, .slice none 0 0, peOf Tryd.prog 86⟩ := by kernel_rfl
@[simp] theorem ty87 : tyOf Tryd.prog 87 = some ⟨.func #[86, 9] #[9] false, 1, 8, .nilFunc, peOf Tryd.prog 87⟩ := by kernel_rfl
@[simp] theorem ty88 : tyOf Tryd.prog 88 = some ⟨.func #[36, 20] #[4] false, 1, 8, .nilFunc, peOf Tryd.prog 88⟩ := by kernel_rfl
@[simp] theorem ty89 : tyOf Tryd.prog 89 = some ⟨.pointer 30, 1, 8, .pointer none, peOf Tryd.prog 89⟩ := by kernel_rfl
@[simp] theorem ty91 : tyOf Tryd.prog 91 = some ⟨.func #[90] #[90] false, 1, 8, .nilFunc, peOf Tryd.prog 91⟩ := by kernel_rfl
@[simp] theorem ty92 : tyOf Tryd.prog 92 = some ⟨.func #[2, 3] #[9] false, 1, 8, .nilFunc, peOf Tryd.prog 92⟩ := by kernel_rfl
@[simp] theorem ty93 : tyOf Tryd.prog 93 = some ⟨.func #[3] #[] false, 1, 8, .nilFunc, peOf Tryd.prog 93⟩ := by kernel_rfl
@[simp] theorem ty95 : tyOf Tryd.prog 95 = some ⟨.struct #[{ name := "typ_", type := 17, offset := 0, embedded := false, tag := "", pkgPath := "internal/reflectlite", byteOffset := 0 }, { name := "ptr", type := 90, offset := 1, embedded := false, tag := "", pkgPath := "internal/reflectlite", byteOffset := 8 }, { name := "flag", type := 94, offset := 2, embedded := true, tag := "", pkgPath := "internal/reflectlite", byteOffset := 16 }], 3, 24, .agg #[.pointer none, .pointer none, .int .u64 0], peOf Tryd.prog 95⟩ := by kernel_rfl
@[simp] theorem ty97 : tyOf Tryd.prog 97 = some ⟨.func #[20] #[96] false, 1, 8, .nilFunc, peOf Tryd.prog 97⟩ := by kernel_rfl
@[simp] theorem ty98 : tyOf Tryd.prog 98 = some ⟨.interface #[("AssignableTo", 104), ("Comparable", 103), ("Elem", 100), ("Implements", 104), ("Kind", 102), ("Name", 74), ("PkgPath", 74), ("Size", 147), ("String", 74), ("internal/reflectlite.common", 140), ("internal/reflectlite.uncommon", 148)], 1, 16, .nilIface, peOf Tryd.prog 98⟩ := by kernel_rfl
@[simp] theorem ty100 : tyOf Tryd.prog 100 = some ⟨.func #[] #[99] false, 1, 8, .nilFunc, peOf Tryd.prog 100⟩ := by kernel_rfl
@[simp] theorem ty102 : tyOf Tryd.prog 102 = some ⟨.func #[] #[101] false, 1, 8, .nilFunc, peOf Tryd.prog 102⟩ := by kernel_rfl
@[simp] theorem ty103 : tyOf Tryd.prog 103 = some ⟨.func #[] #[4] false, 1, 8, .nilFunc, peOf Tryd.prog 103⟩ := by kernel_rfl
@[simp] theorem ty104 : tyOf Tryd.prog 104 = some ⟨.func #[99] #[4] false, 1, 8, .nilFunc, peOf Tryd.prog 104⟩ := by kernel_rfl
@[simp] theorem ty105 : tyOf Tryd.prog 105 = some ⟨.func #[36, 20, 96, 99] #[4] false, 1, 8, .nilFunc, peOf Tryd.prog 105⟩ := by kernel_rfl
@[simp] theorem ty106 : tyOf Tryd.prog 106 = some ⟨.array 24 5, 24, 24, .agg #[.int .u8 0, .int .u8 0, .int .u8 0, .int .u8 0, .int .u8 0, .int .u8 0, .int .u8 0, .int .u8 0, .int .u8 0, .int .u8 0, .int .u8 0, .int .u8 0, .int .u8 0, .int .u8 0, .int .u8 0, .int .u8 0, .int .u8 0, .int .u8 0, .int .u8 0, .int .u8 0, .int .u8 0, .int .u8 0, .int .u8 0, .int .u8 0], peOf Tryd.prog 106⟩ := by kernel_rfl
@[simp] theorem ty107 : tyOf Tryd.prog 107 = some ⟨.int .u64, 1, 8, .int .u64 0, peOf Tryd.prog 107⟩ := by kernel_rfl
@[simp] theorem ty108 : tyOf Tryd.prog 108 = some ⟨.func #[107] #[3] false, 1, 8, .nilFunc, peOf Tryd.prog 108⟩ := by kernel_rfl
@[simp] theorem ty109 : tyOf Tryd.prog 109 = some ⟨.func #[66, 107] #[] false, 1, 8, .nilFunc, peOf Tryd.prog 109⟩ := by kernel_rfl
@[simp] theorem ty110 : tyOf Tryd.prog 110 = some ⟨.tuple #[66, 9], 1, 0, .tuple #[.slice none 0 0, .string ⟨#[]⟩], peOf Tryd.prog 110⟩ := by kernel_rfl
@[simp] theorem ty111 : tyOf Tryd.prog 111 = some ⟨.func #[66, 107, 3, 4, 4] #[66, 9] false, 1, 8, .nilFunc, peOf Tryd.prog 111⟩ := by kernel_rfl
@[simp] theorem ty112 : tyOf Tryd.prog 112 = some ⟨.struct #[{ name := "Type", type := 17, offset := 0, embedded := true, tag := "", pkgPath := "", byteOffset := 0 }], 1, 8, .agg #[.pointer none], peOf Tryd.prog 112⟩ := by kernel_rfl
@[simp] theorem ty114 : tyOf Tryd.prog 114 = some ⟨.pointer 150, 1, 8, .pointer none, peOf Tryd.prog 114⟩ := by kernel_rfl
@[simp] theorem ty115 : tyOf Tryd.prog 115 = some ⟨.func #[20] #[99] false, 1, 8, .nilFunc, peOf Tryd.prog 115⟩ := by kernel_rfl
@[simp] theorem ty116 : tyOf Tryd.prog 116 = some ⟨.func #[] #[96] false, 1, 8, .nilFunc, peOf Tryd.prog 116⟩ := by kernel_rfl
@[simp] theorem ty117 : tyOf Tryd.prog 117 = some ⟨.func #[96] #[] false, 1, 8, .nilFunc, peOf Tryd.prog 117⟩ := by kernel_rfl
@[simp] theorem ty118 : tyOf Tryd.prog 118 = some ⟨.interface #[("As", 120)], 1, 16, .nilIface, peOf Tryd.prog 118⟩ := by kernel_rfl
@[simp] theorem ty119 : tyOf Tryd.prog 119 = some ⟨.tuple #[118, 4], 1, 0, .tuple #[.nilIface, .bool false], peOf Tryd.prog 119⟩ := by kernel_rfl
@[simp] theorem ty120 : tyOf Tryd.prog 120 = some ⟨.func #[20] #[4] false, 1, 8, .nilFunc, peOf Tryd.prog 120⟩ := by kernel_rfl
@[simp] theorem ty121 : tyOf Tryd.prog 121 = some ⟨.interface #[("Unwrap", 123)], 1, 16, .nilIface, peOf Tryd.prog 121⟩ := by kernel_rfl
@[simp] theorem ty122 : tyOf Tryd.prog 122 = some ⟨.slice 36, 1, 24, .slice none 0 0, peOf Tryd.prog 122⟩ := by kernel_rfl
@[simp] theorem ty123 : tyOf Tryd.prog 123 = some ⟨.func #[] #[122] false, 1, 8, .nilFunc, peOf Tryd.prog 123⟩ := by kernel_rfl
@[simp] theorem ty124 : tyOf Tryd.prog 124 = some ⟨.func #[4] #[3] false, 1, 8, .nilFunc, peOf Tryd.prog 124⟩ := by kernel_rfl
@[simp] theorem ty125 : tyOf Tryd.prog 125 = some ⟨.array 20 107, 20, 160, .agg #[.int .u64 0, .int .u64 0, .int .u64 0, .int .u64 0, .int .u64 0, .int .u64 0, .int .u64 0, .int .u64 0, .int .u64 0, .int .u64 0, .int .u64 0, .int .u64 0, .int .u64 0, .int .u64 0, .int .u64 0, .int .u64 0, .int .u64 0, .int .u64 0, .int .u64 0, .int .u64 0], peOf Tryd.prog 125⟩ := by kernel_rfl
@[simp] theorem ty126 : tyOf Tryd.prog 126 = some ⟨.int .u32, 1, 4, .int .u32 0, peOf Tryd.prog 126⟩ := by kernel_rfl
@[simp] theorem ty128 : tyOf Tryd.prog 128 = some ⟨.int .u64, 1, 8, .int .u64 0, peOf Tryd.prog 128⟩ := by kernel_rfl
@[simp] theorem ty129 : tyOf Tryd.prog 129 = some ⟨.func #[128] #[3] false, 1, 8, .nilFunc, peOf Tryd.prog 129⟩ := by kernel_rfl
@[simp] theorem ty130 : tyOf Tryd.prog 130 = some ⟨.func #[3] #[66] false, 1, 8, .nilFunc, peOf Tryd.prog 130⟩ := by kernel_rfl
@[simp] theorem ty131 : tyOf Tryd.prog 131 = some ⟨.func #[126] #[3] false, 1, 8, .nilFunc, peOf Tryd.prog 131⟩ := by kernel_rfl
@[simp] theorem ty132 : tyOf Tryd.prog 132 = some ⟨.array 32 5, 32, 32, .agg #[.int .u8 0, .int .u8 0, .int .u8 0, .int .u8 0, .int .u8 0, .int .u8 0, .int .u8 0, .int .u8 0, .int .u8 0, .int .u8 0, .int .u8 0, .int .u8 0, .int .u8 0, .int .u8 0, .int .u8 0, .int .u8 0, .int .u8 0, .int .u8 0, .int .u8 0, .int .u8 0, .int .u8 0, .int .u8 0, .int .u8 0, .int .u8 0, .int .u8 0, .int .u8 0, .int .u8 0, .int .u8 0, .int .u8 0, .int .u8 0, .int .u8 0, .int .u8 0], peOf Tryd.prog 132⟩ := by kernel_rfl
@[simp] theorem ty134 : tyOf Tryd.prog 134 = some ⟨.struct #[{ name := "_interface", type := 17, offset := 0, embedded := false, tag := "", pkgPath := "runtime", byteOffset := 0 }, { name := "concrete", type := 17, offset := 1, embedded := false, tag := "", pkgPath := "runtime", byteOffset := 8 }, { name := "asserted", type := 17, offset := 2, embedded := false, tag := "", pkgPath := "runtime", byteOffset := 16 }, { name := "missingMethod", type := 9, offset := 3, embedded := false, tag := "", pkgPath := "runtime", byteOffset := 24 }], 4, 40, .agg #[.pointer none, .pointer none, .pointer none, .string ⟨#[]⟩], peOf Tryd.prog 134⟩ := by kernel_rfl
@[simp] theorem ty136 : tyOf Tryd.prog 136 = some ⟨.array 0 16, 0, 0, .agg #[], peOf Tryd.prog 136⟩ := by kernel_rfl
@[simp] theorem ty137 : tyOf Tryd.prog 137 = some ⟨.struct #[{ name := "_", type := 136, offset := 0, embedded := false, tag := "", pkgPath := "runtime", byteOffset := 0 }], 0, 0, .agg #[], peOf Tryd.prog 137⟩ := by kernel_rfl
@[simp] theorem ty139 : tyOf Tryd.prog 139 = some ⟨.func #[] #[3] false, 1, 8, .nilFunc, peOf Tryd.prog 139⟩ := by kernel_rfl
@[simp] theorem ty140 : tyOf Tryd.prog 140 = some ⟨.func #[] #[17] false, 1, 8, .nilFunc, peOf Tryd.prog 140⟩ := by kernel_rfl
@[simp] theorem ty142 : tyOf Tryd.prog 142 = some ⟨.func #[90, 90] #[4] false, 1, 8, .nilFunc, peOf Tryd.prog 142⟩ := by kernel_rfl
@[simp] theorem ty145 : tyOf Tryd.prog 145 = some ⟨.struct #[{ name := "Size_", type := 12, offset := 0, embedded := false, tag := "", pkgPath := "", byteOffset := 0 }, { name := "PtrBytes", type := 12, offset := 1, embedded := false, tag := "", pkgPath := "", byteOffset := 8 }, { name := "Hash", type := 126, offset := 2, embedded := false, tag := "", pkgPath := "", byteOffset := 16 }, { name := "TFlag", type := 141, offset := 3, embedded := false, tag := "", pkgPath := "", byteOffset := 20 }, { name := "Align_", type := 5, offset := 4, embedded := false, tag := "", pkgPath := "", byteOffset := 21 }, { name := "FieldAlign_", type := 5, offset := 5, embedded := false, tag := "", pkgPath := "", byteOffset := 22 }, { name := "Kind_", type := 101, offset := 6, embedded := false, tag := "", pkgPath := "", byteOffset := 23 }, { name := "Equal", type := 142, offset := 7, embedded := false, tag := "", pkgPath := "", byteOffset := 24 }, { name := "GCData", type := 85, offset := 8, embedded := false, tag := "", pkgPath := "", byteOffset := 32 }, { name := "Str", type := 143, offset := 9, embedded := false, tag := "", pkgPath := "", byteOffset := 40 }, { name := "PtrToThis", type := 144, offset := 10, embedded := false, tag := "", pkgPath := "", byteOffset := 44 }], 11, 48, .agg #[.int .u64 0, .int .u64 0, .int .u32 0, .int .u8 0, .int .u8 0, .int .u8 0, .int .u8 0, .nilFunc, .pointer none, .int .i32 0, .int .i32 0], peOf Tryd.prog 145⟩ := by kernel_rfl
@[simp] theorem ty147 : tyOf Tryd.prog 147 = some ⟨.func #[] #[12] false, 1, 8, .nilFunc, peOf Tryd.prog 147⟩ := by kernel_rfl
@[simp] theorem ty148 : tyOf Tryd.prog 148 = some ⟨.func #[] #[151] false, 1, 8, .nilFunc, peOf Tryd.prog 148⟩ := by kernel_rfl
@[simp] theorem ty149 : tyOf Tryd.prog 149 = some ⟨.struct #[{ name := "Method", type := 9, offset := 0, embedded := false, tag := "", pkgPath := "", byteOffset := 0 }, { name := "Kind", type := 101, offset := 1, embedded := false, tag := "", pkgPath := "", byteOffset := 16 }], 2, 24, .agg #[.string ⟨#[]⟩, .int .u8 0], peOf Tryd.prog 149⟩ := by kernel_rfl
@[simp] theorem ty151 : tyOf Tryd.prog 151 = some ⟨.pointer 155, 1, 8, .pointer none, peOf Tryd.prog 151⟩ := by kernel_rfl
@[simp] theorem ty152 : tyOf Tryd.prog 152 = some ⟨.func #[] #[156] false, 1, 8, .nilFunc, peOf Tryd.prog 152⟩ := by kernel_rfl
@[simp] theorem ty153 : tyOf Tryd.prog 153 = some ⟨.int .u16, 1, 2, .int .u16 0, peOf Tryd.prog 153⟩ := by kernel_rfl
@[simp] theorem ty154 : tyOf Tryd.prog 154 = some ⟨.struct #[{ name := "PkgPath", type := 143, offset := 0, embedded := false, tag := "", pkgPath := "", byteOffset := 0 }, { name := "Mcount", type := 153, offset := 1, embedded := false, tag := "", pkgPath := "", byteOffset := 4 }, { name := "Xcount", type := 153, offset := 2, embedded := false, tag := "", pkgPath := "", byteOffset := 6 }, { name := "Moff", type := 126, offset := 3, embedded := false, tag := "", pkgPath := "", byteOffset := 8 }, { name := "_", type := 126, offset := 4, embedded := false, tag := "", pkgPath := "internal/abi", byteOffset := 12 }], 5, 16, .agg #[.int .i32 0, .int .u16 0, .int .u16 0, .int .u32 0, .int .u32 0], peOf Tryd.prog 154⟩ := by kernel_rfl
@[simp] theorem ty156 : tyOf Tryd.prog 156 = some ⟨.slice 159, 1, 24, .slice none 0 0, peOf Tryd.prog 156⟩ := by kernel_rfl
@[simp] theorem ty158 : tyOf Tryd.prog 158 = some ⟨.struct #[{ name := "Name", type := 143, offset := 0, embedded := false, tag := "", pkgPath := "", byteOffset := 0 }, { name := "Mtyp", type := 144, offset := 1, embedded := false, tag := "", pkgPath := "", byteOffset := 4 }, { name := "Ifn", type := 157, offset := 2, embedded := false, tag := "", pkgPath := "", byteOffset := 8 }, { name := "Tfn", type := 157, offset := 3, embedded := false, tag := "", pkgPath := "", byteOffset := 12 }], 4, 16, .agg #[.int .i32 0, .int .i32 0, .int .i32 0, .int .i32 0], peOf Tryd.prog 158⟩ := by kernel_rfl
@[simp] theorem ty160 : tyOf Tryd.prog 160 = some ⟨.pointer 36, 1, 8, .pointer none, peOf Tryd.prog 160⟩ := by kernel_rfl
end Go.Proofs.YtnlhioeefmhklaaDoor

/-
  Lists of numbers that are told apart.
-/
namespace Go.Proofs.YtnlhioeefmhklaaDoor
set_option linter.unusedSimpArgs false
set_option linter.unusedVariables false
open Go.Av

def dInts (k : Option Bool) (l : List Int) : D := .sl k (l.map fun n => [.v (.int .i64 n)])

end Go.Proofs.YtnlhioeefmhklaaDoor

/-
  Searching by a function.
-/
namespace Go.Proofs.YtnlhioeefmhklaaDoor
set_option linter.unusedSimpArgs false
set_option linter.unusedVariables false
open Go.Av

/-- Where the first one is that fits, or -1. -/
def idx {α : Type} (p : α → Bool) (l : List α) : Int := match l.findIdx? p with
  | some i => i
  | none => -1

theorem idx_hit {α : Type} {p : α → Bool} {l : List α} {n : Nat} (hn : n < l.length) (h : p l[n] = true) (hb : ∀ i (hi : i < n), p (l[i]'(by omega)) = false) : idx p l = n := by
  unfold idx
  have : l.findIdx? p = some n := by
    rw [List.findIdx?_eq_some_iff_getElem]
    exact ⟨hn, h, fun j hj => by simpa using hb j hj⟩
  rw [this]
theorem idx_miss {α : Type} {p : α → Bool} {l : List α} (hb : ∀ i (hi : i < l.length), p l[i] = false) : idx p l = -1 := by
  unfold idx
  have : l.findIdx? p = none := by
    rw [List.findIdx?_eq_none_iff]
    intro x hx
    obtain ⟨i, hi, rfl⟩ := List.mem_iff_getElem.1 hx
    exact hb i hi
  rw [this]

/-- A function that answers as p does, of some data. -/
def Answers {α : Type} (G : Glob) (g : FuncId) (caps : List D) (enc : α → D) (p : α → Bool) (xs : List α) : Prop := ∀ x ∈ xs, PureC Tryd.prog G g (enc x :: caps) (.v (.bool (p x)))

set_option maxHeartbeats 1000000 in
theorem indexInt_spec {α : Type} (G : Glob) (k : Option Bool) (enc : α → D) (xs : List α) (g : FuncId) (caps : List D) (p : α → Bool) (hl : xs.length < 2^63) (ha : Answers G g caps enc p xs) :
    PureC Tryd.prog G 31 [.sl k (xs.map fun x => [enc x]), .fn (.func g) caps] (.v (.int .i64 (idx p xs))) := by
  refine PureC.of_body (tyOf_good _) Tryd.func31 rfl rfl (rs := [.tmp 4]) Tryd.results31 (by simp [Tryd.ntmps31]) fun X => ?_
  simp only [Tryd.ntmps31, List.map]
  refine AW_rg (tyOf_good _) [0, 1] [] (fun _ _ => trivial) fun K' hK' => ?_
  repeat (refine sxf_next fun K2 hK2 => ?_; simp; (repeat (refine ⟨by omega, ?_⟩)); refine hK2 _ ?_; clear hK2 K2)
  refine sxf_nil (hK' _ ?_)
  refine AW.st (by simp; rfl) ?_
  clear hK' K'
  refine AW_then fun K1 hK1 => ?_
  refine AW_rg (tyOf_good _) [0, 1, 7, 8] [] (fun _ _ => trivial) fun K' hK' => ?_
  repeat (refine sxf_next fun K2 hK2 => ?_; simp; (repeat (refine ⟨by omega, ?_⟩)); refine hK2 _ ?_; clear hK2 K2)
  refine sxf_nil (hK' _ ?_)
  refine AW.st (by simp; rfl) ?_
  clear hK' K'
  refine AW_for (S := Nat) (fun n => n ≤ xs.length ∧ ∀ i (hi : i < xs.length), i < n → p xs[i] = false) (fun n => ⟨lst [(0, .d (.sl k (xs.map fun x => [enc x]))), (1, .d (.fn (.func g) caps)), (7, int xs.length), (8, int n)], hlst []⟩) (fun n => xs.length - n) 0 ?_ (by simp) ?_
  · refine Imp.to' (fun _ _ => trivial) (by simp) (by simp)
  · rintro n ⟨hn, hp⟩
    refine AW_rg (tyOf_good _) [0, 1, 7, 8, 9] [] (fun _ _ => trivial) fun K' hK' => ?_
    repeat (refine sxf_next fun K2 hK2 => ?_; simp; (repeat (refine ⟨by omega, ?_⟩)); refine hK2 _ ?_; clear hK2 K2)
    refine sxf_nil (hK' _ ?_)
    refine AW.st (by simp; rfl) ?_
    clear hK' K'
    refine AW_then fun K2 hK2 => ?_
    refine AW_cond' (b := n < xs.length) (by simp [D.le, D.le.go, takeMap]) (fun hc => ?_) (fun hc => ?_)
    · refine AW_skip (hK2 _ ?_)
      refine AW_then fun K3 hK3 => ?_
      refine AW_block ?_
      refine AW_rg (tyOf_good _) [0, 1, 5, 7, 8] [] (fun _ _ => trivial) fun K' hK' => ?_
      repeat (refine sxf_next fun K2 hK2 => ?_; simp; (repeat (refine ⟨by omega, ?_⟩)); refine hK2 _ ?_; clear hK2 K2)
      refine sxf_nil (hK' _ ?_)
      refine AW.st (by simp; rfl) ?_
      clear hK' K'
      refine AW_rg (tyOf_good _) [0, 1, 5, 7, 8, 16] [] (fun _ _ => trivial) fun K' hK' => ?_
      repeat (refine sxf_next fun K2 hK2 => ?_; simp [hc]; (repeat (refine ⟨by omega, ?_⟩)); refine hK2 _ ?_; clear hK2 K2)
      refine sxf_next fun K2 hK2 => ?_
      simp [hc]
      refine callK.data (ha xs[n] (by simp)) (by simp; rfl) (by first | exact D.leGo_refl _ | simp [takeMap, List.map_map, Function.comp_def, D.le, D.le.go, D.le_refl, D.leGo_refl, hc]) ?_
      refine hK2 _ ?_
      clear hK2 K2
      simp only [putd, upd_lst]
      repeat (refine sxf_next fun K2 hK2 => ?_; simp [hc]; (repeat (refine ⟨by omega, ?_⟩)); refine hK2 _ ?_; clear hK2 K2)
      refine sxf_nil (hK' _ ?_)
      refine AW.st (by simp [hc]; rfl) ?_
      clear hK' K'
      refine AW_cond _ rfl (fun hp2 => ?_) (fun hp2 => ?_)
      · refine AW_rg (tyOf_good _) [4] [] (fun _ _ => trivial) fun K' hK' => ?_
        repeat (refine sxf_next fun K2 hK2 => ?_; simp; (repeat (refine ⟨by omega, ?_⟩)); refine hK2 _ ?_; clear hK2 K2)
        refine sxf_nil (hK' _ ?_)
        refine AW.st (by simp; rfl) ?_
        clear hK' K'
        refine AW_ret ?_
        simp [D.le, D.le.go, takeMap]
        exact (idx_hit hc hp2 fun i hi => hp i (by omega) hi).symm
      · refine AW_skip (hK3 _ ?_)
        refine AW_re (tyOf_good _) fun K' hK' => ?_
        repeat (refine sxf_next fun K2 hK2 => ?_; simp; (repeat (refine ⟨by omega, ?_⟩)); refine hK2 _ ?_; clear hK2 K2)
        refine sxf_nil (hK' _ ?_)
        clear hK' K'
        try simp only [thn, inb]
        refine Again.mk (n + 1) ⟨by omega, fun i hi hin => ?_⟩ (by omega) ?_
        · by_cases h : i = n
          · subst h; exact hp2
          · exact hp i hi (by omega)
        refine Imp.to' (fun _ _ => trivial) (by simp) (by simp)
    · refine AW_exit (hK1 _ ?_)
      refine AW_rg (tyOf_good _) [4] [] (fun _ _ => trivial) fun K' hK' => ?_
      repeat (refine sxf_next fun K2 hK2 => ?_; simp; (repeat (refine ⟨by omega, ?_⟩)); refine hK2 _ ?_; clear hK2 K2)
      refine sxf_nil (hK' _ ?_)
      refine AW.st (by simp; rfl) ?_
      clear hK' K'
      refine AW_ret ?_
      simp [D.le, D.le.go, takeMap]
      exact (idx_miss fun i hi => hp i hi (by omega)).symm

theorem idx_any {α : Type} (p : α → Bool) (l : List α) : decide (0 ≤ idx p l) = l.any p := by
  unfold idx
  split
  · rename_i i hi
    rw [List.findIdx?_eq_some_iff_getElem] at hi
    obtain ⟨h1, h2, _⟩ := hi
    have : l.any p = true := List.any_eq_true.2 ⟨_, List.getElem_mem h1, h2⟩
    rw [this]; simp
  · rename_i h
    rw [List.findIdx?_eq_none_iff] at h
    have : l.any p = false := by
      rw [List.any_eq_false]
      intro x hx
      simpa using h x hx
    rw [this]; simp

set_option maxHeartbeats 1000000 in
theorem containsInt_spec {α : Type} (G : Glob) (k : Option Bool) (enc : α → D) (xs : List α) (g : FuncId) (caps : List D) (p : α → Bool) (hl : xs.length < 2^63) (ha : Answers G g caps enc p xs) :
    PureC Tryd.prog G 16 [.sl k (xs.map fun x => [enc x]), .fn (.func g) caps] (.v (.bool (xs.any p))) := by
  refine PureC.of_body (tyOf_good _) Tryd.func16 rfl rfl (rs := [.tmp 4]) Tryd.results16 (by simp [Tryd.ntmps16]) fun X => ?_
  simp only [Tryd.ntmps16, List.map]
  refine AW_rg (tyOf_good _) [0, 1] [] (fun _ _ => trivial) fun K' hK' => ?_
  repeat (refine sxf_next fun K2 hK2 => ?_; simp; (repeat (refine ⟨by omega, ?_⟩)); refine hK2 _ ?_; clear hK2 K2)
  refine sxf_nil (hK' _ ?_)
  refine AW.st (by simp; rfl) ?_
  clear hK' K'
  refine AW_rg (tyOf_good _) [4] [] (fun _ _ => trivial) fun K' hK' => ?_
  repeat (refine sxf_next fun K2 hK2 => ?_; simp; (repeat (refine ⟨by omega, ?_⟩)); refine hK2 _ ?_; clear hK2 K2)
  refine sxf_next fun K2 hK2 => ?_
  simp
  refine callK.data (indexInt_spec G k enc xs g caps p hl ha) (by simp; rfl) (by first | exact D.leGo_refl _ | simp [takeMap, List.map_map, Function.comp_def, D.le, D.le.go, D.le_refl, D.leGo_refl]) ?_
  refine hK2 _ ?_
  clear hK2 K2
  simp only [putd, upd_lst]
  repeat (refine sxf_next fun K2 hK2 => ?_; simp; (repeat (refine ⟨by omega, ?_⟩)); refine hK2 _ ?_; clear hK2 K2)
  refine sxf_nil (hK' _ ?_)
  refine AW.st (by simp; rfl) ?_
  clear hK' K'
  refine AW_ret ?_
  simp [D.le, D.le.go, takeMap]
  exact idx_any p xs
end Go.Proofs.YtnlhioeefmhklaaDoor

/-
  The closures; slices that are copied; lists that are numbered as they come.
-/
namespace Go.Proofs.YtnlhioeefmhklaaDoor
set_option linter.unusedSimpArgs false
set_option linter.unusedVariables false
open Go.Av

def dNum (n : Int) : D := .v (.int .i64 n)
def dRow (r : List Int) : D := dInts none r
end Go.Proofs.YtnlhioeefmhklaaDoor

/-
  Routes: Clash, both sides; what is named twice.
-/
namespace Go.Proofs.YtnlhioeefmhklaaDoor
set_option linter.unusedSimpArgs false
set_option linter.unusedVariables false
open Go.Av

/-- A point, its cells. -/
def cPt (p : Int × Bool) : List D := [.v (.int .i64 p.1), .v (.bool p.2)]
def dPt (p : Int × Bool) : D := .agg (cPt p)
def dPts (l : List (Int × Bool)) : D := .sl none (l.map cPt)
def cRt (r : Rt) : List D := [dRow r.1, dPts r.2]
def dRt (r : Rt) : D := .agg (cRt r)
def dRts (l : List Rt) : D := .sl none (l.map cRt)
/-- The document's route. -/
abbrev RtW := List Int × List Int
def cRw (r : RtW) : List D := [dRow r.1, dRow r.2]
def dRw (r : RtW) : D := .agg (cRw r)
def dRws (l : List RtW) : D := .sl none (l.map cRw)
theorem dRow_eq (l : List Int) : dRow l = .sl none (l.map fun x => [.v (.int .i64 x)]) := rfl

set_option maxHeartbeats 1000000 in
theorem indexEq_spec (G : Glob) (l : List Int) (x : Int) (hl : l.length < 2^62) : PureC Tryd.prog G 34 [dRow l, .v (.int .i64 x)] (.v (.int .i64 (idx (fun y => x == y) l))) := by
  rw [dRow_eq]
  refine PureC.of_body (tyOf_good _) Tryd.func34 rfl rfl (rs := [.tmp 4]) Tryd.results34 (by simp [Tryd.ntmps34]) fun X => ?_
  simp only [Tryd.ntmps34, List.map]
  refine AW_rg (tyOf_good _) [0, 1] [] (fun _ _ => trivial) fun K' hK' => ?_
  repeat (refine sxf_next fun K2 hK2 => ?_; simp; (repeat (refine ⟨by omega, ?_⟩)); refine hK2 _ ?_; clear hK2 K2)
  refine sxf_nil (hK' _ ?_)
  refine AW.st (by simp; rfl) ?_
  clear hK' K'
  refine AW_then fun K1 hK1 => ?_
  refine AW_rg (tyOf_good _) [0, 1, 7, 8] [] (fun _ _ => trivial) fun K' hK' => ?_
  repeat (refine sxf_next fun K2 hK2 => ?_; simp; (repeat (refine ⟨by omega, ?_⟩)); refine hK2 _ ?_; clear hK2 K2)
  refine sxf_nil (hK' _ ?_)
  refine AW.st (by simp; rfl) ?_
  clear hK' K'
  refine AW_for (S := Nat) (fun n => n ≤ l.length ∧ ∀ i (hi : i < l.length), i < n → (x == l[i]) = false) (fun n => ⟨lst [(0, .d (.sl none (l.map fun x => [.v (.int .i64 x)]))), (1, .d (.v (.int .i64 x))), (7, int l.length), (8, int n)], hlst []⟩) (fun n => l.length - n) 0 ?_ (by simp) ?_
  · refine Imp.to' (fun _ _ => trivial) (by simp) (by simp)
  · rintro n ⟨hn, hp⟩
    refine AW_rg (tyOf_good _) [0, 1, 7, 8, 9] [] (fun _ _ => trivial) fun K' hK' => ?_
    repeat (refine sxf_next fun K2 hK2 => ?_; simp; (repeat (refine ⟨by omega, ?_⟩)); refine hK2 _ ?_; clear hK2 K2)
    refine sxf_nil (hK' _ ?_)
    refine AW.st (by simp; rfl) ?_
    clear hK' K'
    refine AW_then fun K2 hK2 => ?_
    refine AW_cond' (b := n < l.length) (by simp [D.le, D.le.go, takeMap]) (fun hc => ?_) (fun hc => ?_)
    · refine AW_skip (hK2 _ ?_)
      refine AW_then fun K3 hK3 => ?_
      refine AW_block ?_
      refine AW_rg (tyOf_good _) [0, 1, 5, 7, 8] [] (fun _ _ => trivial) fun K' hK' => ?_
      repeat (refine sxf_next fun K2 hK2 => ?_; simp; (repeat (refine ⟨by omega, ?_⟩)); refine hK2 _ ?_; clear hK2 K2)
      refine sxf_nil (hK' _ ?_)
      refine AW.st (by simp; rfl) ?_
      clear hK' K'
      refine AW_rg (tyOf_good _) [0, 1, 5, 7, 8, 16] [] (fun _ _ => trivial) fun K' hK' => ?_
      repeat (refine sxf_next fun K2 hK2 => ?_; simp [hc]; (repeat (refine ⟨by omega, ?_⟩)); refine hK2 _ ?_; clear hK2 K2)
      refine sxf_nil (hK' _ ?_)
      refine AW.st (by simp [hc]; rfl) ?_
      clear hK' K'
      have hlt := hc
      refine AW_cond' (b := x = l[n]) (by simp [D.le, D.le.go, takeMap]) (fun hc => ?_) (fun hc => ?_)
      · refine AW_rg (tyOf_good _) [4] [] (fun _ _ => trivial) fun K' hK' => ?_
        repeat (refine sxf_next fun K2 hK2 => ?_; simp; (repeat (refine ⟨by omega, ?_⟩)); refine hK2 _ ?_; clear hK2 K2)
        refine sxf_nil (hK' _ ?_)
        refine AW.st (by simp; rfl) ?_
        clear hK' K'
        refine AW_ret ?_
        simp [D.le, D.le.go, takeMap]
        exact (idx_hit hlt (by simpa using hc) fun i hi => hp i (by omega) hi).symm
      · refine AW_skip (hK3 _ ?_)
        refine AW_re (tyOf_good _) fun K' hK' => ?_
        repeat (refine sxf_next fun K2 hK2 => ?_; simp; (repeat (refine ⟨by omega, ?_⟩)); refine hK2 _ ?_; clear hK2 K2)
        refine sxf_nil (hK' _ ?_)
        clear hK' K'
        try simp only [thn, inb]
        refine Again.mk (n + 1) ⟨by omega, fun i hi hin => ?_⟩ (by omega) ?_
        · by_cases h : i = n
          · subst h; simpa using hc
          · exact hp i hi (by omega)
        refine Imp.to' (fun _ _ => trivial) (by simp) (by simp)
    · refine AW_exit (hK1 _ ?_)
      refine AW_rg (tyOf_good _) [4] [] (fun _ _ => trivial) fun K' hK' => ?_
      repeat (refine sxf_next fun K2 hK2 => ?_; simp; (repeat (refine ⟨by omega, ?_⟩)); refine hK2 _ ?_; clear hK2 K2)
      refine sxf_nil (hK' _ ?_)
      refine AW.st (by simp; rfl) ?_
      clear hK' K'
      refine AW_ret ?_
      simp [D.le, D.le.go, takeMap]
      exact (idx_miss fun i hi => hp i hi (by omega)).symm

theorem idx_memI (l : List Int) (x : Int) : 0 ≤ idx (fun y => decide (x = y)) l ↔ x ∈ l := by
  have h := idx_any (fun y => decide (x = y)) l
  have h2 : (l.any fun y => decide (x = y)) = decide (x ∈ l) := by
    rw [Bool.eq_iff_iff, List.any_eq_true]
    constructor
    · rintro ⟨y, h1, h2⟩; have : x = y := by simpa using h2
      simpa using this ▸ h1
    · intro h; exact ⟨x, by simpa using h, by simp⟩
  rw [h2] at h
  simpa using h
theorem idx_memP (l : List (Int × Bool)) (x : Int × Bool) : 0 ≤ idx (fun y => x == y) l ↔ x ∈ l := by
  have h := idx_any (fun y => x == y) l
  have h2 : (l.any fun y => x == y) = decide (x ∈ l) := by
    rw [Bool.eq_iff_iff, List.any_eq_true]
    constructor
    · rintro ⟨y, h1, h2⟩; have : x = y := by simpa using h2
      simpa using this ▸ h1
    · intro h; exact ⟨x, by simpa using h, by simp⟩
  rw [h2] at h
  simpa using h
set_option maxHeartbeats 1000000 in
theorem containsEq_spec (G : Glob) (l : List Int) (x : Int) (hl : l.length < 2^62) : PureC Tryd.prog G 22 [dRow l, .v (.int .i64 x)] (.v (.bool (l.contains x))) := by
  have h1 := indexEq_spec G l x hl
  rw [dRow_eq] at h1 ⊢
  refine PureC.of_body (tyOf_good _) Tryd.func22 rfl rfl (rs := [.tmp 4]) Tryd.results22 (by simp [Tryd.ntmps22]) fun X => ?_
  simp only [Tryd.ntmps22, List.map]
  refine AW_rg (tyOf_good _) [0, 1] [] (fun _ _ => trivial) fun K' hK' => ?_
  repeat (refine sxf_next fun K2 hK2 => ?_; simp; (repeat (refine ⟨by omega, ?_⟩)); refine hK2 _ ?_; clear hK2 K2)
  refine sxf_nil (hK' _ ?_)
  refine AW.st (by simp; rfl) ?_
  clear hK' K'
  refine AW_rg (tyOf_good _) [4] [] (fun _ _ => trivial) fun K' hK' => ?_
  repeat (refine sxf_next fun K2 hK2 => ?_; simp; (repeat (refine ⟨by omega, ?_⟩)); refine hK2 _ ?_; clear hK2 K2)
  refine sxf_next fun K2 hK2 => ?_
  simp
  refine callK.data (h1) (by simp; rfl) (by first | exact D.leGo_refl _ | simp [takeMap, List.map_map, Function.comp_def, D.le, D.le.go, D.le_refl, D.leGo_refl]) ?_
  refine hK2 _ ?_
  clear hK2 K2
  simp only [putd, upd_lst]
  repeat (refine sxf_next fun K2 hK2 => ?_; simp; (repeat (refine ⟨by omega, ?_⟩)); refine hK2 _ ?_; clear hK2 K2)
  refine sxf_nil (hK' _ ?_)
  refine AW.st (by simp; rfl) ?_
  clear hK' K'
  refine AW_ret ?_
  simp [D.le, D.le.go, takeMap]
  exact idx_memI l x

set_option maxHeartbeats 1000000 in
theorem indexPt_spec (G : Glob) (k : Option Bool) (xs : List (Int × Bool)) (g : FuncId) (caps : List D) (p : Int × Bool → Bool) (hl : xs.length < 2^62) (ha : Answers G g caps dPt p xs) :
    PureC Tryd.prog G 32 [.sl k (xs.map cPt), .fn (.func g) caps] (.v (.int .i64 (idx p xs))) := by
  refine PureC.of_body (tyOf_good _) Tryd.func32 rfl rfl (rs := [.tmp 4]) Tryd.results32 (by simp [Tryd.ntmps32]) fun X => ?_
  simp only [Tryd.ntmps32, List.map]
  refine AW_rg (tyOf_good _) [0, 1] [] (fun _ _ => trivial) fun K' hK' => ?_
  repeat (refine sxf_next fun K2 hK2 => ?_; simp; (repeat (refine ⟨by omega, ?_⟩)); refine hK2 _ ?_; clear hK2 K2)
  refine sxf_nil (hK' _ ?_)
  refine AW.st (by simp; rfl) ?_
  clear hK' K'
  refine AW_then fun K1 hK1 => ?_
  refine AW_rg (tyOf_good _) [0, 1, 7, 8] [] (fun _ _ => trivial) fun K' hK' => ?_
  repeat (refine sxf_next fun K2 hK2 => ?_; simp; (repeat (refine ⟨by omega, ?_⟩)); refine hK2 _ ?_; clear hK2 K2)
  refine sxf_nil (hK' _ ?_)
  refine AW.st (by simp; rfl) ?_
  clear hK' K'
  refine AW_for (S := Nat) (fun n => n ≤ xs.length ∧ ∀ i (hi : i < xs.length), i < n → p xs[i] = false) (fun n => ⟨lst [(0, .d (.sl k (xs.map cPt))), (1, .d (.fn (.func g) caps)), (7, int xs.length), (8, int n)], hlst []⟩) (fun n => xs.length - n) 0 ?_ (by simp) ?_
  · refine Imp.to' (fun _ _ => trivial) (by simp) (by simp)
  · rintro n ⟨hn, hp⟩
    refine AW_rg (tyOf_good _) [0, 1, 7, 8, 9] [] (fun _ _ => trivial) fun K' hK' => ?_
    repeat (refine sxf_next fun K2 hK2 => ?_; simp; (repeat (refine ⟨by omega, ?_⟩)); refine hK2 _ ?_; clear hK2 K2)
    refine sxf_nil (hK' _ ?_)
    refine AW.st (by simp; rfl) ?_
    clear hK' K'
    refine AW_then fun K2 hK2 => ?_
    refine AW_cond' (b := n < xs.length) (by simp [D.le, D.le.go, takeMap]) (fun hc => ?_) (fun hc => ?_)
    · refine AW_skip (hK2 _ ?_)
      refine AW_then fun K3 hK3 => ?_
      refine AW_block ?_
      refine AW_rg (tyOf_good _) [0, 1, 5, 7, 8] [] (fun _ _ => trivial) fun K' hK' => ?_
      repeat (refine sxf_next fun K2 hK2 => ?_; simp; (repeat (refine ⟨by omega, ?_⟩)); refine hK2 _ ?_; clear hK2 K2)
      refine sxf_nil (hK' _ ?_)
      refine AW.st (by simp; rfl) ?_
      clear hK' K'
      have hax := ha xs[n] (by simp)
      simp only [dPt, cPt] at hax
      refine AW_rg (tyOf_good _) [0, 1, 5, 7, 8, 16] [] (fun _ _ => trivial) fun K' hK' => ?_
      repeat (refine sxf_next fun K2 hK2 => ?_; simp [hc, cPt]; (repeat (refine ⟨by omega, ?_⟩)); refine hK2 _ ?_; clear hK2 K2)
      refine sxf_next fun K2 hK2 => ?_
      simp [hc, cPt]
      refine callK.data (hax) (by simp; rfl) (by first | exact D.leGo_refl _ | simp [takeMap, List.map_map, Function.comp_def, D.le, D.le.go, D.le_refl, D.leGo_refl, hc, cPt]) ?_
      refine hK2 _ ?_
      clear hK2 K2
      simp only [putd, upd_lst]
      repeat (refine sxf_next fun K2 hK2 => ?_; simp [hc, cPt]; (repeat (refine ⟨by omega, ?_⟩)); refine hK2 _ ?_; clear hK2 K2)
      refine sxf_nil (hK' _ ?_)
      refine AW.st (by simp [hc, cPt]; rfl) ?_
      clear hK' K'
      refine AW_cond _ rfl (fun hp2 => ?_) (fun hp2 => ?_)
      · refine AW_rg (tyOf_good _) [4] [] (fun _ _ => trivial) fun K' hK' => ?_
        repeat (refine sxf_next fun K2 hK2 => ?_; simp; (repeat (refine ⟨by omega, ?_⟩)); refine hK2 _ ?_; clear hK2 K2)
        refine sxf_nil (hK' _ ?_)
        refine AW.st (by simp; rfl) ?_
        clear hK' K'
        refine AW_ret ?_
        simp [D.le, D.le.go, takeMap]
        exact (idx_hit hc hp2 fun i hi => hp i (by omega) hi).symm
      · refine AW_skip (hK3 _ ?_)
        refine AW_re (tyOf_good _) fun K' hK' => ?_
        repeat (refine sxf_next fun K2 hK2 => ?_; simp; (repeat (refine ⟨by omega, ?_⟩)); refine hK2 _ ?_; clear hK2 K2)
        refine sxf_nil (hK' _ ?_)
        clear hK' K'
        try simp only [thn, inb]
        refine Again.mk (n + 1) ⟨by omega, fun i hi hin => ?_⟩ (by omega) ?_
        · by_cases h : i = n
          · subst h; exact hp2
          · exact hp i hi (by omega)
        refine Imp.to' (fun _ _ => trivial) (by simp) (by simp)
    · refine AW_exit (hK1 _ ?_)
      refine AW_rg (tyOf_good _) [4] [] (fun _ _ => trivial) fun K' hK' => ?_
      repeat (refine sxf_next fun K2 hK2 => ?_; simp; (repeat (refine ⟨by omega, ?_⟩)); refine hK2 _ ?_; clear hK2 K2)
      refine sxf_nil (hK' _ ?_)
      refine AW.st (by simp; rfl) ?_
      clear hK' K'
      refine AW_ret ?_
      simp [D.le, D.le.go, takeMap]
      exact (idx_miss fun i hi => hp i hi (by omega)).symm
set_option maxHeartbeats 1000000 in
theorem containsPt_spec (G : Glob) (k : Option Bool) (xs : List (Int × Bool)) (g : FuncId) (caps : List D) (p : Int × Bool → Bool) (hl : xs.length < 2^62) (ha : Answers G g caps dPt p xs) :
    PureC Tryd.prog G 18 [.sl k (xs.map cPt), .fn (.func g) caps] (.v (.bool (xs.any p))) := by
  refine PureC.of_body (tyOf_good _) Tryd.func18 rfl rfl (rs := [.tmp 4]) Tryd.results18 (by simp [Tryd.ntmps18]) fun X => ?_
  simp only [Tryd.ntmps18, List.map]
  refine AW_rg (tyOf_good _) [0, 1] [] (fun _ _ => trivial) fun K' hK' => ?_
  repeat (refine sxf_next fun K2 hK2 => ?_; simp; (repeat (refine ⟨by omega, ?_⟩)); refine hK2 _ ?_; clear hK2 K2)
  refine sxf_nil (hK' _ ?_)
  refine AW.st (by simp; rfl) ?_
  clear hK' K'
  refine AW_rg (tyOf_good _) [4] [] (fun _ _ => trivial) fun K' hK' => ?_
  repeat (refine sxf_next fun K2 hK2 => ?_; simp; (repeat (refine ⟨by omega, ?_⟩)); refine hK2 _ ?_; clear hK2 K2)
  refine sxf_next fun K2 hK2 => ?_
  simp
  refine callK.data (indexPt_spec G k xs g caps p hl ha) (by simp; rfl) (by first | exact D.leGo_refl _ | simp [takeMap, List.map_map, Function.comp_def, D.le, D.le.go, D.le_refl, D.leGo_refl]) ?_
  refine hK2 _ ?_
  clear hK2 K2
  simp only [putd, upd_lst]
  repeat (refine sxf_next fun K2 hK2 => ?_; simp; (repeat (refine ⟨by omega, ?_⟩)); refine hK2 _ ?_; clear hK2 K2)
  refine sxf_nil (hK' _ ?_)
  refine AW.st (by simp; rfl) ?_
  clear hK' K'
  refine AW_ret ?_
  simp [D.le, D.le.go, takeMap]
  exact idx_any p xs

set_option maxHeartbeats 1000000 in
theorem indexPtEq_spec (G : Glob) (l : List (Int × Bool)) (x : Int × Bool) (hl : l.length < 2^62) : PureC Tryd.prog G 35 [.sl none (l.map cPt), dPt x] (.v (.int .i64 (idx (fun y => x == y) l))) := by
  obtain ⟨xn, xo⟩ := x
  simp only [dPt, cPt]
  refine PureC.of_body (tyOf_good _) Tryd.func35 rfl rfl (rs := [.tmp 4]) Tryd.results35 (by simp [Tryd.ntmps35]) fun X => ?_
  simp only [Tryd.ntmps35, List.map]
  refine AW_rg (tyOf_good _) [0, 3] [3] (fun _ _ => trivial) fun K' hK' => ?_
  repeat (refine sxf_next fun K2 hK2 => ?_; simp; (repeat (refine ⟨by omega, ?_⟩)); refine hK2 _ ?_; clear hK2 K2)
  refine sxf_nil (hK' _ ?_)
  refine AW.st (by simp; rfl) ?_
  clear hK' K'
  refine AW_then fun K1 hK1 => ?_
  refine AW_rg (tyOf_good _) [0, 3, 7, 8] [3] (fun _ _ => trivial) fun K' hK' => ?_
  repeat (refine sxf_next fun K2 hK2 => ?_; simp; (repeat (refine ⟨by omega, ?_⟩)); refine hK2 _ ?_; clear hK2 K2)
  refine sxf_nil (hK' _ ?_)
  refine AW.st (by simp; rfl) ?_
  clear hK' K'
  refine AW_for (S := Nat) (fun n => n ≤ l.length ∧ ∀ i (hi : i < l.length), i < n → ((xn, xo) == l[i]) = false) (fun n => ⟨lst [(0, .d (.sl none (l.map cPt))), (3, .ref 3 0 0), (7, int l.length), (8, int n)], hlst [(3, .box 50 [.d (.v (.int .i64 xn)), .d (.v (.bool xo))])]⟩) (fun n => l.length - n) 0 ?_ (by simp) ?_
  · refine Imp.to' (fun _ _ => trivial) (by simp [cPt]) (by simp [cPt])
  · rintro n ⟨hn, hp⟩
    refine AW_rg (tyOf_good _) [0, 3, 7, 8, 9] [3] (fun _ _ => trivial) fun K' hK' => ?_
    repeat (refine sxf_next fun K2 hK2 => ?_; simp; (repeat (refine ⟨by omega, ?_⟩)); refine hK2 _ ?_; clear hK2 K2)
    refine sxf_nil (hK' _ ?_)
    refine AW.st (by simp; rfl) ?_
    clear hK' K'
    refine AW_then fun K2 hK2 => ?_
    refine AW_cond' (b := n < l.length) (by simp [D.le, D.le.go, takeMap]) (fun hc => ?_) (fun hc => ?_)
    · refine AW_skip (hK2 _ ?_)
      refine AW_then fun K3 hK3 => ?_
      refine AW_block ?_
      refine AW_rg (tyOf_good _) [0, 3, 5, 7, 8] [3] (fun _ _ => trivial) fun K' hK' => ?_
      repeat (refine sxf_next fun K2 hK2 => ?_; simp; (repeat (refine ⟨by omega, ?_⟩)); refine hK2 _ ?_; clear hK2 K2)
      refine sxf_nil (hK' _ ?_)
      refine AW.st (by simp; rfl) ?_
      clear hK' K'
      have hpe : ((xn, xo) == l[n]) = (decide (xn = l[n].1) && decide (xo = l[n].2)) := by
        obtain ⟨a, b⟩ := l[n]
        by_cases h1 : xn = a <;> by_cases h2 : xo = b <;> simp [h1, h2]
      refine AW_rd (tyOf_good _) (by kernel_rfl) [0, 3, 5, 7, 8, 16] [3] (fun _ _ => trivial) (by kernel_rfl) fun K' hK' => ?_
      repeat (refine sxd_next fun K2 hK2 => ?_; simp [hc, cPt, eqFs, eqSc, eqv]; (repeat (refine ⟨by omega, ?_⟩)); refine hK2 _ ?_; clear hK2 K2)
      refine sxd_nil (hK' _ ?_)
      refine AW.st (by simp [hc, cPt, eqFs, eqSc, eqv]; rfl) ?_
      clear hK' K'
      have hlt := hc
      refine AW_cond _ rfl (fun hc => ?_) (fun hc => ?_)
      · refine AW_rg (tyOf_good _) [4] [3] (fun _ _ => trivial) fun K' hK' => ?_
        repeat (refine sxf_next fun K2 hK2 => ?_; simp; (repeat (refine ⟨by omega, ?_⟩)); refine hK2 _ ?_; clear hK2 K2)
        refine sxf_nil (hK' _ ?_)
        refine AW.st (by simp; rfl) ?_
        clear hK' K'
        refine AW_ret ?_
        simp [D.le, D.le.go, takeMap]
        refine (idx_hit hlt ?_ fun i hi => hp i (by omega) hi).symm
        rw [hpe]; simpa using hc
      · refine AW_skip (hK3 _ ?_)
        refine AW_re (tyOf_good _) fun K' hK' => ?_
        repeat (refine sxf_next fun K2 hK2 => ?_; simp; (repeat (refine ⟨by omega, ?_⟩)); refine hK2 _ ?_; clear hK2 K2)
        refine sxf_nil (hK' _ ?_)
        clear hK' K'
        try simp only [thn, inb]
        refine Again.mk (n + 1) ⟨by omega, fun i hi hin => ?_⟩ (by omega) ?_
        · by_cases h : i = n
          · subst h; rw [hpe]; simpa using hc
          · exact hp i hi (by omega)
        refine Imp.to' (fun _ _ => trivial) (by simp [cPt]) (by simp [cPt])
    · refine AW_exit (hK1 _ ?_)
      refine AW_rg (tyOf_good _) [4] [3] (fun _ _ => trivial) fun K' hK' => ?_
      repeat (refine sxf_next fun K2 hK2 => ?_; simp; (repeat (refine ⟨by omega, ?_⟩)); refine hK2 _ ?_; clear hK2 K2)
      refine sxf_nil (hK' _ ?_)
      refine AW.st (by simp; rfl) ?_
      clear hK' K'
      refine AW_ret ?_
      simp [D.le, D.le.go, takeMap]
      exact (idx_miss fun i hi => hp i hi (by omega)).symm
set_option maxHeartbeats 1000000 in
theorem containsPtEq_spec (G : Glob) (l : List (Int × Bool)) (x : Int × Bool) (hl : l.length < 2^62) : PureC Tryd.prog G 24 [.sl none (l.map cPt), dPt x] (.v (.bool (l.contains x))) := by
  have h1 := indexPtEq_spec G l x hl
  obtain ⟨xn, xo⟩ := x
  simp only [dPt, cPt] at h1 ⊢
  refine PureC.of_body (tyOf_good _) Tryd.func24 rfl rfl (rs := [.tmp 4]) Tryd.results24 (by simp [Tryd.ntmps24]) fun X => ?_
  simp only [Tryd.ntmps24, List.map]
  refine AW_rg (tyOf_good _) [0, 3] [3] (fun _ _ => trivial) fun K' hK' => ?_
  repeat (refine sxf_next fun K2 hK2 => ?_; simp; (repeat (refine ⟨by omega, ?_⟩)); refine hK2 _ ?_; clear hK2 K2)
  refine sxf_nil (hK' _ ?_)
  refine AW.st (by simp; rfl) ?_
  clear hK' K'
  refine AW_rg (tyOf_good _) [4] [3] (fun _ _ => trivial) fun K' hK' => ?_
  repeat (refine sxf_next fun K2 hK2 => ?_; simp [cPt]; (repeat (refine ⟨by omega, ?_⟩)); refine hK2 _ ?_; clear hK2 K2)
  refine sxf_next fun K2 hK2 => ?_
  simp [cPt]
  refine callK.data (h1) (by simp; rfl) (by first | exact D.leGo_refl _ | simp [takeMap, List.map_map, Function.comp_def, D.le, D.le.go, D.le_refl, D.leGo_refl, cPt]) ?_
  refine hK2 _ ?_
  clear hK2 K2
  simp only [putd, upd_lst]
  repeat (refine sxf_next fun K2 hK2 => ?_; simp [cPt]; (repeat (refine ⟨by omega, ?_⟩)); refine hK2 _ ?_; clear hK2 K2)
  refine sxf_nil (hK' _ ?_)
  refine AW.st (by simp [cPt]; rfl) ?_
  clear hK' K'
  refine AW_ret ?_
  simp [D.le, D.le.go, takeMap]
  exact idx_memP l _

/-- Small routes: no list is long. -/
def SmallR (r : Rt) : Prop := r.1.length < 2^62 ∧ r.2.length < 2^62
set_option maxHeartbeats 1000000 in
theorem clash1_spec (G : Glob) (b : Rt) (hb : SmallR b) (s : Int) : PureC Tryd.prog G 21 [.v (.int .i64 s), .ip (cRt b)] (.v (.bool (b.1.contains s))) := by
  refine PureC.of_body (tyOf_good _) Tryd.func21 rfl rfl (rs := [.tmp 3]) Tryd.results21 (by simp [Tryd.ntmps21]) fun X => ?_
  simp only [Tryd.ntmps21, List.map]
  refine AW_rg (tyOf_good _) [0, 1] [] (fun _ _ => trivial) fun K' hK' => ?_
  repeat (refine sxf_next fun K2 hK2 => ?_; simp [cRt]; (repeat (refine ⟨by omega, ?_⟩)); refine hK2 _ ?_; clear hK2 K2)
  refine sxf_nil (hK' _ ?_)
  refine AW.st (by simp [cRt]; rfl) ?_
  clear hK' K'
  refine AW_rg (tyOf_good _) [3] [] (fun _ _ => trivial) fun K' hK' => ?_
  repeat (refine sxf_next fun K2 hK2 => ?_; simp [cRt]; (repeat (refine ⟨by omega, ?_⟩)); refine hK2 _ ?_; clear hK2 K2)
  refine sxf_next fun K2 hK2 => ?_
  simp [cRt]
  refine callK.data (containsEq_spec G b.1 s hb.1) (by simp; rfl) (by first | exact D.leGo_refl _ | simp [takeMap, List.map_map, Function.comp_def, D.le, D.le.go, D.le_refl, D.leGo_refl, cRt]) ?_
  refine hK2 _ ?_
  clear hK2 K2
  simp only [putd, upd_lst]
  repeat (refine sxf_next fun K2 hK2 => ?_; simp [cRt]; (repeat (refine ⟨by omega, ?_⟩)); refine hK2 _ ?_; clear hK2 K2)
  refine sxf_nil (hK' _ ?_)
  refine AW.st (by simp [cRt]; rfl) ?_
  clear hK' K'
  refine AW_ret ?_
  simp [D.le, D.le.go, takeMap, cRt]
set_option maxHeartbeats 1000000 in
theorem clash2_spec (G : Glob) (b : Rt) (hb : SmallR b) (p : Int × Bool) : PureC Tryd.prog G 23 [dPt p, .ip (cRt b)] (.v (.bool (b.2.contains (p.1, !p.2)))) := by
  have h := containsPtEq_spec G b.2 (p.1, !p.2) hb.2
  obtain ⟨n, o⟩ := p
  simp only [dPt, cPt] at h ⊢
  refine PureC.of_body (tyOf_good _) Tryd.func23 rfl rfl (rs := [.tmp 3]) Tryd.results23 (by simp [Tryd.ntmps23]) fun X => ?_
  simp only [Tryd.ntmps23, List.map]
  refine AW_rg (tyOf_good _) [1, 2] [2] (fun _ _ => trivial) fun K' hK' => ?_
  repeat (refine sxf_next fun K2 hK2 => ?_; simp [cRt, dPts]; (repeat (refine ⟨by omega, ?_⟩)); refine hK2 _ ?_; clear hK2 K2)
  refine sxf_nil (hK' _ ?_)
  refine AW.st (by simp [cRt, dPts]; rfl) ?_
  clear hK' K'
  refine AW_rg (tyOf_good _) [3] [2] (fun _ _ => trivial) fun K' hK' => ?_
  repeat (refine sxf_next fun K2 hK2 => ?_; simp [cRt, dPts]; (repeat (refine ⟨by omega, ?_⟩)); refine hK2 _ ?_; clear hK2 K2)
  refine sxf_next fun K2 hK2 => ?_
  simp [cRt, dPts]
  refine callK.data (h) (by simp; rfl) (by first | exact D.leGo_refl _ | simp [takeMap, List.map_map, Function.comp_def, D.le, D.le.go, D.le_refl, D.leGo_refl, cRt, dPts]) ?_
  refine hK2 _ ?_
  clear hK2 K2
  simp only [putd, upd_lst]
  repeat (refine sxf_next fun K2 hK2 => ?_; simp [cRt, dPts]; (repeat (refine ⟨by omega, ?_⟩)); refine hK2 _ ?_; clear hK2 K2)
  refine sxf_nil (hK' _ ?_)
  refine AW.st (by simp [cRt, dPts]; rfl) ?_
  clear hK' K'
  refine AW_ret ?_
  simp [D.le, D.le.go, takeMap, cRt, dPts]
set_option maxHeartbeats 2000000 in
theorem clash_spec (G : Glob) (a b : Rt) (ha : SmallR a) (hb : SmallR b) : PureC Tryd.prog G 8 [dRt a, dRt b] (.v (.bool (clashF a b))) := by
  have h1 := containsInt_spec G none (fun x : Int => D.v (.int .i64 x)) a.1 21 [.ip (cRt b)] (fun s => b.1.contains s) (by have := ha.1; omega) fun s _ => clash1_spec G b hb s
  have h2 := containsPt_spec G none a.2 23 [.ip (cRt b)] (fun p => b.2.contains (p.1, !p.2)) ha.2 fun p _ => clash2_spec G b hb p
  simp only [dRt, cRt, dPts, dRow_eq] at h1 h2 ⊢
  refine PureC.of_body (tyOf_good _) Tryd.func8 rfl rfl (rs := [.tmp 4]) Tryd.results8 (by simp [Tryd.ntmps8]) fun X => ?_
  simp only [Tryd.ntmps8, List.map]
  refine AW_rg (tyOf_good _) [2, 3] [2, 3] (fun _ _ => trivial) fun K' hK' => ?_
  repeat (refine sxf_next fun K2 hK2 => ?_; simp [cRt, dPts]; (repeat (refine ⟨by omega, ?_⟩)); refine hK2 _ ?_; clear hK2 K2)
  refine sxf_nil (hK' _ ?_)
  refine AW.st (by simp [cRt, dPts]; rfl) ?_
  clear hK' K'
  refine AW.imp (Imp.freezeB 3 trivial) ?_
  refine AW.st (by simp [cRt, dPts]; rfl) ?_
  unfold clashF
  cases hr : (a.1.any fun s => b.1.contains s)
  · rw [hr] at h1
    refine AW_rg (tyOf_good _) [4] [2] (fun _ _ => trivial) fun K' hK' => ?_
    repeat (refine sxf_next fun K2 hK2 => ?_; simp [cRt, dPts]; (repeat (refine ⟨by omega, ?_⟩)); refine hK2 _ ?_; clear hK2 K2)
    refine sxf_next fun K2 hK2 => ?_
    simp [cRt, dPts]
    refine callK.data (h1) (by simp; rfl) (by first | exact D.leGo_refl _ | simp [takeMap, List.map_map, Function.comp_def, D.le, D.le.go, D.le_refl, D.leGo_refl, cRt, dPts]) ?_
    refine hK2 _ ?_
    clear hK2 K2
    simp only [putd, upd_lst]
    repeat (refine sxf_next fun K2 hK2 => ?_; simp [cRt, dPts]; (repeat (refine ⟨by omega, ?_⟩)); refine hK2 _ ?_; clear hK2 K2)
    refine sxf_next fun K2 hK2 => ?_
    simp [cRt, dPts]
    refine callK.data (h2) (by simp; rfl) (by first | exact D.leGo_refl _ | simp [takeMap, List.map_map, Function.comp_def, D.le, D.le.go, D.le_refl, D.leGo_refl, cRt, dPts]) ?_
    refine hK2 _ ?_
    clear hK2 K2
    simp only [putd, upd_lst]
    repeat (refine sxf_next fun K2 hK2 => ?_; simp [cRt, dPts]; (repeat (refine ⟨by omega, ?_⟩)); refine hK2 _ ?_; clear hK2 K2)
    refine sxf_nil (hK' _ ?_)
    refine AW.st (by simp [cRt, dPts]; rfl) ?_
    clear hK' K'
    refine AW_ret ?_
    simp [D.le, D.le.go, takeMap, cRt, dPts]
  · rw [hr] at h1
    refine AW_rg (tyOf_good _) [4] [2] (fun _ _ => trivial) fun K' hK' => ?_
    repeat (refine sxf_next fun K2 hK2 => ?_; simp [cRt, dPts]; (repeat (refine ⟨by omega, ?_⟩)); refine hK2 _ ?_; clear hK2 K2)
    refine sxf_next fun K2 hK2 => ?_
    simp [cRt, dPts]
    refine callK.data (h1) (by simp; rfl) (by first | exact D.leGo_refl _ | simp [takeMap, List.map_map, Function.comp_def, D.le, D.le.go, D.le_refl, D.leGo_refl, cRt, dPts]) ?_
    refine hK2 _ ?_
    clear hK2 K2
    simp only [putd, upd_lst]
    repeat (refine sxf_next fun K2 hK2 => ?_; simp [cRt, dPts]; (repeat (refine ⟨by omega, ?_⟩)); refine hK2 _ ?_; clear hK2 K2)
    refine sxf_nil (hK' _ ?_)
    refine AW.st (by simp [cRt, dPts]; rfl) ?_
    clear hK' K'
    refine AW_ret ?_
    simp [D.le, D.le.go, takeMap, cRt, dPts]
end Go.Proofs.YtnlhioeefmhklaaDoor

/-
  Tables: few states; which tables may be.
-/
namespace Go.Proofs.YtnlhioeefmhklaaDoor
set_option linter.unusedSimpArgs false
set_option linter.unusedVariables false
open Go.Av

structure Tab where
  next : List (List Int)
  tells : List (List Int)

end Go.Proofs.YtnlhioeefmhklaaDoor

/-
  Which tables may be.
-/
namespace Go.Proofs.YtnlhioeefmhklaaDoor
set_option linter.unusedSimpArgs false
set_option linter.unusedVariables false
open Go.Av

/-- Whether an error is told, which one, and where. -/
def dErr : Option (Int × Option Nat) → D
  | none => .v .nilIface
  | some (c, none) => .ifc 30 (.v (.int .i64 c))
  | some (c, some s) => .ifc 61 (.ip [.v (.int .i64 c), .v (.int .i64 s)])

end Go.Proofs.YtnlhioeefmhklaaDoor

/-
  Routes: what is named twice; which tables may be.
-/
namespace Go.Proofs.YtnlhioeefmhklaaDoor
set_option linter.unusedSimpArgs false
set_option linter.unusedVariables false
open Go.Av

theorem twiceL_iff {α : Type} (same : α → α → Bool) : ∀ (l seen : List α), twiceL same seen l = true ↔ ∃ n, ∃ h : n < l.length, (seen ++ l.take n).any (same l[n]) = true
  | [], seen => by simp [twiceL]
  | x :: l, seen => by
    rw [twiceL, Bool.or_eq_true, twiceL_iff same l (seen ++ [x])]
    constructor
    · rintro (h | ⟨n, h, hh⟩)
      · exact ⟨0, by simp, by simpa using h⟩
      · exact ⟨n + 1, by simpa using h, by simpa using hh⟩
    · rintro ⟨n, h, hh⟩
      cases n with
      | zero => exact .inl (by simpa using hh)
      | succ n => exact .inr ⟨n, by simpa using h, by simpa using hh⟩
theorem twiceL_hit {α : Type} {same : α → α → Bool} {l : List α} {n : Nat} (h : n < l.length) (hh : (l.take n).any (same l[n]) = true) : twiceL same [] l = true := (twiceL_iff same l []).2 ⟨n, h, by simpa using hh⟩
theorem twiceL_miss {α : Type} {same : α → α → Bool} {l : List α} (hh : ∀ n (h : n < l.length), (l.take n).any (same l[n]) = false) : twiceL same [] l = false := by
  rw [← Bool.not_eq_true]
  intro h
  obtain ⟨n, hn, h⟩ := (twiceL_iff same l []).1 h
  rw [List.nil_append, hh n hn] at h
  cases h
theorem contains_any (l : List Int) (x : Int) : l.contains x = l.any fun y => x == y := by
  rw [Bool.eq_iff_iff, List.any_eq_true, List.contains_iff_mem]
  constructor
  · intro h; exact ⟨x, h, by simp⟩
  · rintro ⟨y, h1, h2⟩; have : x = y := by simpa using h2
    exact this ▸ h1

set_option maxHeartbeats 1000000 in
theorem twice1_spec (G : Glob) (p q : Int × Bool) : PureC Tryd.prog G 33 [dPt q, .ip (cPt p)] (.v (.bool (p.1 == q.1))) := by
  obtain ⟨n, o⟩ := p
  obtain ⟨m, u⟩ := q
  simp only [dPt, cPt]
  refine PureC.of_body (tyOf_good _) Tryd.func33 rfl rfl (rs := [.tmp 3]) Tryd.results33 (by simp [Tryd.ntmps33]) fun X => ?_
  simp only [Tryd.ntmps33, List.map]
  refine AW_rg (tyOf_good _) [1, 2] [2] (fun _ _ => trivial) fun K' hK' => ?_
  repeat (refine sxf_next fun K2 hK2 => ?_; simp; (repeat (refine ⟨by omega, ?_⟩)); refine hK2 _ ?_; clear hK2 K2)
  refine sxf_nil (hK' _ ?_)
  refine AW.st (by simp; rfl) ?_
  clear hK' K'
  refine AW_rg (tyOf_good _) [3] [2] (fun _ _ => trivial) fun K' hK' => ?_
  repeat (refine sxf_next fun K2 hK2 => ?_; simp; (repeat (refine ⟨by omega, ?_⟩)); refine hK2 _ ?_; clear hK2 K2)
  refine sxf_nil (hK' _ ?_)
  refine AW.st (by simp; rfl) ?_
  clear hK' K'
  refine AW_ret ?_
  simp [D.le, D.le.go, takeMap]

set_option maxHeartbeats 2000000 in
theorem twice_spec (G : Glob) (r : Rt) (hr : SmallR r) : PureC Tryd.prog G 20 [dRt r] (.v (.bool (twiceF r))) := by
  obtain ⟨ss, ps⟩ := r
  obtain ⟨hs, hp⟩ := hr
  dsimp only at hs hp
  unfold twiceF
  dsimp only
  generalize hA : twiceL (fun a b => a == b) [] ss = A
  generalize hB : twiceL (fun a b : Int × Bool => a.1 == b.1) [] ps = B
  refine PureC.of_body (tyOf_good _) Tryd.func20 rfl rfl (rs := [.tmp 2]) Tryd.results20 (by simp [Tryd.ntmps20]) fun X => ?_
  simp only [Tryd.ntmps20, List.map]
  refine AW_rg (tyOf_good _) [1] [1] (fun _ _ => trivial) fun K' hK' => ?_
  repeat (refine sxf_next fun K2 hK2 => ?_; simp [dRt, cRt, dPts, dRow_eq]; (repeat (refine ⟨by omega, ?_⟩)); refine hK2 _ ?_; clear hK2 K2)
  refine sxf_nil (hK' _ ?_)
  refine AW.st (by simp [dRt, cRt, dPts, dRow_eq]; rfl) ?_
  clear hK' K'
  refine AW_then fun K1 hK1 => ?_
  refine AW_rg (tyOf_good _) [1, 8, 9, 10] [1] (fun _ _ => trivial) fun K' hK' => ?_
  repeat (refine sxf_next fun K2 hK2 => ?_; simp [dRt, cRt, dPts, dRow_eq]; (repeat (refine ⟨by omega, ?_⟩)); refine hK2 _ ?_; clear hK2 K2)
  refine sxf_nil (hK' _ ?_)
  refine AW.st (by simp [dRt, cRt, dPts, dRow_eq]; rfl) ?_
  clear hK' K'
  refine AW_for (S := Nat) (fun n => n ≤ ss.length ∧ ∀ i (hi : i < ss.length), i < n → ((ss.take i).any fun y => ss[i] == y) = false) (fun n => ⟨lst [(1, .ref 1 0 0), (8, .d (.sl none (ss.map fun x => [.v (.int .i64 x)]))), (9, int ss.length), (10, int n)], hlst [(1, .box 42 [.d (.sl none (ss.map fun x => [.v (.int .i64 x)])), .d (.sl none (ps.map cPt))])]⟩) (fun n => ss.length - n) 0 ?_ (by simp) ?_
  · refine Imp.to' (fun _ _ => trivial) (by simp [dRt, cRt, dPts, dRow_eq]) (by simp [dRt, cRt, dPts, dRow_eq])
  · rintro n ⟨hn, hb⟩
    refine AW_rg (tyOf_good _) [1, 8, 9, 10, 11] [1] (fun _ _ => trivial) fun K' hK' => ?_
    repeat (refine sxf_next fun K2 hK2 => ?_; simp [dRt, cRt, dPts, dRow_eq]; (repeat (refine ⟨by omega, ?_⟩)); refine hK2 _ ?_; clear hK2 K2)
    refine sxf_nil (hK' _ ?_)
    refine AW.st (by simp [dRt, cRt, dPts, dRow_eq]; rfl) ?_
    clear hK' K'
    refine AW_then fun K2 hK2 => ?_
    refine AW_cond' (b := n < ss.length) (by simp [D.le, D.le.go, takeMap, dRt, cRt, dPts, dRow_eq]) (fun hc => ?_) (fun hc => ?_)
    · have hlt := hc
      refine AW_skip (hK2 _ ?_)
      refine AW_then fun K3 hK3 => ?_
      refine AW_block ?_
      refine AW_rg (tyOf_good _) [1, 3, 4, 8, 9, 10] [1] (fun _ _ => trivial) fun K' hK' => ?_
      repeat (refine sxf_next fun K2 hK2 => ?_; simp [dRt, cRt, dPts, dRow_eq, hc]; (repeat (refine ⟨by omega, ?_⟩)); refine hK2 _ ?_; clear hK2 K2)
      refine sxf_nil (hK' _ ?_)
      refine AW.st (by simp [dRt, cRt, dPts, dRow_eq, hc]; rfl) ?_
      clear hK' K'
      have hcs := containsEq_spec G (ss.take n) ss[n] (by rw [List.length_take]; omega)
      rw [contains_any, dRow_eq, List.map_take] at hcs
      refine AW_rg (tyOf_good _) [1, 8, 9, 10, 20] [1] (fun _ _ => trivial) fun K' hK' => ?_
      repeat (refine sxf_next fun K2 hK2 => ?_; simp [dRt, cRt, dPts, dRow_eq, hc, takeMap]; (repeat (refine ⟨by omega, ?_⟩)); refine hK2 _ ?_; clear hK2 K2)
      refine sxf_next fun K2 hK2 => ?_
      simp [dRt, cRt, dPts, dRow_eq, hc, takeMap]
      refine callK.data (hcs) (by simp; rfl) (by first | exact D.leGo_refl _ | simp [takeMap, List.map_map, Function.comp_def, D.le, D.le.go, D.le_refl, D.leGo_refl, dRt, cRt, dPts, dRow_eq, hc, takeMap]) ?_
      refine hK2 _ ?_
      clear hK2 K2
      simp only [putd, upd_lst]
      repeat (refine sxf_next fun K2 hK2 => ?_; simp [dRt, cRt, dPts, dRow_eq, hc, takeMap]; (repeat (refine ⟨by omega, ?_⟩)); refine hK2 _ ?_; clear hK2 K2)
      refine sxf_nil (hK' _ ?_)
      refine AW.st (by simp [dRt, cRt, dPts, dRow_eq, hc, takeMap]; rfl) ?_
      clear hK' K'
      refine AW_cond _ rfl (fun hc => ?_) (fun hc => ?_)
      · rw [twiceL_hit hlt hc] at hA
        refine AW_rg (tyOf_good _) [2] [1] (fun _ _ => trivial) fun K' hK' => ?_
        repeat (refine sxf_next fun K2 hK2 => ?_; simp [dRt, cRt, dPts, dRow_eq]; (repeat (refine ⟨by omega, ?_⟩)); refine hK2 _ ?_; clear hK2 K2)
        refine sxf_nil (hK' _ ?_)
        refine AW.st (by simp [dRt, cRt, dPts, dRow_eq]; rfl) ?_
        clear hK' K'
        refine AW_ret ?_
        simp [D.le, D.le.go, takeMap, dRt, cRt, dPts, dRow_eq, ← hA]
      · refine AW_skip (hK3 _ ?_)
        refine AW_re (tyOf_good _) fun K' hK' => ?_
        repeat (refine sxf_next fun K2 hK2 => ?_; simp [dRt, cRt, dPts, dRow_eq]; (repeat (refine ⟨by omega, ?_⟩)); refine hK2 _ ?_; clear hK2 K2)
        refine sxf_nil (hK' _ ?_)
        clear hK' K'
        try simp only [thn, inb]
        refine Again.mk (n + 1) ⟨by omega, fun i hi hin => ?_⟩ (by omega) ?_
        · by_cases h : i = n
          · subst h; exact hc
          · exact hb i hi (by omega)
        refine Imp.to' (fun _ _ => trivial) (by simp [dRt, cRt, dPts, dRow_eq]) (by simp [dRt, cRt, dPts, dRow_eq])
    · have hA0 : A = false := by rw [← hA]; exact twiceL_miss fun i hi => hb i hi (by omega)
      refine AW_exit (hK1 _ ?_)
      refine AW_then fun K4 hK4 => ?_
      refine AW_rg (tyOf_good _) [1, 23, 24, 25] [1] (fun _ _ => trivial) fun K' hK' => ?_
      repeat (refine sxf_next fun K2 hK2 => ?_; simp [dRt, cRt, dPts, dRow_eq]; (repeat (refine ⟨by omega, ?_⟩)); refine hK2 _ ?_; clear hK2 K2)
      refine sxf_nil (hK' _ ?_)
      refine AW.st (by simp [dRt, cRt, dPts, dRow_eq]; rfl) ?_
      clear hK' K'
      refine AW_for (S := Nat) (fun n => n ≤ ps.length ∧ ∀ i (hi : i < ps.length), i < n → ((ps.take i).any fun y => ps[i].1 == y.1) = false) (fun n => ⟨lst [(1, .ref 1 0 0), (23, .d (.sl none (ps.map cPt))), (24, int ps.length), (25, int n)], hlst [(1, .box 42 [.d (.sl none (ss.map fun x => [.v (.int .i64 x)])), .d (.sl none (ps.map cPt))])]⟩) (fun n => ps.length - n) 0 ?_ (by simp) ?_
      · refine Imp.to' (fun _ _ => trivial) (by simp [dRt, cRt, dPts, dRow_eq]) (by simp [dRt, cRt, dPts, dRow_eq])
      · rintro n ⟨hn, hb⟩
        refine AW_rg (tyOf_good _) [1, 23, 24, 25, 26] [1] (fun _ _ => trivial) fun K' hK' => ?_
        repeat (refine sxf_next fun K2 hK2 => ?_; simp [dRt, cRt, dPts, dRow_eq]; (repeat (refine ⟨by omega, ?_⟩)); refine hK2 _ ?_; clear hK2 K2)
        refine sxf_nil (hK' _ ?_)
        refine AW.st (by simp [dRt, cRt, dPts, dRow_eq]; rfl) ?_
        clear hK' K'
        refine AW_then fun K5 hK5 => ?_
        refine AW_cond' (b := n < ps.length) (by simp [D.le, D.le.go, takeMap, dRt, cRt, dPts, dRow_eq]) (fun hc => ?_) (fun hc => ?_)
        · have hlt := hc
          refine AW_skip (hK5 _ ?_)
          refine AW_then fun K6 hK6 => ?_
          refine AW_block ?_
          refine AW_rg (tyOf_good _) [1, 5, 6, 23, 24, 25] [1, 6] (fun _ _ => trivial) fun K' hK' => ?_
          repeat (refine sxf_next fun K2 hK2 => ?_; simp [dRt, cRt, dPts, dRow_eq, hc, cPt]; (repeat (refine ⟨by omega, ?_⟩)); refine hK2 _ ?_; clear hK2 K2)
          refine sxf_nil (hK' _ ?_)
          refine AW.st (by simp [dRt, cRt, dPts, dRow_eq, hc, cPt]; rfl) ?_
          clear hK' K'
          refine AW.imp (Imp.freezeB 6 trivial) ?_
          refine AW.st (by simp [dRt, cRt, dPts, dRow_eq]; rfl) ?_
          have hcp := containsPt_spec G none (ps.take n) 33 [.ip (cPt ps[n])] (fun q => ps[n].1 == q.1) (by rw [List.length_take]; omega) fun q _ => twice1_spec G ps[n] q
          rw [List.map_take] at hcp
          simp only [cPt] at hcp
          refine AW_rg (tyOf_good _) [1, 23, 24, 25, 35] [1] (fun _ _ => trivial) fun K' hK' => ?_
          repeat (refine sxf_next fun K2 hK2 => ?_; simp [dRt, cRt, dPts, dRow_eq, hc, takeMap]; (repeat (refine ⟨by omega, ?_⟩)); refine hK2 _ ?_; clear hK2 K2)
          refine sxf_next fun K2 hK2 => ?_
          simp [dRt, cRt, dPts, dRow_eq, hc, takeMap]
          refine callK.data (hcp) (by simp; rfl) (by first | exact D.leGo_refl _ | simp [takeMap, List.map_map, Function.comp_def, D.le, D.le.go, D.le_refl, D.leGo_refl, dRt, cRt, dPts, dRow_eq, hc, takeMap]) ?_
          refine hK2 _ ?_
          clear hK2 K2
          simp only [putd, upd_lst]
          repeat (refine sxf_next fun K2 hK2 => ?_; simp [dRt, cRt, dPts, dRow_eq, hc, takeMap]; (repeat (refine ⟨by omega, ?_⟩)); refine hK2 _ ?_; clear hK2 K2)
          refine sxf_nil (hK' _ ?_)
          refine AW.st (by simp [dRt, cRt, dPts, dRow_eq, hc, takeMap]; rfl) ?_
          clear hK' K'
          refine AW_cond _ rfl (fun hc => ?_) (fun hc => ?_)
          · rw [twiceL_hit hlt hc] at hB
            refine AW_rg (tyOf_good _) [2] [1] (fun _ _ => trivial) fun K' hK' => ?_
            repeat (refine sxf_next fun K2 hK2 => ?_; simp [dRt, cRt, dPts, dRow_eq]; (repeat (refine ⟨by omega, ?_⟩)); refine hK2 _ ?_; clear hK2 K2)
            refine sxf_nil (hK' _ ?_)
            refine AW.st (by simp [dRt, cRt, dPts, dRow_eq]; rfl) ?_
            clear hK' K'
            refine AW_ret ?_
            simp [D.le, D.le.go, takeMap, dRt, cRt, dPts, dRow_eq, ← hB]
          · refine AW_skip (hK6 _ ?_)
            refine AW_re (tyOf_good _) fun K' hK' => ?_
            repeat (refine sxf_next fun K2 hK2 => ?_; simp [dRt, cRt, dPts, dRow_eq]; (repeat (refine ⟨by omega, ?_⟩)); refine hK2 _ ?_; clear hK2 K2)
            refine sxf_nil (hK' _ ?_)
            clear hK' K'
            try simp only [thn, inb]
            refine Again.mk (n + 1) ⟨by omega, fun i hi hin => ?_⟩ (by omega) ?_
            · by_cases h : i = n
              · subst h; exact hc
              · exact hb i hi (by omega)
            refine Imp.to' (fun _ _ => trivial) (by simp [dRt, cRt, dPts, dRow_eq]) (by simp [dRt, cRt, dPts, dRow_eq])
        · have hB0 : B = false := by rw [← hB]; exact twiceL_miss fun i hi => hb i hi (by omega)
          refine AW_exit (hK4 _ ?_)
          refine AW_rg (tyOf_good _) [2] [1] (fun _ _ => trivial) fun K' hK' => ?_
          repeat (refine sxf_next fun K2 hK2 => ?_; simp [dRt, cRt, dPts, dRow_eq]; (repeat (refine ⟨by omega, ?_⟩)); refine hK2 _ ?_; clear hK2 K2)
          refine sxf_nil (hK' _ ?_)
          refine AW.st (by simp [dRt, cRt, dPts, dRow_eq]; rfl) ?_
          clear hK' K'
          refine AW_ret ?_
          simp [D.le, D.le.go, takeMap, dRt, cRt, dPts, dRow_eq, hA0, hB0]
end Go.Proofs.YtnlhioeefmhklaaDoor

/-
  Routes: which tables may be (Check).
-/
namespace Go.Proofs.YtnlhioeefmhklaaDoor
set_option linter.unusedSimpArgs false
set_option linter.unusedVariables false
open Go.Av

/-- What is shown behind its first use. -/
structure LaterR (T : Prop) : Prop where
  out : T
theorem lateR {T U : Prop} (h : LaterR T → U) (t : T) : U := h ⟨t⟩
structure Tb where
  secs : Int
  pts : Int
  rts : List Rt
def cTb (t : Tb) : List D := [.v (.int .i64 t.secs), .v (.int .i64 t.pts), dRts t.rts]
def dTb (t : Tb) : D := .agg (cTb t)
/-- The first wrong one: what is wrong, and where. -/
def firstE {α : Type} (f : α → Int) : List α → Nat → Option (Int × Option Nat)
  | [], _ => none
  | x :: l, i => if f x = 0 then firstE f l (i + 1) else some (f x, some i)
theorem firstE_at {α : Type} {f : α → Int} : ∀ {l : List α} {i n : Nat} (hn : n < l.length), (∀ k (hk : k < l.length), k < n → f l[k] = 0) → f l[n] ≠ 0 → firstE f l i = some (f l[n], some (i + n))
  | x :: l, i, 0, _, _, hne => by rw [firstE, if_neg (show ¬ f x = 0 from hne)]; rfl
  | x :: l, i, n + 1, hn, hb, hne => by
    have h0 : f x = 0 := hb 0 (by simp) (by omega)
    rw [firstE, if_pos h0, firstE_at (l := l) (n := n) (by simpa using hn) (fun k hk hkn => hb (k + 1) (by simpa using hk) (by omega)) hne]
    simp [Nat.add_assoc, Nat.add_comm 1 n]
theorem firstE_none {α : Type} {f : α → Int} : ∀ {l : List α} {i : Nat}, (∀ k (hk : k < l.length), f l[k] = 0) → firstE f l i = none
  | [], _, _ => rfl
  | x :: l, i, hb => by
    rw [firstE, if_pos (show f x = 0 from hb 0 (by simp)), firstE_none fun k hk => hb (k + 1) (by simpa using hk)]
/-- What is wrong of a table. -/
def limT (S P : Int) (n : Nat) : Prop := S < 1 ∨ 3 < S ∨ P < 0 ∨ 2 < P ∨ n < 1 ∨ 3 < n
instance (S P : Int) (n : Nat) : Decidable (limT S P n) := inferInstanceAs (Decidable (_ ∨ _))
def checkT (t : Tb) : Option (Int × Option Nat) := if limT t.secs t.pts t.rts.length then some (4, none) else firstE (badR 8 2 9 t.secs t.pts) t.rts 0

set_option maxHeartbeats 1000000 in
theorem rcheck1_spec (G : Glob) (t : Tb) (s : Int) : PureC Tryd.prog G 17 [.v (.int .i64 s), .ip (cTb t)] (.v (.bool (decide (s < 0) || decide (s ≥ t.secs)))) := by
  refine PureC.of_body (tyOf_good _) Tryd.func17 rfl rfl (rs := [.tmp 3]) Tryd.results17 (by simp [Tryd.ntmps17]) fun X => ?_
  simp only [Tryd.ntmps17, List.map]
  by_cases h : s < 0
  · refine AW_rg (tyOf_good _) [0, 1] [] (fun _ _ => trivial) fun K' hK' => ?_
    repeat (refine sxf_next fun K2 hK2 => ?_; simp [cTb]; (repeat (refine ⟨by omega, ?_⟩)); refine hK2 _ ?_; clear hK2 K2)
    refine sxf_nil (hK' _ ?_)
    refine AW.st (by simp [cTb]; rfl) ?_
    clear hK' K'
    refine AW_rg (tyOf_good _) [3] [] (fun _ _ => trivial) fun K' hK' => ?_
    repeat (refine sxf_next fun K2 hK2 => ?_; simp [cTb, h]; (repeat (refine ⟨by omega, ?_⟩)); refine hK2 _ ?_; clear hK2 K2)
    refine sxf_nil (hK' _ ?_)
    refine AW.st (by simp [cTb, h]; rfl) ?_
    clear hK' K'
    refine AW_ret ?_
    simp [D.le, D.le.go, takeMap, cTb, h]
  · refine AW_rg (tyOf_good _) [0, 1] [] (fun _ _ => trivial) fun K' hK' => ?_
    repeat (refine sxf_next fun K2 hK2 => ?_; simp [cTb]; (repeat (refine ⟨by omega, ?_⟩)); refine hK2 _ ?_; clear hK2 K2)
    refine sxf_nil (hK' _ ?_)
    refine AW.st (by simp [cTb]; rfl) ?_
    clear hK' K'
    refine AW_rg (tyOf_good _) [3] [] (fun _ _ => trivial) fun K' hK' => ?_
    repeat (refine sxf_next fun K2 hK2 => ?_; simp [cTb, h]; (repeat (refine ⟨by omega, ?_⟩)); refine hK2 _ ?_; clear hK2 K2)
    refine sxf_nil (hK' _ ?_)
    refine AW.st (by simp [cTb, h]; rfl) ?_
    clear hK' K'
    refine AW_ret ?_
    simp [D.le, D.le.go, takeMap, cTb, h]
set_option maxHeartbeats 1000000 in
theorem rcheck2_spec (G : Glob) (t : Tb) (p : Int × Bool) : PureC Tryd.prog G 19 [dPt p, .ip (cTb t)] (.v (.bool (decide (p.1 < 0) || decide (p.1 ≥ t.pts)))) := by
  obtain ⟨n, o⟩ := p
  simp only [dPt, cPt]
  refine PureC.of_body (tyOf_good _) Tryd.func19 rfl rfl (rs := [.tmp 3]) Tryd.results19 (by simp [Tryd.ntmps19]) fun X => ?_
  simp only [Tryd.ntmps19, List.map]
  by_cases h : n < 0
  · refine AW_rg (tyOf_good _) [1, 2] [2] (fun _ _ => trivial) fun K' hK' => ?_
    repeat (refine sxf_next fun K2 hK2 => ?_; simp [cTb]; (repeat (refine ⟨by omega, ?_⟩)); refine hK2 _ ?_; clear hK2 K2)
    refine sxf_nil (hK' _ ?_)
    refine AW.st (by simp [cTb]; rfl) ?_
    clear hK' K'
    refine AW_rg (tyOf_good _) [3] [2] (fun _ _ => trivial) fun K' hK' => ?_
    repeat (refine sxf_next fun K2 hK2 => ?_; simp [cTb, h]; (repeat (refine ⟨by omega, ?_⟩)); refine hK2 _ ?_; clear hK2 K2)
    refine sxf_nil (hK' _ ?_)
    refine AW.st (by simp [cTb, h]; rfl) ?_
    clear hK' K'
    refine AW_ret ?_
    simp [D.le, D.le.go, takeMap, cTb, h]
  · refine AW_rg (tyOf_good _) [1, 2] [2] (fun _ _ => trivial) fun K' hK' => ?_
    repeat (refine sxf_next fun K2 hK2 => ?_; simp [cTb]; (repeat (refine ⟨by omega, ?_⟩)); refine hK2 _ ?_; clear hK2 K2)
    refine sxf_nil (hK' _ ?_)
    refine AW.st (by simp [cTb]; rfl) ?_
    clear hK' K'
    refine AW_rg (tyOf_good _) [3] [2] (fun _ _ => trivial) fun K' hK' => ?_
    repeat (refine sxf_next fun K2 hK2 => ?_; simp [cTb, h]; (repeat (refine ⟨by omega, ?_⟩)); refine hK2 _ ?_; clear hK2 K2)
    refine sxf_nil (hK' _ ?_)
    refine AW.st (by simp [cTb, h]; rfl) ?_
    clear hK' K'
    refine AW_ret ?_
    simp [D.le, D.le.go, takeMap, cTb, h]

/-- Small tables: no list is long. -/
def SmallT (t : Tb) : Prop := t.rts.length < 2^62 ∧ ∀ r ∈ t.rts, SmallR r
set_option maxHeartbeats 8000000 in
theorem rcheck_spec (G : Glob) (t : Tb) (ht : SmallT t) : PureC Tryd.prog G 7 [dTb t] (dErr (checkT t)) := by
  obtain ⟨S, P, rts⟩ := t
  obtain ⟨hl, hsr⟩ := ht
  dsimp only at hl hsr
  have hr2 : checkT ⟨S, P, rts⟩ = if limT S P rts.length then some (4, none) else firstE (badR 8 2 9 S P) rts 0 := rfl
  generalize hres : checkT ⟨S, P, rts⟩ = res
  rw [hr2] at hres
  have hk1 := fun s => rcheck1_spec G ⟨S, P, rts⟩ s
  have hk2 := fun p => rcheck2_spec G ⟨S, P, rts⟩ p
  simp only [cTb, dRts] at hk1 hk2
  refine PureC.of_body (tyOf_good _) Tryd.func7 rfl rfl (rs := [.tmp 2]) Tryd.results7 (by simp [Tryd.ntmps7]) fun X => ?_
  simp only [Tryd.ntmps7, List.map]
  refine AW_rg (tyOf_good _) [1] [1] (fun _ _ => trivial) fun K' hK' => ?_
  repeat (refine sxf_next fun K2 hK2 => ?_; simp [dTb, cTb, dRts]; (repeat (refine ⟨by omega, ?_⟩)); refine hK2 _ ?_; clear hK2 K2)
  refine sxf_nil (hK' _ ?_)
  refine AW.st (by simp [dTb, cTb, dRts]; rfl) ?_
  clear hK' K'
  refine AW.imp (Imp.freezeB 1 trivial) ?_
  refine AW.st (by simp [dTb, cTb, dRts]; rfl) ?_
  refine AW_then fun K1 hK1 => ?_
  by_cases g0 : S < 1
  · rw [if_pos (.inl (by omega))] at hres
    refine AW_rg (tyOf_good _) [1, 35] [] (fun _ _ => trivial) fun K' hK' => ?_
    repeat (refine sxf_next fun K2 hK2 => ?_; simp [dTb, cTb, dRts, g0]; (repeat (refine ⟨by omega, ?_⟩)); refine hK2 _ ?_; clear hK2 K2)
    refine sxf_nil (hK' _ ?_)
    refine AW.st (by simp [dTb, cTb, dRts, g0]; rfl) ?_
    clear hK' K'
    refine AW_cond true rfl (fun _ => ?_) (fun h => by cases h)
    refine AW_rg (tyOf_good _) [2] [] (fun _ _ => trivial) fun K' hK' => ?_
    repeat (refine sxf_next fun K2 hK2 => ?_; simp [dTb, cTb, dRts]; (repeat (refine ⟨by omega, ?_⟩)); refine hK2 _ ?_; clear hK2 K2)
    refine sxf_nil (hK' _ ?_)
    refine AW.st (by simp [dTb, cTb, dRts]; rfl) ?_
    clear hK' K'
    refine AW_ret ?_
    simp [D.le, D.le.go, takeMap, dTb, cTb, dRts]
    simp [← hres, dErr, D.le]
  by_cases g1 : S > 3
  · rw [if_pos (.inr (.inl (by omega)))] at hres
    refine AW_rg (tyOf_good _) [1, 35] [] (fun _ _ => trivial) fun K' hK' => ?_
    repeat (refine sxf_next fun K2 hK2 => ?_; simp [dTb, cTb, dRts, g0, g1]; (repeat (refine ⟨by omega, ?_⟩)); refine hK2 _ ?_; clear hK2 K2)
    refine sxf_nil (hK' _ ?_)
    refine AW.st (by simp [dTb, cTb, dRts, g0, g1]; rfl) ?_
    clear hK' K'
    refine AW_cond true rfl (fun _ => ?_) (fun h => by cases h)
    refine AW_rg (tyOf_good _) [2] [] (fun _ _ => trivial) fun K' hK' => ?_
    repeat (refine sxf_next fun K2 hK2 => ?_; simp [dTb, cTb, dRts]; (repeat (refine ⟨by omega, ?_⟩)); refine hK2 _ ?_; clear hK2 K2)
    refine sxf_nil (hK' _ ?_)
    refine AW.st (by simp [dTb, cTb, dRts]; rfl) ?_
    clear hK' K'
    refine AW_ret ?_
    simp [D.le, D.le.go, takeMap, dTb, cTb, dRts]
    simp [← hres, dErr, D.le]
  by_cases g2 : P < 0
  · rw [if_pos (.inr (.inr (.inl (by omega))))] at hres
    refine AW_rg (tyOf_good _) [1, 35] [] (fun _ _ => trivial) fun K' hK' => ?_
    repeat (refine sxf_next fun K2 hK2 => ?_; simp [dTb, cTb, dRts, g0, g1, g2]; (repeat (refine ⟨by omega, ?_⟩)); refine hK2 _ ?_; clear hK2 K2)
    refine sxf_nil (hK' _ ?_)
    refine AW.st (by simp [dTb, cTb, dRts, g0, g1, g2]; rfl) ?_
    clear hK' K'
    refine AW_cond true rfl (fun _ => ?_) (fun h => by cases h)
    refine AW_rg (tyOf_good _) [2] [] (fun _ _ => trivial) fun K' hK' => ?_
    repeat (refine sxf_next fun K2 hK2 => ?_; simp [dTb, cTb, dRts]; (repeat (refine ⟨by omega, ?_⟩)); refine hK2 _ ?_; clear hK2 K2)
    refine sxf_nil (hK' _ ?_)
    refine AW.st (by simp [dTb, cTb, dRts]; rfl) ?_
    clear hK' K'
    refine AW_ret ?_
    simp [D.le, D.le.go, takeMap, dTb, cTb, dRts]
    simp [← hres, dErr, D.le]
  by_cases g3 : P > 2
  · rw [if_pos (.inr (.inr (.inr (.inl (by omega)))))] at hres
    refine AW_rg (tyOf_good _) [1, 35] [] (fun _ _ => trivial) fun K' hK' => ?_
    repeat (refine sxf_next fun K2 hK2 => ?_; simp [dTb, cTb, dRts, g0, g1, g2, g3]; (repeat (refine ⟨by omega, ?_⟩)); refine hK2 _ ?_; clear hK2 K2)
    refine sxf_nil (hK' _ ?_)
    refine AW.st (by simp [dTb, cTb, dRts, g0, g1, g2, g3]; rfl) ?_
    clear hK' K'
    refine AW_cond true rfl (fun _ => ?_) (fun h => by cases h)
    refine AW_rg (tyOf_good _) [2] [] (fun _ _ => trivial) fun K' hK' => ?_
    repeat (refine sxf_next fun K2 hK2 => ?_; simp [dTb, cTb, dRts]; (repeat (refine ⟨by omega, ?_⟩)); refine hK2 _ ?_; clear hK2 K2)
    refine sxf_nil (hK' _ ?_)
    refine AW.st (by simp [dTb, cTb, dRts]; rfl) ?_
    clear hK' K'
    refine AW_ret ?_
    simp [D.le, D.le.go, takeMap, dTb, cTb, dRts]
    simp [← hres, dErr, D.le]
  by_cases g4 : (rts.length : Int) < 1
  · rw [if_pos (.inr (.inr (.inr (.inr (.inl (by omega))))))] at hres
    refine AW_rg (tyOf_good _) [1, 35] [] (fun _ _ => trivial) fun K' hK' => ?_
    repeat (refine sxf_next fun K2 hK2 => ?_; simp [dTb, cTb, dRts, g0, g1, g2, g3, g4]; (repeat (refine ⟨by omega, ?_⟩)); refine hK2 _ ?_; clear hK2 K2)
    refine sxf_nil (hK' _ ?_)
    refine AW.st (by simp [dTb, cTb, dRts, g0, g1, g2, g3, g4]; rfl) ?_
    clear hK' K'
    refine AW_cond true rfl (fun _ => ?_) (fun h => by cases h)
    refine AW_rg (tyOf_good _) [2] [] (fun _ _ => trivial) fun K' hK' => ?_
    repeat (refine sxf_next fun K2 hK2 => ?_; simp [dTb, cTb, dRts]; (repeat (refine ⟨by omega, ?_⟩)); refine hK2 _ ?_; clear hK2 K2)
    refine sxf_nil (hK' _ ?_)
    refine AW.st (by simp [dTb, cTb, dRts]; rfl) ?_
    clear hK' K'
    refine AW_ret ?_
    simp [D.le, D.le.go, takeMap, dTb, cTb, dRts]
    simp [← hres, dErr, D.le]
  by_cases g5 : (rts.length : Int) > 3
  · rw [if_pos (.inr (.inr (.inr (.inr (.inr (by omega))))))] at hres
    refine AW_rg (tyOf_good _) [1, 35] [] (fun _ _ => trivial) fun K' hK' => ?_
    repeat (refine sxf_next fun K2 hK2 => ?_; simp [dTb, cTb, dRts, g0, g1, g2, g3, g4, g5]; (repeat (refine ⟨by omega, ?_⟩)); refine hK2 _ ?_; clear hK2 K2)
    refine sxf_nil (hK' _ ?_)
    refine AW.st (by simp [dTb, cTb, dRts, g0, g1, g2, g3, g4, g5]; rfl) ?_
    clear hK' K'
    refine AW_cond true rfl (fun _ => ?_) (fun h => by cases h)
    refine AW_rg (tyOf_good _) [2] [] (fun _ _ => trivial) fun K' hK' => ?_
    repeat (refine sxf_next fun K2 hK2 => ?_; simp [dTb, cTb, dRts]; (repeat (refine ⟨by omega, ?_⟩)); refine hK2 _ ?_; clear hK2 K2)
    refine sxf_nil (hK' _ ?_)
    refine AW.st (by simp [dTb, cTb, dRts]; rfl) ?_
    clear hK' K'
    refine AW_ret ?_
    simp [D.le, D.le.go, takeMap, dTb, cTb, dRts]
    simp [← hres, dErr, D.le]
  rw [if_neg (by unfold limT; omega)] at hres
  refine AW_rg (tyOf_good _) [1, 35] [] (fun _ _ => trivial) fun K' hK' => ?_
  repeat (refine sxf_next fun K2 hK2 => ?_; simp [dTb, cTb, dRts, g0, g1, g2, g3, g4, g5]; (repeat (refine ⟨by omega, ?_⟩)); refine hK2 _ ?_; clear hK2 K2)
  refine sxf_nil (hK' _ ?_)
  refine AW.st (by simp [dTb, cTb, dRts, g0, g1, g2, g3, g4, g5]; rfl) ?_
  clear hK' K'
  refine AW_cond false rfl (fun h => by cases h) (fun _ => ?_)
  refine AW_skip (hK1 _ ?_)
  refine AW_then fun K2 hK2 => ?_
  refine AW_rg (tyOf_good _) [1, 38, 39, 40] [] (fun _ _ => trivial) fun K' hK' => ?_
  repeat (refine sxf_next fun K2 hK2 => ?_; simp [dTb, cTb, dRts]; (repeat (refine ⟨by omega, ?_⟩)); refine hK2 _ ?_; clear hK2 K2)
  refine sxf_nil (hK' _ ?_)
  refine AW.st (by simp [dTb, cTb, dRts]; rfl) ?_
  clear hK' K'
  refine AW_for (S := Nat) (fun n => n ≤ rts.length ∧ ∀ k (hk : k < rts.length), k < n → badR 8 2 9 S P rts[k] = 0) (fun n => ⟨lst [(1, .d (.ip [.v (.int .i64 S), .v (.int .i64 P), .sl none (rts.map cRt)])), (38, .d (.sl none (rts.map cRt))), (39, int rts.length), (40, int n)], hlst []⟩) (fun n => rts.length - n) 0 ?_ (by simp) ?_
  · refine Imp.to' (fun _ _ => trivial) (by simp [dTb, cTb, dRts]) (by simp [dTb, cTb, dRts])
  · rintro n ⟨hn, hb⟩
    refine AW_rg (tyOf_good _) [1, 38, 39, 40, 41] [] (fun _ _ => trivial) fun K' hK' => ?_
    repeat (refine sxf_next fun K2 hK2 => ?_; simp [dTb, cTb, dRts]; (repeat (refine ⟨by omega, ?_⟩)); refine hK2 _ ?_; clear hK2 K2)
    refine sxf_nil (hK' _ ?_)
    refine AW.st (by simp [dTb, cTb, dRts]; rfl) ?_
    clear hK' K'
    refine AW_then fun K3 hK3 => ?_
    refine AW_cond' (b := n < rts.length) (by simp [D.le, D.le.go, takeMap, dTb, cTb, dRts]) (fun hc => ?_) (fun hc => ?_)
    · have hlt := hc
      have hsm := hsr rts[n] (by simp)
      have hbad : badR 8 2 9 S P rts[n] = if rts[n].1 = [] then 8 else if (rts[n].1.any fun s => decide (s < 0) || decide (s ≥ S)) || (rts[n].2.any fun p => decide (p.1 < 0) || decide (p.1 ≥ P)) then 2 else if twiceF rts[n] then 9 else 0 := rfl
      have hgo : badR 8 2 9 S P rts[n] ≠ 0 → res = some (badR 8 2 9 S P rts[n], some n) := fun hne => by rw [← hres, firstE_at hlt (fun k hk hkn => hb k hk hkn) hne]; simp
      have h16 := containsInt_spec G none (fun x : Int => D.v (.int .i64 x)) rts[n].1 17 [.ip [.v (.int .i64 S), .v (.int .i64 P), .sl none (rts.map cRt)]] (fun s => decide (s < 0) || decide (s ≥ S)) (by have := hsm.1; omega) fun s _ => hk1 s
      have h18 := containsPt_spec G none rts[n].2 19 [.ip [.v (.int .i64 S), .v (.int .i64 P), .sl none (rts.map cRt)]] (fun p => decide (p.1 < 0) || decide (p.1 ≥ P)) hsm.2 fun p _ => hk2 p
      have h20 := twice_spec G rts[n] hsm
      simp only [dRt, cRt, dPts, dRow_eq] at h20
      refine AW_skip (hK3 _ ?_)
      refine AW_then fun K4 hK4 => ?_
      refine AW_block ?_
      refine AW_rg (tyOf_good _) [1, 3, 4, 38, 39, 40] [4] (fun _ _ => trivial) fun K' hK' => ?_
      repeat (refine sxf_next fun K2 hK2 => ?_; simp [dTb, cTb, dRts, hc, cRt, dPts, dRow_eq]; (repeat (refine ⟨by omega, ?_⟩)); refine hK2 _ ?_; clear hK2 K2)
      refine sxf_nil (hK' _ ?_)
      refine AW.st (by simp [dTb, cTb, dRts, hc, cRt, dPts, dRow_eq]; rfl) ?_
      clear hK' K'
      refine AW_rg (tyOf_good _) [1, 3, 4, 5, 38, 39, 40] [4] (fun _ _ => trivial) fun K' hK' => ?_
      repeat (refine sxf_next fun K2 hK2 => ?_; simp [dTb, cTb, dRts]; (repeat (refine ⟨by omega, ?_⟩)); refine hK2 _ ?_; clear hK2 K2)
      refine sxf_nil (hK' _ ?_)
      refine AW.st (by simp [dTb, cTb, dRts]; rfl) ?_
      clear hK' K'
      refine AW_then fun K5 hK5 => ?_
      generalize hv : badR 8 2 9 S P rts[n] = v at hbad hgo
      refine' lateR (fun hrest => ?_) ?_
      rotate_left
      · refine AW_block ?_
        by_cases c0 : rts[n].1 = []
        · rw [if_pos c0] at hbad
          refine AW_rg (tyOf_good _) [1, 3, 4, 5, 38, 39, 40, 45] [4] (fun _ _ => trivial) fun K' hK' => ?_
          repeat (refine sxf_next fun K2 hK2 => ?_; simp [dTb, cTb, dRts, c0]; (repeat (refine ⟨by omega, ?_⟩)); refine hK2 _ ?_; clear hK2 K2)
          refine sxf_nil (hK' _ ?_)
          refine AW.st (by simp [dTb, cTb, dRts, c0]; rfl) ?_
          clear hK' K'
          refine AW_cond true rfl (fun _ => ?_) (fun h => by cases h)
          refine AW_re (tyOf_good _) fun K' hK' => ?_
          repeat (refine sxf_next fun K2 hK2 => ?_; simp [dTb, cTb, dRts]; (repeat (refine ⟨by omega, ?_⟩)); refine hK2 _ ?_; clear hK2 K2)
          refine sxf_nil (hK' _ ?_)
          clear hK' K'
          refine hK5 _ (AW.norm [1, 3, 5, 38, 39, 40] [] (fun _ _ => trivial) (AW.st (by simp [dTb, cTb, dRts]; rfl) ?_))
          refine AW.st (show _ = (⟨lst [(1, .d (.ip [.v (.int .i64 S), .v (.int .i64 P), .sl none (rts.map cRt)])), (3, int n), (5, int v), (38, .d (.sl none (rts.map cRt))), (39, int rts.length), (40, int n)], hlst []⟩ : St) by rw [hbad] <;> rfl) ?_
          exact hrest.out
        · rw [if_neg c0] at hbad
          have c0' : ¬ ((rts[n].1.length : Int) = 0) := by simpa using c0
          refine AW_rg (tyOf_good _) [1, 3, 4, 5, 38, 39, 40, 45] [4] (fun _ _ => trivial) fun K' hK' => ?_
          repeat (refine sxf_next fun K2 hK2 => ?_; simp [dTb, cTb, dRts, c0', c0]; (repeat (refine ⟨by omega, ?_⟩)); refine hK2 _ ?_; clear hK2 K2)
          refine sxf_nil (hK' _ ?_)
          refine AW.st (by simp [dTb, cTb, dRts, c0', c0]; rfl) ?_
          clear hK' K'
          refine AW_cond false rfl (fun h => by cases h) (fun _ => ?_)
          refine AW_then fun K6 hK6 => ?_
          generalize (rts[n].1.any fun s => decide (s < 0) || decide (s ≥ S)) = b1 at h16 hbad
          generalize (rts[n].2.any fun p => decide (p.1 < 0) || decide (p.1 ≥ P)) = b2 at h18 hbad
          generalize hbo : (b1 || b2) = bo at hbad
          refine' lateR (fun hrest2 => ?_) ?_
          rotate_left
          · cases b1 with
            | true =>
              refine AW_rg (tyOf_good _) [1, 3, 4, 5, 38, 39, 40, 50] [4] (fun _ _ => trivial) fun K' hK' => ?_
              repeat (refine sxf_next fun K2 hK2 => ?_; simp [dTb, cTb, dRts]; (repeat (refine ⟨by omega, ?_⟩)); refine hK2 _ ?_; clear hK2 K2)
              refine sxf_next fun K2 hK2 => ?_
              simp [dTb, cTb, dRts]
              refine callK.data (h16) (by simp; rfl) (by first | exact D.leGo_refl _ | simp [takeMap, List.map_map, Function.comp_def, D.le, D.le.go, D.le_refl, D.leGo_refl, dTb, cTb, dRts]) ?_
              refine hK2 _ ?_
              clear hK2 K2
              simp only [putd, upd_lst]
              repeat (refine sxf_next fun K2 hK2 => ?_; simp [dTb, cTb, dRts]; (repeat (refine ⟨by omega, ?_⟩)); refine hK2 _ ?_; clear hK2 K2)
              refine sxf_nil (hK' _ ?_)
              refine AW.st (by simp [dTb, cTb, dRts]; rfl) ?_
              clear hK' K'
              refine AW_cond true rfl (fun _ => ?_) (fun h => by cases h)
              refine AW_skip ?_
              refine hK6 _ (AW.norm [1, 3, 4, 5, 38, 39, 40, 50] [4] (fun _ _ => trivial) (AW.st (by simp [dTb, cTb, dRts]; rfl) ?_))
              refine AW.st (show _ = (⟨lst [(1, .d (.ip [.v (.int .i64 S), .v (.int .i64 P), .sl none (rts.map cRt)])), (3, int n), (4, .ref 4 0 0), (5, int 0), (38, .d (.sl none (rts.map cRt))), (39, int rts.length), (40, int n), (50, .d (.v (.bool bo)))], hlst [(4, .box 42 [.d (.sl none (rts[n].1.map fun x => [.v (.int .i64 x)])), .d (.sl none (rts[n].2.map cPt))])]⟩ : St) by rw [← hbo] <;> rfl) ?_
              exact hrest2.out
            | false =>
              refine AW_rg (tyOf_good _) [1, 3, 4, 5, 38, 39, 40, 50] [4] (fun _ _ => trivial) fun K' hK' => ?_
              repeat (refine sxf_next fun K2 hK2 => ?_; simp [dTb, cTb, dRts]; (repeat (refine ⟨by omega, ?_⟩)); refine hK2 _ ?_; clear hK2 K2)
              refine sxf_next fun K2 hK2 => ?_
              simp [dTb, cTb, dRts]
              refine callK.data (h16) (by simp; rfl) (by first | exact D.leGo_refl _ | simp [takeMap, List.map_map, Function.comp_def, D.le, D.le.go, D.le_refl, D.leGo_refl, dTb, cTb, dRts]) ?_
              refine hK2 _ ?_
              clear hK2 K2
              simp only [putd, upd_lst]
              repeat (refine sxf_next fun K2 hK2 => ?_; simp [dTb, cTb, dRts]; (repeat (refine ⟨by omega, ?_⟩)); refine hK2 _ ?_; clear hK2 K2)
              refine sxf_nil (hK' _ ?_)
              refine AW.st (by simp [dTb, cTb, dRts]; rfl) ?_
              clear hK' K'
              refine AW_cond false rfl (fun h => by cases h) (fun _ => ?_)
              refine AW_re (tyOf_good _) fun K' hK' => ?_
              repeat (refine sxf_next fun K2 hK2 => ?_; simp [dTb, cTb, dRts]; (repeat (refine ⟨by omega, ?_⟩)); refine hK2 _ ?_; clear hK2 K2)
              refine sxf_next fun K2 hK2 => ?_
              simp [dTb, cTb, dRts]
              refine callK.data (h18) (by simp; rfl) (by first | exact D.leGo_refl _ | simp [takeMap, List.map_map, Function.comp_def, D.le, D.le.go, D.le_refl, D.leGo_refl, dTb, cTb, dRts]) ?_
              refine hK2 _ ?_
              clear hK2 K2
              simp only [putd, upd_lst]
              repeat (refine sxf_next fun K2 hK2 => ?_; simp [dTb, cTb, dRts]; (repeat (refine ⟨by omega, ?_⟩)); refine hK2 _ ?_; clear hK2 K2)
              refine sxf_nil (hK' _ ?_)
              clear hK' K'
              refine hK6 _ (AW.norm [1, 3, 4, 5, 38, 39, 40, 50] [4] (fun _ _ => trivial) (AW.st (by simp [dTb, cTb, dRts]; rfl) ?_))
              refine AW.st (show _ = (⟨lst [(1, .d (.ip [.v (.int .i64 S), .v (.int .i64 P), .sl none (rts.map cRt)])), (3, int n), (4, .ref 4 0 0), (5, int 0), (38, .d (.sl none (rts.map cRt))), (39, int rts.length), (40, int n), (50, .d (.v (.bool bo)))], hlst [(4, .box 42 [.d (.sl none (rts[n].1.map fun x => [.v (.int .i64 x)])), .d (.sl none (rts[n].2.map cPt))])]⟩ : St) by rw [← hbo] <;> rfl) ?_
              exact hrest2.out
          · cases bo with
            | true =>
              rw [if_pos rfl] at hbad
              refine AW_cond true rfl (fun _ => ?_) (fun h => by cases h)
              refine AW_re (tyOf_good _) fun K' hK' => ?_
              repeat (refine sxf_next fun K2 hK2 => ?_; simp [dTb, cTb, dRts]; (repeat (refine ⟨by omega, ?_⟩)); refine hK2 _ ?_; clear hK2 K2)
              refine sxf_nil (hK' _ ?_)
              clear hK' K'
              refine hK5 _ (AW.norm [1, 3, 5, 38, 39, 40] [] (fun _ _ => trivial) (AW.st (by simp [dTb, cTb, dRts]; rfl) ?_))
              refine AW.st (show _ = (⟨lst [(1, .d (.ip [.v (.int .i64 S), .v (.int .i64 P), .sl none (rts.map cRt)])), (3, int n), (5, int v), (38, .d (.sl none (rts.map cRt))), (39, int rts.length), (40, int n)], hlst []⟩ : St) by rw [hbad] <;> rfl) ?_
              exact hrest.out
            | false =>
              rw [if_neg (by decide)] at hbad
              refine AW_cond false rfl (fun h => by cases h) (fun _ => ?_)
              refine AW_rg (tyOf_good _) [1, 3, 5, 38, 39, 40, 59] [] (fun _ _ => trivial) fun K' hK' => ?_
              repeat (refine sxf_next fun K2 hK2 => ?_; simp [dTb, cTb, dRts]; (repeat (refine ⟨by omega, ?_⟩)); refine hK2 _ ?_; clear hK2 K2)
              refine sxf_next fun K2 hK2 => ?_
              simp [dTb, cTb, dRts]
              refine callK.data (h20) (by simp; rfl) (by first | exact D.leGo_refl _ | simp [takeMap, List.map_map, Function.comp_def, D.le, D.le.go, D.le_refl, D.leGo_refl, dTb, cTb, dRts]) ?_
              refine hK2 _ ?_
              clear hK2 K2
              simp only [putd, upd_lst]
              repeat (refine sxf_next fun K2 hK2 => ?_; simp [dTb, cTb, dRts]; (repeat (refine ⟨by omega, ?_⟩)); refine hK2 _ ?_; clear hK2 K2)
              refine sxf_nil (hK' _ ?_)
              refine AW.st (by simp [dTb, cTb, dRts]; rfl) ?_
              clear hK' K'
              generalize twiceF rts[n] = b3 at hbad
              cases b3 with
              | true =>
                rw [if_pos rfl] at hbad
                refine AW_cond true rfl (fun _ => ?_) (fun h => by cases h)
                refine AW_re (tyOf_good _) fun K' hK' => ?_
                repeat (refine sxf_next fun K2 hK2 => ?_; simp [dTb, cTb, dRts]; (repeat (refine ⟨by omega, ?_⟩)); refine hK2 _ ?_; clear hK2 K2)
                refine sxf_nil (hK' _ ?_)
                clear hK' K'
                refine hK5 _ (AW.norm [1, 3, 5, 38, 39, 40] [] (fun _ _ => trivial) (AW.st (by simp [dTb, cTb, dRts]; rfl) ?_))
                refine AW.st (show _ = (⟨lst [(1, .d (.ip [.v (.int .i64 S), .v (.int .i64 P), .sl none (rts.map cRt)])), (3, int n), (5, int v), (38, .d (.sl none (rts.map cRt))), (39, int rts.length), (40, int n)], hlst []⟩ : St) by rw [hbad] <;> rfl) ?_
                exact hrest.out
              | false =>
                rw [if_neg (by decide)] at hbad
                refine AW_cond false rfl (fun h => by cases h) (fun _ => ?_)
                refine AW_skip ?_
                refine hK5 _ (AW.norm [1, 3, 5, 38, 39, 40] [] (fun _ _ => trivial) (AW.st (by simp [dTb, cTb, dRts]; rfl) ?_))
                refine AW.st (show _ = (⟨lst [(1, .d (.ip [.v (.int .i64 S), .v (.int .i64 P), .sl none (rts.map cRt)])), (3, int n), (5, int v), (38, .d (.sl none (rts.map cRt))), (39, int rts.length), (40, int n)], hlst []⟩ : St) by rw [hbad] <;> rfl) ?_
                exact hrest.out
      · by_cases hv0 : v = 0
        · refine AW_rg (tyOf_good _) [1, 3, 5, 38, 39, 40, 63] [] (fun _ _ => trivial) fun K' hK' => ?_
          repeat (refine sxf_next fun K2 hK2 => ?_; simp [dTb, cTb, dRts, hv0]; (repeat (refine ⟨by omega, ?_⟩)); refine hK2 _ ?_; clear hK2 K2)
          refine sxf_nil (hK' _ ?_)
          refine AW.st (by simp [dTb, cTb, dRts, hv0]; rfl) ?_
          clear hK' K'
          refine AW_cond false rfl (fun h => by cases h) (fun _ => ?_)
          refine AW_skip ?_
          refine hK4 _ ?_
          refine AW_re (tyOf_good _) fun K' hK' => ?_
          repeat (refine sxf_next fun K2 hK2 => ?_; simp [dTb, cTb, dRts]; (repeat (refine ⟨by omega, ?_⟩)); refine hK2 _ ?_; clear hK2 K2)
          refine sxf_nil (hK' _ ?_)
          clear hK' K'
          try simp only [thn, inb]
          refine Again.mk (n + 1) ⟨by omega, fun k hk hkn => ?_⟩ (by omega) ?_
          · by_cases h : k = n
            · subst h; rw [hv, hv0]
            · exact hb k hk (by omega)
          refine Imp.to' (fun _ _ => trivial) (by simp [dTb, cTb, dRts]) (by simp [dTb, cTb, dRts])
        · refine AW_rg (tyOf_good _) [1, 3, 5, 38, 39, 40, 63] [] (fun _ _ => trivial) fun K' hK' => ?_
          repeat (refine sxf_next fun K2 hK2 => ?_; simp [dTb, cTb, dRts, hv0]; (repeat (refine ⟨by omega, ?_⟩)); refine hK2 _ ?_; clear hK2 K2)
          refine sxf_nil (hK' _ ?_)
          refine AW.st (by simp [dTb, cTb, dRts, hv0]; rfl) ?_
          clear hK' K'
          refine AW_cond true rfl (fun _ => ?_) (fun h => by cases h)
          refine AW_rg (tyOf_good _) [2] [67] (fun _ _ => trivial) fun K' hK' => ?_
          repeat (refine sxf_next fun K2 hK2 => ?_; simp [dTb, cTb, dRts]; (repeat (refine ⟨by omega, ?_⟩)); refine hK2 _ ?_; clear hK2 K2)
          refine sxf_nil (hK' _ ?_)
          refine AW.st (by simp [dTb, cTb, dRts]; rfl) ?_
          clear hK' K'
          refine AW_ret ?_
          simp [D.le, D.le.go, takeMap, dTb, cTb, dRts]
          simp [hgo hv0, dErr, D.le, D.le.go]
    · refine AW_exit (hK2 _ ?_)
      refine AW_rg (tyOf_good _) [2] [] (fun _ _ => trivial) fun K' hK' => ?_
      repeat (refine sxf_next fun K2 hK2 => ?_; simp [dTb, cTb, dRts]; (repeat (refine ⟨by omega, ?_⟩)); refine hK2 _ ?_; clear hK2 K2)
      refine sxf_nil (hK' _ ?_)
      refine AW.st (by simp [dTb, cTb, dRts]; rfl) ?_
      clear hK' K'
      refine AW_ret ?_
      simp [D.le, D.le.go, takeMap, dTb, cTb, dRts]
      rw [firstE_none fun k hk => hb k hk (by omega)] at hres
      simp [← hres, dErr]
end Go.Proofs.YtnlhioeefmhklaaDoor
