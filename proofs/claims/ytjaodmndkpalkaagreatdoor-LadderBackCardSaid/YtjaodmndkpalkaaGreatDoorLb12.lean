/-
  Texts that belong together, in one file: Ty, F2.
-/
import Derived.Test.YtjaodmndkpalkaaGreatDoorLb11
import Derived.Test.YtjaodmndkpalkaaGreatDoorProg
set_option linter.unusedSimpArgs false
set_option linter.unusedVariables false
namespace Go.Proofs.YtjaodmndkpalkaaGreatDoor
open Go.Av
@[simp] theorem ty0 : tyOf Tryz.prog 0 = some ⟨.tuple #[], 1, 0, .tuple #[], peOf Tryz.prog 0⟩ := by kernel_rfl
@[simp] theorem ty1 : tyOf Tryz.prog 1 = some ⟨.func #[] #[] false, 1, 8, .nilFunc, peOf Tryz.prog 1⟩ := by kernel_rfl
@[simp] theorem ty2 : tyOf Tryz.prog 2 = some ⟨.int .i64, 1, 8, .int .i64 0, peOf Tryz.prog 2⟩ := by kernel_rfl
@[simp] theorem ty3 : tyOf Tryz.prog 3 = some ⟨.int .i64, 1, 8, .int .i64 0, peOf Tryz.prog 3⟩ := by kernel_rfl
@[simp] theorem ty4 : tyOf Tryz.prog 4 = some ⟨.bool, 1, 1, .bool false, peOf Tryz.prog 4⟩ := by kernel_rfl
@[simp] theorem ty5 : tyOf Tryz.prog 5 = some ⟨.int .u8, 1, 1, .int .u8 0, peOf Tryz.prog 5⟩ := by kernel_rfl
@[simp] theorem ty7 : tyOf Tryz.prog 7 = some ⟨.struct #[{ name := "x", type := 2, offset := 0, embedded := false, tag := "", pkgPath := "runtime", byteOffset := 0 }, { name := "y", type := 3, offset := 1, embedded := false, tag := "", pkgPath := "runtime", byteOffset := 8 }, { name := "signed", type := 4, offset := 2, embedded := false, tag := "", pkgPath := "runtime", byteOffset := 16 }, { name := "code", type := 6, offset := 3, embedded := false, tag := "", pkgPath := "runtime", byteOffset := 17 }], 4, 24, .agg #[.int .i64 0, .int .i64 0, .bool false, .int .u8 0], peOf Tryz.prog 7⟩ := by kernel_rfl
@[simp] theorem ty9 : tyOf Tryz.prog 9 = some ⟨.string, 1, 16, .string ⟨#[]⟩, peOf Tryz.prog 9⟩ := by kernel_rfl
@[simp] theorem ty12 : tyOf Tryz.prog 12 = some ⟨.int .u64, 1, 8, .int .u64 0, peOf Tryz.prog 12⟩ := by kernel_rfl
@[simp] theorem ty13 : tyOf Tryz.prog 13 = some ⟨.struct #[{ name := "msg", type := 9, offset := 0, embedded := false, tag := "", pkgPath := "runtime", byteOffset := 0 }, { name := "addr", type := 12, offset := 1, embedded := false, tag := "", pkgPath := "runtime", byteOffset := 16 }], 2, 24, .agg #[.string ⟨#[]⟩, .int .u64 0], peOf Tryz.prog 13⟩ := by kernel_rfl
@[simp] theorem ty15 : tyOf Tryz.prog 15 = some ⟨.pointer 392, 1, 8, .pointer none, peOf Tryz.prog 15⟩ := by kernel_rfl
@[simp] theorem ty16 : tyOf Tryz.prog 16 = some ⟨.pointer 395, 1, 8, .pointer none, peOf Tryz.prog 16⟩ := by kernel_rfl
@[simp] theorem ty17 : tyOf Tryz.prog 17 = some ⟨.pointer 403, 1, 8, .pointer none, peOf Tryz.prog 17⟩ := by kernel_rfl
@[simp] theorem ty18 : tyOf Tryz.prog 18 = some ⟨.struct #[{ name := "typ", type := 17, offset := 0, embedded := false, tag := "", pkgPath := "internal/runtime/maps", byteOffset := 0 }], 1, 8, .agg #[.pointer none], peOf Tryz.prog 18⟩ := by kernel_rfl
@[simp] theorem ty20 : tyOf Tryz.prog 20 = some ⟨.interface #[], 1, 16, .nilIface, peOf Tryz.prog 20⟩ := by kernel_rfl
@[simp] theorem ty21 : tyOf Tryz.prog 21 = some ⟨.int .i32, 1, 4, .int .i32 0, peOf Tryz.prog 21⟩ := by kernel_rfl
@[simp] theorem ty22 : tyOf Tryz.prog 22 = some ⟨.slice 121, 1, 24, .slice none 0 0, peOf Tryz.prog 22⟩ := by kernel_rfl
@[simp] theorem ty23 : tyOf Tryz.prog 23 = some ⟨.struct #[{ name := "Sections", type := 3, offset := 0, embedded := false, tag := "", pkgPath := "", byteOffset := 0 }, { name := "Points", type := 3, offset := 1, embedded := false, tag := "", pkgPath := "", byteOffset := 8 }, { name := "Routes", type := 22, offset := 2, embedded := false, tag := "", pkgPath := "", byteOffset := 16 }], 3, 40, .agg #[.int .i64 0, .int .i64 0, .slice none 0 0], peOf Tryz.prog 23⟩ := by kernel_rfl
@[simp] theorem ty24 : tyOf Tryz.prog 24 = some ⟨.struct #[{ name := "Sections", type := 3, offset := 0, embedded := false, tag := "", pkgPath := "", byteOffset := 0 }, { name := "Points", type := 3, offset := 1, embedded := false, tag := "", pkgPath := "", byteOffset := 8 }, { name := "Routes", type := 22, offset := 2, embedded := false, tag := "", pkgPath := "", byteOffset := 16 }], 3, 40, .agg #[.int .i64 0, .int .i64 0, .slice none 0 0], peOf Tryz.prog 24⟩ := by kernel_rfl
@[simp] theorem ty25 : tyOf Tryz.prog 25 = some ⟨.slice 3, 1, 24, .slice none 0 0, peOf Tryz.prog 25⟩ := by kernel_rfl
@[simp] theorem ty26 : tyOf Tryz.prog 26 = some ⟨.slice 65, 1, 24, .slice none 0 0, peOf Tryz.prog 26⟩ := by kernel_rfl
@[simp] theorem ty27 : tyOf Tryz.prog 27 = some ⟨.slice 73, 1, 24, .slice none 0 0, peOf Tryz.prog 27⟩ := by kernel_rfl
@[simp] theorem ty28 : tyOf Tryz.prog 28 = some ⟨.struct #[{ name := "Names", type := 26, offset := 0, embedded := false, tag := "", pkgPath := "", byteOffset := 0 }, { name := "Rungs", type := 27, offset := 1, embedded := false, tag := "", pkgPath := "", byteOffset := 24 }], 2, 48, .agg #[.slice none 0 0, .slice none 0 0], peOf Tryz.prog 28⟩ := by kernel_rfl
@[simp] theorem ty29 : tyOf Tryz.prog 29 = some ⟨.struct #[{ name := "Names", type := 26, offset := 0, embedded := false, tag := "", pkgPath := "", byteOffset := 0 }, { name := "Rungs", type := 27, offset := 1, embedded := false, tag := "", pkgPath := "", byteOffset := 24 }], 2, 48, .agg #[.slice none 0 0, .slice none 0 0], peOf Tryz.prog 29⟩ := by kernel_rfl
@[simp] theorem ty30 : tyOf Tryz.prog 30 = some ⟨.interface #[("Error", 180)], 1, 16, .nilIface, peOf Tryz.prog 30⟩ := by kernel_rfl
@[simp] theorem ty31 : tyOf Tryz.prog 31 = some ⟨.interface #[("Error", 180)], 1, 16, .nilIface, peOf Tryz.prog 31⟩ := by kernel_rfl
@[simp] theorem ty32 : tyOf Tryz.prog 32 = some ⟨.tuple #[29, 31], 1, 0, .tuple #[.agg #[.slice none 0 0, .slice none 0 0], .nilIface], peOf Tryz.prog 32⟩ := by kernel_rfl
@[simp] theorem ty33 : tyOf Tryz.prog 33 = some ⟨.func #[24] #[29, 31] false, 1, 8, .nilFunc, peOf Tryz.prog 33⟩ := by kernel_rfl
@[simp] theorem ty34 : tyOf Tryz.prog 34 = some ⟨.func #[] #[4] false, 1, 8, .nilFunc, peOf Tryz.prog 34⟩ := by kernel_rfl
@[simp] theorem ty35 : tyOf Tryz.prog 35 = some ⟨.func #[3, 3] #[3] false, 1, 8, .nilFunc, peOf Tryz.prog 35⟩ := by kernel_rfl
@[simp] theorem ty36 : tyOf Tryz.prog 36 = some ⟨.func #[3] #[25] false, 1, 8, .nilFunc, peOf Tryz.prog 36⟩ := by kernel_rfl
@[simp] theorem ty37 : tyOf Tryz.prog 37 = some ⟨.slice 39, 1, 24, .slice none 0 0, peOf Tryz.prog 37⟩ := by kernel_rfl
@[simp] theorem ty38 : tyOf Tryz.prog 38 = some ⟨.func #[25, 3] #[37] false, 1, 8, .nilFunc, peOf Tryz.prog 38⟩ := by kernel_rfl
@[simp] theorem ty39 : tyOf Tryz.prog 39 = some ⟨.slice 4, 1, 24, .slice none 0 0, peOf Tryz.prog 39⟩ := by kernel_rfl
@[simp] theorem ty40 : tyOf Tryz.prog 40 = some ⟨.slice 45, 1, 24, .slice none 0 0, peOf Tryz.prog 40⟩ := by kernel_rfl
@[simp] theorem ty41 : tyOf Tryz.prog 41 = some ⟨.tuple #[40, 31], 1, 0, .tuple #[.slice none 0 0, .nilIface], peOf Tryz.prog 41⟩ := by kernel_rfl
@[simp] theorem ty42 : tyOf Tryz.prog 42 = some ⟨.func #[29, 37] #[40, 31] false, 1, 8, .nilFunc, peOf Tryz.prog 42⟩ := by kernel_rfl
@[simp] theorem ty43 : tyOf Tryz.prog 43 = some ⟨.func #[9] #[3] false, 1, 8, .nilFunc, peOf Tryz.prog 43⟩ := by kernel_rfl
@[simp] theorem ty44 : tyOf Tryz.prog 44 = some ⟨.struct #[{ name := "Is", type := 39, offset := 0, embedded := false, tag := "", pkgPath := "", byteOffset := 0 }, { name := "Count", type := 25, offset := 1, embedded := false, tag := "", pkgPath := "", byteOffset := 24 }], 2, 48, .agg #[.slice none 0 0, .slice none 0 0], peOf Tryz.prog 44⟩ := by kernel_rfl
@[simp] theorem ty45 : tyOf Tryz.prog 45 = some ⟨.struct #[{ name := "Is", type := 39, offset := 0, embedded := false, tag := "", pkgPath := "", byteOffset := 0 }, { name := "Count", type := 25, offset := 1, embedded := false, tag := "", pkgPath := "", byteOffset := 24 }], 2, 48, .agg #[.slice none 0 0, .slice none 0 0], peOf Tryz.prog 45⟩ := by kernel_rfl
@[simp] theorem ty46 : tyOf Tryz.prog 46 = some ⟨.func #[24, 3, 25] #[4] false, 1, 8, .nilFunc, peOf Tryz.prog 46⟩ := by kernel_rfl
@[simp] theorem ty47 : tyOf Tryz.prog 47 = some ⟨.interface #[("Text", 180)], 1, 16, .nilIface, peOf Tryz.prog 47⟩ := by kernel_rfl
@[simp] theorem ty48 : tyOf Tryz.prog 48 = some ⟨.interface #[("Text", 180)], 1, 16, .nilIface, peOf Tryz.prog 48⟩ := by kernel_rfl
@[simp] theorem ty49 : tyOf Tryz.prog 49 = some ⟨.tuple #[48, 31], 1, 0, .tuple #[.nilIface, .nilIface], peOf Tryz.prog 49⟩ := by kernel_rfl
@[simp] theorem ty50 : tyOf Tryz.prog 50 = some ⟨.func #[24] #[48, 31] false, 1, 8, .nilFunc, peOf Tryz.prog 50⟩ := by kernel_rfl
@[simp] theorem ty51 : tyOf Tryz.prog 51 = some ⟨.pointer 144, 1, 8, .pointer none, peOf Tryz.prog 51⟩ := by kernel_rfl
@[simp] theorem ty52 : tyOf Tryz.prog 52 = some ⟨.tuple #[51, 31], 1, 0, .tuple #[.pointer none, .nilIface], peOf Tryz.prog 52⟩ := by kernel_rfl
@[simp] theorem ty53 : tyOf Tryz.prog 53 = some ⟨.func #[29] #[51, 31] false, 1, 8, .nilFunc, peOf Tryz.prog 53⟩ := by kernel_rfl
@[simp] theorem ty54 : tyOf Tryz.prog 54 = some ⟨.tuple #[4, 25, 31], 1, 0, .tuple #[.bool false, .slice none 0 0, .nilIface], peOf Tryz.prog 54⟩ := by kernel_rfl
@[simp] theorem ty55 : tyOf Tryz.prog 55 = some ⟨.func #[51, 48] #[4, 25, 31] false, 1, 8, .nilFunc, peOf Tryz.prog 55⟩ := by kernel_rfl
@[simp] theorem ty56 : tyOf Tryz.prog 56 = some ⟨.func #[24] #[4] false, 1, 8, .nilFunc, peOf Tryz.prog 56⟩ := by kernel_rfl
@[simp] theorem ty57 : tyOf Tryz.prog 57 = some ⟨.slice 68, 1, 24, .slice none 0 0, peOf Tryz.prog 57⟩ := by kernel_rfl
@[simp] theorem ty58 : tyOf Tryz.prog 58 = some ⟨.struct #[{ name := "Names", type := 26, offset := 0, embedded := false, tag := "", pkgPath := "", byteOffset := 0 }, { name := "Rungs", type := 57, offset := 1, embedded := false, tag := "", pkgPath := "", byteOffset := 24 }], 2, 48, .agg #[.slice none 0 0, .slice none 0 0], peOf Tryz.prog 58⟩ := by kernel_rfl
@[simp] theorem ty59 : tyOf Tryz.prog 59 = some ⟨.struct #[{ name := "Names", type := 26, offset := 0, embedded := false, tag := "", pkgPath := "", byteOffset := 0 }, { name := "Rungs", type := 57, offset := 1, embedded := false, tag := "", pkgPath := "", byteOffset := 24 }], 2, 48, .agg #[.slice none 0 0, .slice none 0 0], peOf Tryz.prog 59⟩ := by kernel_rfl
@[simp] theorem ty60 : tyOf Tryz.prog 60 = some ⟨.slice 66, 1, 24, .slice none 0 0, peOf Tryz.prog 60⟩ := by kernel_rfl
@[simp] theorem ty61 : tyOf Tryz.prog 61 = some ⟨.slice 75, 1, 24, .slice none 0 0, peOf Tryz.prog 61⟩ := by kernel_rfl
@[simp] theorem ty62 : tyOf Tryz.prog 62 = some ⟨.struct #[{ name := "Names", type := 60, offset := 0, embedded := false, tag := "", pkgPath := "", byteOffset := 0 }, { name := "Rungs", type := 61, offset := 1, embedded := false, tag := "", pkgPath := "", byteOffset := 24 }], 2, 48, .agg #[.slice none 0 0, .slice none 0 0], peOf Tryz.prog 62⟩ := by kernel_rfl
@[simp] theorem ty63 : tyOf Tryz.prog 63 = some ⟨.struct #[{ name := "Names", type := 60, offset := 0, embedded := false, tag := "", pkgPath := "", byteOffset := 0 }, { name := "Rungs", type := 61, offset := 1, embedded := false, tag := "", pkgPath := "", byteOffset := 24 }], 2, 48, .agg #[.slice none 0 0, .slice none 0 0], peOf Tryz.prog 63⟩ := by kernel_rfl
@[simp] theorem ty64 : tyOf Tryz.prog 64 = some ⟨.struct #[{ name := "Name", type := 9, offset := 0, embedded := false, tag := "", pkgPath := "", byteOffset := 0 }, { name := "Kind", type := 3, offset := 1, embedded := false, tag := "", pkgPath := "", byteOffset := 16 }, { name := "Count", type := 3, offset := 2, embedded := false, tag := "", pkgPath := "", byteOffset := 24 }], 3, 32, .agg #[.string ⟨#[]⟩, .int .i64 0, .int .i64 0], peOf Tryz.prog 64⟩ := by kernel_rfl
@[simp] theorem ty65 : tyOf Tryz.prog 65 = some ⟨.struct #[{ name := "Name", type := 9, offset := 0, embedded := false, tag := "", pkgPath := "", byteOffset := 0 }, { name := "Kind", type := 3, offset := 1, embedded := false, tag := "", pkgPath := "", byteOffset := 16 }, { name := "Count", type := 3, offset := 2, embedded := false, tag := "", pkgPath := "", byteOffset := 24 }], 3, 32, .agg #[.string ⟨#[]⟩, .int .i64 0, .int .i64 0], true⟩ := by kernel_rfl
@[simp] theorem ty66 : tyOf Tryz.prog 66 = some ⟨.struct #[{ name := "Name", type := 9, offset := 0, embedded := false, tag := "", pkgPath := "", byteOffset := 0 }, { name := "Kind", type := 3, offset := 1, embedded := false, tag := "", pkgPath := "", byteOffset := 16 }, { name := "Count", type := 3, offset := 2, embedded := false, tag := "", pkgPath := "", byteOffset := 24 }], 3, 32, .agg #[.string ⟨#[]⟩, .int .i64 0, .int .i64 0], true⟩ := by kernel_rfl
@[simp] theorem ty67 : tyOf Tryz.prog 67 = some ⟨.struct #[{ name := "Kind", type := 3, offset := 0, embedded := false, tag := "", pkgPath := "", byteOffset := 0 }, { name := "Name", type := 9, offset := 1, embedded := false, tag := "", pkgPath := "", byteOffset := 8 }, { name := "If", type := 9, offset := 2, embedded := false, tag := "", pkgPath := "", byteOffset := 24 }], 3, 40, .agg #[.int .i64 0, .string ⟨#[]⟩, .string ⟨#[]⟩], peOf Tryz.prog 67⟩ := by kernel_rfl
@[simp] theorem ty68 : tyOf Tryz.prog 68 = some ⟨.struct #[{ name := "Kind", type := 3, offset := 0, embedded := false, tag := "", pkgPath := "", byteOffset := 0 }, { name := "Name", type := 9, offset := 1, embedded := false, tag := "", pkgPath := "", byteOffset := 8 }, { name := "If", type := 9, offset := 2, embedded := false, tag := "", pkgPath := "", byteOffset := 24 }], 3, 40, .agg #[.int .i64 0, .string ⟨#[]⟩, .string ⟨#[]⟩], true⟩ := by kernel_rfl
@[simp] theorem ty69 : tyOf Tryz.prog 69 = some ⟨.pointer 244, 1, 8, .pointer none, peOf Tryz.prog 69⟩ := by kernel_rfl
@[simp] theorem ty70 : tyOf Tryz.prog 70 = some ⟨.tuple #[48, 69, 4], 1, 0, .tuple #[.nilIface, .pointer none, .bool false], peOf Tryz.prog 70⟩ := by kernel_rfl
@[simp] theorem ty71 : tyOf Tryz.prog 71 = some ⟨.func #[9] #[48, 69, 4] false, 1, 8, .nilFunc, peOf Tryz.prog 71⟩ := by kernel_rfl
@[simp] theorem ty72 : tyOf Tryz.prog 72 = some ⟨.struct #[{ name := "Kind", type := 3, offset := 0, embedded := false, tag := "", pkgPath := "", byteOffset := 0 }, { name := "Name", type := 9, offset := 1, embedded := false, tag := "", pkgPath := "", byteOffset := 8 }, { name := "If", type := 48, offset := 2, embedded := false, tag := "", pkgPath := "", byteOffset := 24 }], 3, 40, .agg #[.int .i64 0, .string ⟨#[]⟩, .nilIface], peOf Tryz.prog 72⟩ := by kernel_rfl
@[simp] theorem ty73 : tyOf Tryz.prog 73 = some ⟨.struct #[{ name := "Kind", type := 3, offset := 0, embedded := false, tag := "", pkgPath := "", byteOffset := 0 }, { name := "Name", type := 9, offset := 1, embedded := false, tag := "", pkgPath := "", byteOffset := 8 }, { name := "If", type := 48, offset := 2, embedded := false, tag := "", pkgPath := "", byteOffset := 24 }], 3, 40, .agg #[.int .i64 0, .string ⟨#[]⟩, .nilIface], peOf Tryz.prog 73⟩ := by kernel_rfl
@[simp] theorem ty74 : tyOf Tryz.prog 74 = some ⟨.struct #[{ name := "Kind", type := 3, offset := 0, embedded := false, tag := "", pkgPath := "", byteOffset := 0 }, { name := "Name", type := 9, offset := 1, embedded := false, tag := "", pkgPath := "", byteOffset := 8 }, { name := "If", type := 69, offset := 2, embedded := false, tag := "", pkgPath := "", byteOffset := 24 }], 3, 32, .agg #[.int .i64 0, .string ⟨#[]⟩, .pointer none], peOf Tryz.prog 74⟩ := by kernel_rfl
@[simp] theorem ty75 : tyOf Tryz.prog 75 = some ⟨.struct #[{ name := "Kind", type := 3, offset := 0, embedded := false, tag := "", pkgPath := "", byteOffset := 0 }, { name := "Name", type := 9, offset := 1, embedded := false, tag := "", pkgPath := "", byteOffset := 8 }, { name := "If", type := 69, offset := 2, embedded := false, tag := "", pkgPath := "", byteOffset := 24 }], 3, 32, .agg #[.int .i64 0, .string ⟨#[]⟩, .pointer none], peOf Tryz.prog 75⟩ := by kernel_rfl
@[simp] theorem ty76 : tyOf Tryz.prog 76 = some ⟨.int .i64, 1, 8, .int .i64 0, peOf Tryz.prog 76⟩ := by kernel_rfl
@[simp] theorem ty77 : tyOf Tryz.prog 77 = some ⟨.struct #[{ name := "Err", type := 76, offset := 0, embedded := false, tag := "", pkgPath := "", byteOffset := 0 }, { name := "Place", type := 3, offset := 1, embedded := false, tag := "", pkgPath := "", byteOffset := 8 }], 2, 16, .agg #[.int .i64 0, .int .i64 0], peOf Tryz.prog 77⟩ := by kernel_rfl
@[simp] theorem ty78 : tyOf Tryz.prog 78 = some ⟨.struct #[{ name := "Err", type := 76, offset := 0, embedded := false, tag := "", pkgPath := "", byteOffset := 0 }, { name := "Place", type := 3, offset := 1, embedded := false, tag := "", pkgPath := "", byteOffset := 8 }], 2, 16, .agg #[.int .i64 0, .int .i64 0], true⟩ := by kernel_rfl
@[simp] theorem ty79 : tyOf Tryz.prog 79 = some ⟨.func #[63] #[78] false, 1, 8, .nilFunc, peOf Tryz.prog 79⟩ := by kernel_rfl
@[simp] theorem ty80 : tyOf Tryz.prog 80 = some ⟨.func #[31, 78] #[4] false, 1, 8, .nilFunc, peOf Tryz.prog 80⟩ := by kernel_rfl
@[simp] theorem ty81 : tyOf Tryz.prog 81 = some ⟨.func #[29] #[31] false, 1, 8, .nilFunc, peOf Tryz.prog 81⟩ := by kernel_rfl
@[simp] theorem ty82 : tyOf Tryz.prog 82 = some ⟨.func #[25, 25] #[4] false, 1, 8, .nilFunc, peOf Tryz.prog 82⟩ := by kernel_rfl
@[simp] theorem ty83 : tyOf Tryz.prog 83 = some ⟨.func #[29] #[9] false, 1, 8, .nilFunc, peOf Tryz.prog 83⟩ := by kernel_rfl
@[simp] theorem ty84 : tyOf Tryz.prog 84 = some ⟨.func #[63] #[9] false, 1, 8, .nilFunc, peOf Tryz.prog 84⟩ := by kernel_rfl
@[simp] theorem ty85 : tyOf Tryz.prog 85 = some ⟨.func #[] #[25] false, 1, 8, .nilFunc, peOf Tryz.prog 85⟩ := by kernel_rfl
@[simp] theorem ty86 : tyOf Tryz.prog 86 = some ⟨.func #[59] #[4] false, 1, 8, .nilFunc, peOf Tryz.prog 86⟩ := by kernel_rfl
@[simp] theorem ty87 : tyOf Tryz.prog 87 = some ⟨.slice 187, 1, 24, .slice none 0 0, peOf Tryz.prog 87⟩ := by kernel_rfl
@[simp] theorem ty88 : tyOf Tryz.prog 88 = some ⟨.struct #[{ name := "Sections", type := 3, offset := 0, embedded := false, tag := "", pkgPath := "", byteOffset := 0 }, { name := "Points", type := 3, offset := 1, embedded := false, tag := "", pkgPath := "", byteOffset := 8 }, { name := "Routes", type := 87, offset := 2, embedded := false, tag := "", pkgPath := "", byteOffset := 16 }], 3, 40, .agg #[.int .i64 0, .int .i64 0, .slice none 0 0], peOf Tryz.prog 88⟩ := by kernel_rfl
@[simp] theorem ty89 : tyOf Tryz.prog 89 = some ⟨.struct #[{ name := "Sections", type := 3, offset := 0, embedded := false, tag := "", pkgPath := "", byteOffset := 0 }, { name := "Points", type := 3, offset := 1, embedded := false, tag := "", pkgPath := "", byteOffset := 8 }, { name := "Routes", type := 87, offset := 2, embedded := false, tag := "", pkgPath := "", byteOffset := 16 }], 3, 40, .agg #[.int .i64 0, .int .i64 0, .slice none 0 0], peOf Tryz.prog 89⟩ := by kernel_rfl
@[simp] theorem ty90 : tyOf Tryz.prog 90 = some ⟨.tuple #[89, 4], 1, 0, .tuple #[.agg #[.int .i64 0, .int .i64 0, .slice none 0 0], .bool false], peOf Tryz.prog 90⟩ := by kernel_rfl
@[simp] theorem ty91 : tyOf Tryz.prog 91 = some ⟨.func #[24] #[89, 4] false, 1, 8, .nilFunc, peOf Tryz.prog 91⟩ := by kernel_rfl
@[simp] theorem ty92 : tyOf Tryz.prog 92 = some ⟨.func #[89] #[78] false, 1, 8, .nilFunc, peOf Tryz.prog 92⟩ := by kernel_rfl
@[simp] theorem ty93 : tyOf Tryz.prog 93 = some ⟨.func #[89] #[9] false, 1, 8, .nilFunc, peOf Tryz.prog 93⟩ := by kernel_rfl
@[simp] theorem ty94 : tyOf Tryz.prog 94 = some ⟨.func #[48] #[9] false, 1, 8, .nilFunc, peOf Tryz.prog 94⟩ := by kernel_rfl
@[simp] theorem ty95 : tyOf Tryz.prog 95 = some ⟨.tuple #[29, 4], 1, 0, .tuple #[.agg #[.slice none 0 0, .slice none 0 0], .bool false], peOf Tryz.prog 95⟩ := by kernel_rfl
@[simp] theorem ty96 : tyOf Tryz.prog 96 = some ⟨.func #[9] #[29, 4] false, 1, 8, .nilFunc, peOf Tryz.prog 96⟩ := by kernel_rfl
@[simp] theorem ty97 : tyOf Tryz.prog 97 = some ⟨.func #[9, 25] #[4] false, 1, 8, .nilFunc, peOf Tryz.prog 97⟩ := by kernel_rfl
@[simp] theorem ty98 : tyOf Tryz.prog 98 = some ⟨.func #[9] #[29, 31] false, 1, 8, .nilFunc, peOf Tryz.prog 98⟩ := by kernel_rfl
@[simp] theorem ty99 : tyOf Tryz.prog 99 = some ⟨.func #[9] #[4] false, 1, 8, .nilFunc, peOf Tryz.prog 99⟩ := by kernel_rfl
@[simp] theorem ty100 : tyOf Tryz.prog 100 = some ⟨.tuple #[29, 63, 4], 1, 0, .tuple #[.agg #[.slice none 0 0, .slice none 0 0], .agg #[.slice none 0 0, .slice none 0 0], .bool false], peOf Tryz.prog 100⟩ := by kernel_rfl
@[simp] theorem ty101 : tyOf Tryz.prog 101 = some ⟨.func #[9] #[29, 63, 4] false, 1, 8, .nilFunc, peOf Tryz.prog 101⟩ := by kernel_rfl
@[simp] theorem ty102 : tyOf Tryz.prog 102 = some ⟨.map 9 4, 1, 8, .map none, peOf Tryz.prog 102⟩ := by kernel_rfl
@[simp] theorem ty103 : tyOf Tryz.prog 103 = some ⟨.map 9 3, 1, 8, .map none, peOf Tryz.prog 103⟩ := by kernel_rfl
@[simp] theorem ty104 : tyOf Tryz.prog 104 = some ⟨.struct #[{ name := "Is", type := 102, offset := 0, embedded := false, tag := "", pkgPath := "", byteOffset := 0 }, { name := "Count", type := 103, offset := 1, embedded := false, tag := "", pkgPath := "", byteOffset := 8 }], 2, 16, .agg #[.map none, .map none], peOf Tryz.prog 104⟩ := by kernel_rfl
@[simp] theorem ty105 : tyOf Tryz.prog 105 = some ⟨.struct #[{ name := "Is", type := 102, offset := 0, embedded := false, tag := "", pkgPath := "", byteOffset := 0 }, { name := "Count", type := 103, offset := 1, embedded := false, tag := "", pkgPath := "", byteOffset := 8 }], 2, 16, .agg #[.map none, .map none], peOf Tryz.prog 105⟩ := by kernel_rfl
@[simp] theorem ty106 : tyOf Tryz.prog 106 = some ⟨.func #[] #[105] false, 1, 8, .nilFunc, peOf Tryz.prog 106⟩ := by kernel_rfl
@[simp] theorem ty107 : tyOf Tryz.prog 107 = some ⟨.func #[63, 105, 39] #[105] false, 1, 8, .nilFunc, peOf Tryz.prog 107⟩ := by kernel_rfl
@[simp] theorem ty108 : tyOf Tryz.prog 108 = some ⟨.tuple #[39, 25], 1, 0, .tuple #[.slice none 0 0, .slice none 0 0], peOf Tryz.prog 108⟩ := by kernel_rfl
@[simp] theorem ty109 : tyOf Tryz.prog 109 = some ⟨.func #[63] #[39, 25] false, 1, 8, .nilFunc, peOf Tryz.prog 109⟩ := by kernel_rfl
@[simp] theorem ty110 : tyOf Tryz.prog 110 = some ⟨.func #[39, 39] #[4] false, 1, 8, .nilFunc, peOf Tryz.prog 110⟩ := by kernel_rfl
@[simp] theorem ty111 : tyOf Tryz.prog 111 = some ⟨.tuple #[45, 31], 1, 0, .tuple #[.agg #[.slice none 0 0, .slice none 0 0], .nilIface], peOf Tryz.prog 111⟩ := by kernel_rfl
@[simp] theorem ty112 : tyOf Tryz.prog 112 = some ⟨.func #[29, 45, 39] #[45, 31] false, 1, 8, .nilFunc, peOf Tryz.prog 112⟩ := by kernel_rfl
@[simp] theorem ty113 : tyOf Tryz.prog 113 = some ⟨.func #[29] #[45] false, 1, 8, .nilFunc, peOf Tryz.prog 113⟩ := by kernel_rfl
@[simp] theorem ty114 : tyOf Tryz.prog 114 = some ⟨.func #[31, 76] #[4] false, 1, 8, .nilFunc, peOf Tryz.prog 114⟩ := by kernel_rfl
@[simp] theorem ty115 : tyOf Tryz.prog 115 = some ⟨.func #[9, 25, 4] #[4] false, 1, 8, .nilFunc, peOf Tryz.prog 115⟩ := by kernel_rfl
@[simp] theorem ty116 : tyOf Tryz.prog 116 = some ⟨.func #[24] #[31] false, 1, 8, .nilFunc, peOf Tryz.prog 116⟩ := by kernel_rfl
@[simp] theorem ty117 : tyOf Tryz.prog 117 = some ⟨.func #[9, 3] #[9] false, 1, 8, .nilFunc, peOf Tryz.prog 117⟩ := by kernel_rfl
@[simp] theorem ty118 : tyOf Tryz.prog 118 = some ⟨.func #[3, 9, 3] #[] false, 1, 8, .nilFunc, peOf Tryz.prog 118⟩ := by kernel_rfl
@[simp] theorem ty119 : tyOf Tryz.prog 119 = some ⟨.slice 131, 1, 24, .slice none 0 0, peOf Tryz.prog 119⟩ := by kernel_rfl
@[simp] theorem ty120 : tyOf Tryz.prog 120 = some ⟨.struct #[{ name := "Sections", type := 25, offset := 0, embedded := false, tag := "", pkgPath := "", byteOffset := 0 }, { name := "Points", type := 119, offset := 1, embedded := false, tag := "", pkgPath := "", byteOffset := 24 }], 2, 48, .agg #[.slice none 0 0, .slice none 0 0], peOf Tryz.prog 120⟩ := by kernel_rfl
@[simp] theorem ty121 : tyOf Tryz.prog 121 = some ⟨.struct #[{ name := "Sections", type := 25, offset := 0, embedded := false, tag := "", pkgPath := "", byteOffset := 0 }, { name := "Points", type := 119, offset := 1, embedded := false, tag := "", pkgPath := "", byteOffset := 24 }], 2, 48, .agg #[.slice none 0 0, .slice none 0 0], peOf Tryz.prog 121⟩ := by kernel_rfl
@[simp] theorem ty122 : tyOf Tryz.prog 122 = some ⟨.slice 48, 1, 24, .slice none 0 0, peOf Tryz.prog 122⟩ := by kernel_rfl
@[simp] theorem ty123 : tyOf Tryz.prog 123 = some ⟨.string, 1, 16, .string ⟨#[]⟩, peOf Tryz.prog 123⟩ := by kernel_rfl
@[simp] theorem ty124 : tyOf Tryz.prog 124 = some ⟨.struct #[{ name := "Of", type := 48, offset := 0, embedded := false, tag := "", pkgPath := "", byteOffset := 0 }], 1, 16, .agg #[.nilIface], peOf Tryz.prog 124⟩ := by kernel_rfl
@[simp] theorem ty125 : tyOf Tryz.prog 125 = some ⟨.struct #[{ name := "Of", type := 48, offset := 0, embedded := false, tag := "", pkgPath := "", byteOffset := 0 }], 1, 16, .agg #[.nilIface], peOf Tryz.prog 125⟩ := by kernel_rfl
@[simp] theorem ty126 : tyOf Tryz.prog 126 = some ⟨.func #[121] #[122] false, 1, 8, .nilFunc, peOf Tryz.prog 126⟩ := by kernel_rfl
@[simp] theorem ty127 : tyOf Tryz.prog 127 = some ⟨.func #[122] #[48] true, 1, 8, .nilFunc, peOf Tryz.prog 127⟩ := by kernel_rfl
@[simp] theorem ty128 : tyOf Tryz.prog 128 = some ⟨.func #[121, 121] #[4] false, 1, 8, .nilFunc, peOf Tryz.prog 128⟩ := by kernel_rfl
@[simp] theorem ty129 : tyOf Tryz.prog 129 = some ⟨.func #[119, 131] #[4] false, 1, 8, .nilFunc, peOf Tryz.prog 129⟩ := by kernel_rfl
@[simp] theorem ty130 : tyOf Tryz.prog 130 = some ⟨.struct #[{ name := "Number", type := 3, offset := 0, embedded := false, tag := "", pkgPath := "", byteOffset := 0 }, { name := "Over", type := 4, offset := 1, embedded := false, tag := "", pkgPath := "", byteOffset := 8 }], 2, 16, .agg #[.int .i64 0, .bool false], peOf Tryz.prog 130⟩ := by kernel_rfl
@[simp] theorem ty131 : tyOf Tryz.prog 131 = some ⟨.struct #[{ name := "Number", type := 3, offset := 0, embedded := false, tag := "", pkgPath := "", byteOffset := 0 }, { name := "Over", type := 4, offset := 1, embedded := false, tag := "", pkgPath := "", byteOffset := 8 }], 2, 16, .agg #[.int .i64 0, .bool false], true⟩ := by kernel_rfl
@[simp] theorem ty132 : tyOf Tryz.prog 132 = some ⟨.int .u64, 1, 8, .int .u64 0, peOf Tryz.prog 132⟩ := by kernel_rfl
@[simp] theorem ty133 : tyOf Tryz.prog 133 = some ⟨.func #[26, 134] #[3] false, 1, 8, .nilFunc, peOf Tryz.prog 133⟩ := by kernel_rfl
@[simp] theorem ty134 : tyOf Tryz.prog 134 = some ⟨.func #[65] #[4] false, 1, 8, .nilFunc, peOf Tryz.prog 134⟩ := by kernel_rfl
@[simp] theorem ty135 : tyOf Tryz.prog 135 = some ⟨.slice 48, 1, 24, .slice none 0 0, peOf Tryz.prog 135⟩ := by kernel_rfl
@[simp] theorem ty136 : tyOf Tryz.prog 136 = some ⟨.slice 48, 1, 24, .slice none 0 0, peOf Tryz.prog 136⟩ := by kernel_rfl
@[simp] theorem ty137 : tyOf Tryz.prog 137 = some ⟨.string, 1, 16, .string ⟨#[]⟩, peOf Tryz.prog 137⟩ := by kernel_rfl
@[simp] theorem ty138 : tyOf Tryz.prog 138 = some ⟨.func #[3] #[9] false, 1, 8, .nilFunc, peOf Tryz.prog 138⟩ := by kernel_rfl
@[simp] theorem ty139 : tyOf Tryz.prog 139 = some ⟨.string, 1, 16, .string ⟨#[]⟩, peOf Tryz.prog 139⟩ := by kernel_rfl
@[simp] theorem ty140 : tyOf Tryz.prog 140 = some ⟨.bool, 1, 1, .bool false, peOf Tryz.prog 140⟩ := by kernel_rfl
@[simp] theorem ty141 : tyOf Tryz.prog 141 = some ⟨.slice 25, 1, 24, .slice none 0 0, peOf Tryz.prog 141⟩ := by kernel_rfl
@[simp] theorem ty142 : tyOf Tryz.prog 142 = some ⟨.slice 146, 1, 24, .slice none 0 0, peOf Tryz.prog 142⟩ := by kernel_rfl
@[simp] theorem ty143 : tyOf Tryz.prog 143 = some ⟨.struct #[{ name := "Program", type := 29, offset := 0, embedded := false, tag := "", pkgPath := "", byteOffset := 0 }, { name := "States", type := 3, offset := 2, embedded := false, tag := "", pkgPath := "", byteOffset := 48 }, { name := "Inputs", type := 3, offset := 3, embedded := false, tag := "", pkgPath := "", byteOffset := 56 }, { name := "Next", type := 141, offset := 4, embedded := false, tag := "", pkgPath := "", byteOffset := 64 }, { name := "parts", type := 142, offset := 5, embedded := false, tag := "", pkgPath := "signalcabin/machine", byteOffset := 88 }, { name := "in", type := 25, offset := 6, embedded := false, tag := "", pkgPath := "signalcabin/machine", byteOffset := 112 }], 7, 136, .agg #[.slice none 0 0, .slice none 0 0, .int .i64 0, .int .i64 0, .slice none 0 0, .slice none 0 0, .slice none 0 0], peOf Tryz.prog 143⟩ := by kernel_rfl
@[simp] theorem ty144 : tyOf Tryz.prog 144 = some ⟨.struct #[{ name := "Program", type := 29, offset := 0, embedded := false, tag := "", pkgPath := "", byteOffset := 0 }, { name := "States", type := 3, offset := 2, embedded := false, tag := "", pkgPath := "", byteOffset := 48 }, { name := "Inputs", type := 3, offset := 3, embedded := false, tag := "", pkgPath := "", byteOffset := 56 }, { name := "Next", type := 141, offset := 4, embedded := false, tag := "", pkgPath := "", byteOffset := 64 }, { name := "parts", type := 142, offset := 5, embedded := false, tag := "", pkgPath := "signalcabin/machine", byteOffset := 88 }, { name := "in", type := 25, offset := 6, embedded := false, tag := "", pkgPath := "signalcabin/machine", byteOffset := 112 }], 7, 136, .agg #[.slice none 0 0, .slice none 0 0, .int .i64 0, .int .i64 0, .slice none 0 0, .slice none 0 0, .slice none 0 0], peOf Tryz.prog 144⟩ := by kernel_rfl
@[simp] theorem ty145 : tyOf Tryz.prog 145 = some ⟨.struct #[{ name := "name", type := 3, offset := 0, embedded := false, tag := "", pkgPath := "signalcabin/machine", byteOffset := 0 }, { name := "most", type := 3, offset := 1, embedded := false, tag := "", pkgPath := "signalcabin/machine", byteOffset := 8 }, { name := "far", type := 4, offset := 2, embedded := false, tag := "", pkgPath := "signalcabin/machine", byteOffset := 16 }], 3, 24, .agg #[.int .i64 0, .int .i64 0, .bool false], peOf Tryz.prog 145⟩ := by kernel_rfl
@[simp] theorem ty146 : tyOf Tryz.prog 146 = some ⟨.struct #[{ name := "name", type := 3, offset := 0, embedded := false, tag := "", pkgPath := "signalcabin/machine", byteOffset := 0 }, { name := "most", type := 3, offset := 1, embedded := false, tag := "", pkgPath := "signalcabin/machine", byteOffset := 8 }, { name := "far", type := 4, offset := 2, embedded := false, tag := "", pkgPath := "signalcabin/machine", byteOffset := 16 }], 3, 24, .agg #[.int .i64 0, .int .i64 0, .bool false], true⟩ := by kernel_rfl
@[simp] theorem ty147 : tyOf Tryz.prog 147 = some ⟨.func #[45] #[3] false, 1, 8, .nilFunc, peOf Tryz.prog 147⟩ := by kernel_rfl
@[simp] theorem ty148 : tyOf Tryz.prog 148 = some ⟨.func #[29, 45, 39] #[45] false, 1, 8, .nilFunc, peOf Tryz.prog 148⟩ := by kernel_rfl
@[simp] theorem ty149 : tyOf Tryz.prog 149 = some ⟨.func #[3] #[45] false, 1, 8, .nilFunc, peOf Tryz.prog 149⟩ := by kernel_rfl
@[simp] theorem ty150 : tyOf Tryz.prog 150 = some ⟨.func #[3] #[39] false, 1, 8, .nilFunc, peOf Tryz.prog 150⟩ := by kernel_rfl
@[simp] theorem ty151 : tyOf Tryz.prog 151 = some ⟨.tuple #[37, 31], 1, 0, .tuple #[.slice none 0 0, .nilIface], peOf Tryz.prog 151⟩ := by kernel_rfl
@[simp] theorem ty152 : tyOf Tryz.prog 152 = some ⟨.func #[51, 48] #[37, 31] false, 1, 8, .nilFunc, peOf Tryz.prog 152⟩ := by kernel_rfl
@[simp] theorem ty153 : tyOf Tryz.prog 153 = some ⟨.tuple #[25, 31], 1, 0, .tuple #[.slice none 0 0, .nilIface], peOf Tryz.prog 153⟩ := by kernel_rfl
@[simp] theorem ty154 : tyOf Tryz.prog 154 = some ⟨.func #[51] #[25, 31] false, 1, 8, .nilFunc, peOf Tryz.prog 154⟩ := by kernel_rfl
@[simp] theorem ty155 : tyOf Tryz.prog 155 = some ⟨.func #[39, 4] #[4] false, 1, 8, .nilFunc, peOf Tryz.prog 155⟩ := by kernel_rfl
@[simp] theorem ty156 : tyOf Tryz.prog 156 = some ⟨.func #[39, 4] #[3] false, 1, 8, .nilFunc, peOf Tryz.prog 156⟩ := by kernel_rfl
@[simp] theorem ty157 : tyOf Tryz.prog 157 = some ⟨.func #[51, 3] #[25, 31] false, 1, 8, .nilFunc, peOf Tryz.prog 157⟩ := by kernel_rfl
@[simp] theorem ty158 : tyOf Tryz.prog 158 = some ⟨.func #[25, 25] #[3] false, 1, 8, .nilFunc, peOf Tryz.prog 158⟩ := by kernel_rfl
@[simp] theorem ty159 : tyOf Tryz.prog 159 = some ⟨.tuple #[69, 78], 1, 0, .tuple #[.pointer none, .agg #[.int .i64 0, .int .i64 0]], peOf Tryz.prog 159⟩ := by kernel_rfl
@[simp] theorem ty160 : tyOf Tryz.prog 160 = some ⟨.func #[9] #[69, 78] false, 1, 8, .nilFunc, peOf Tryz.prog 160⟩ := by kernel_rfl
@[simp] theorem ty161 : tyOf Tryz.prog 161 = some ⟨.func #[9] #[48, 31] false, 1, 8, .nilFunc, peOf Tryz.prog 161⟩ := by kernel_rfl
@[simp] theorem ty162 : tyOf Tryz.prog 162 = some ⟨.func #[76] #[78] false, 1, 8, .nilFunc, peOf Tryz.prog 162⟩ := by kernel_rfl
@[simp] theorem ty163 : tyOf Tryz.prog 163 = some ⟨.func #[3, 3, 3] #[4] false, 1, 8, .nilFunc, peOf Tryz.prog 163⟩ := by kernel_rfl
@[simp] theorem ty164 : tyOf Tryz.prog 164 = some ⟨.slice 9, 1, 24, .slice none 0 0, peOf Tryz.prog 164⟩ := by kernel_rfl
@[simp] theorem ty165 : tyOf Tryz.prog 165 = some ⟨.func #[] #[164] false, 1, 8, .nilFunc, peOf Tryz.prog 165⟩ := by kernel_rfl
@[simp] theorem ty166 : tyOf Tryz.prog 166 = some ⟨.tuple #[76, 3], 1, 0, .tuple #[.int .i64 0, .int .i64 0], peOf Tryz.prog 166⟩ := by kernel_rfl
@[simp] theorem ty167 : tyOf Tryz.prog 167 = some ⟨.func #[31] #[76, 3] false, 1, 8, .nilFunc, peOf Tryz.prog 167⟩ := by kernel_rfl
@[simp] theorem ty168 : tyOf Tryz.prog 168 = some ⟨.pointer 169, 1, 8, .pointer none, peOf Tryz.prog 168⟩ := by kernel_rfl
@[simp] theorem ty169 : tyOf Tryz.prog 169 = some ⟨.struct #[{ name := "Err", type := 76, offset := 0, embedded := false, tag := "", pkgPath := "", byteOffset := 0 }, { name := "Place", type := 3, offset := 1, embedded := false, tag := "", pkgPath := "", byteOffset := 8 }], 2, 16, .agg #[.int .i64 0, .int .i64 0], true⟩ := by kernel_rfl
@[simp] theorem ty170 : tyOf Tryz.prog 170 = some ⟨.func #[73] #[76] false, 1, 8, .nilFunc, peOf Tryz.prog 170⟩ := by kernel_rfl
@[simp] theorem ty171 : tyOf Tryz.prog 171 = some ⟨.pointer 174, 1, 8, .pointer none, peOf Tryz.prog 171⟩ := by kernel_rfl
@[simp] theorem ty172 : tyOf Tryz.prog 172 = some ⟨.slice 5, 1, 24, .slice none 0 0, peOf Tryz.prog 172⟩ := by kernel_rfl
@[simp] theorem ty173 : tyOf Tryz.prog 173 = some ⟨.struct #[{ name := "addr", type := 171, offset := 0, embedded := false, tag := "", pkgPath := "strings", byteOffset := 0 }, { name := "buf", type := 172, offset := 1, embedded := false, tag := "", pkgPath := "strings", byteOffset := 8 }], 2, 32, .agg #[.pointer none, .slice none 0 0], peOf Tryz.prog 173⟩ := by kernel_rfl
@[simp] theorem ty174 : tyOf Tryz.prog 174 = some ⟨.struct #[{ name := "addr", type := 171, offset := 0, embedded := false, tag := "", pkgPath := "strings", byteOffset := 0 }, { name := "buf", type := 172, offset := 1, embedded := false, tag := "", pkgPath := "strings", byteOffset := 8 }], 2, 32, .agg #[.pointer none, .slice none 0 0], peOf Tryz.prog 174⟩ := by kernel_rfl
@[simp] theorem ty175 : tyOf Tryz.prog 175 = some ⟨.tuple #[3, 31], 1, 0, .tuple #[.int .i64 0, .nilIface], peOf Tryz.prog 175⟩ := by kernel_rfl
@[simp] theorem ty176 : tyOf Tryz.prog 176 = some ⟨.func #[9] #[3, 31] false, 1, 8, .nilFunc, peOf Tryz.prog 176⟩ := by kernel_rfl
@[simp] theorem ty177 : tyOf Tryz.prog 177 = some ⟨.array 5 9, 5, 80, .agg #[.string ⟨#[]⟩, .string ⟨#[]⟩, .string ⟨#[]⟩, .string ⟨#[]⟩, .string ⟨#[]⟩], peOf Tryz.prog 177⟩ := by kernel_rfl
@[simp] theorem ty178 : tyOf Tryz.prog 178 = some ⟨.func #[5] #[31] false, 1, 8, .nilFunc, peOf Tryz.prog 178⟩ := by kernel_rfl
@[simp] theorem ty179 : tyOf Tryz.prog 179 = some ⟨.array 7 9, 7, 112, .agg #[.string ⟨#[]⟩, .string ⟨#[]⟩, .string ⟨#[]⟩, .string ⟨#[]⟩, .string ⟨#[]⟩, .string ⟨#[]⟩, .string ⟨#[]⟩], peOf Tryz.prog 179⟩ := by kernel_rfl
@[simp] theorem ty180 : tyOf Tryz.prog 180 = some ⟨.func #[] #[9] false, 1, 8, .nilFunc, peOf Tryz.prog 180⟩ := by kernel_rfl
@[simp] theorem ty181 : tyOf Tryz.prog 181 = some ⟨.func #[25] #[9] true, 1, 8, .nilFunc, peOf Tryz.prog 181⟩ := by kernel_rfl
@[simp] theorem ty182 : tyOf Tryz.prog 182 = some ⟨.func #[48] #[164] false, 1, 8, .nilFunc, peOf Tryz.prog 182⟩ := by kernel_rfl
@[simp] theorem ty183 : tyOf Tryz.prog 183 = some ⟨.func #[25] #[] false, 1, 8, .nilFunc, peOf Tryz.prog 183⟩ := by kernel_rfl
@[simp] theorem ty184 : tyOf Tryz.prog 184 = some ⟨.func #[25] #[25] false, 1, 8, .nilFunc, peOf Tryz.prog 184⟩ := by kernel_rfl
@[simp] theorem ty185 : tyOf Tryz.prog 185 = some ⟨.func #[164, 9] #[3] false, 1, 8, .nilFunc, peOf Tryz.prog 185⟩ := by kernel_rfl
@[simp] theorem ty186 : tyOf Tryz.prog 186 = some ⟨.struct #[{ name := "Sections", type := 25, offset := 0, embedded := false, tag := "", pkgPath := "", byteOffset := 0 }, { name := "Points", type := 25, offset := 1, embedded := false, tag := "", pkgPath := "", byteOffset := 24 }], 2, 48, .agg #[.slice none 0 0, .slice none 0 0], peOf Tryz.prog 186⟩ := by kernel_rfl
@[simp] theorem ty187 : tyOf Tryz.prog 187 = some ⟨.struct #[{ name := "Sections", type := 25, offset := 0, embedded := false, tag := "", pkgPath := "", byteOffset := 0 }, { name := "Points", type := 25, offset := 1, embedded := false, tag := "", pkgPath := "", byteOffset := 24 }], 2, 48, .agg #[.slice none 0 0, .slice none 0 0], peOf Tryz.prog 187⟩ := by kernel_rfl
@[simp] theorem ty188 : tyOf Tryz.prog 188 = some ⟨.func #[3] #[3] false, 1, 8, .nilFunc, peOf Tryz.prog 188⟩ := by kernel_rfl
@[simp] theorem ty189 : tyOf Tryz.prog 189 = some ⟨.func #[9, 9, 3] #[] false, 1, 8, .nilFunc, peOf Tryz.prog 189⟩ := by kernel_rfl
@[simp] theorem ty190 : tyOf Tryz.prog 190 = some ⟨.func #[187] #[9] false, 1, 8, .nilFunc, peOf Tryz.prog 190⟩ := by kernel_rfl
@[simp] theorem ty191 : tyOf Tryz.prog 191 = some ⟨.func #[187, 187] #[4] false, 1, 8, .nilFunc, peOf Tryz.prog 191⟩ := by kernel_rfl
@[simp] theorem ty192 : tyOf Tryz.prog 192 = some ⟨.func #[164, 9] #[9] false, 1, 8, .nilFunc, peOf Tryz.prog 192⟩ := by kernel_rfl
@[simp] theorem ty193 : tyOf Tryz.prog 193 = some ⟨.func #[9, 9] #[4] false, 1, 8, .nilFunc, peOf Tryz.prog 193⟩ := by kernel_rfl
@[simp] theorem ty194 : tyOf Tryz.prog 194 = some ⟨.func #[99] #[] false, 1, 8, .nilFunc, peOf Tryz.prog 194⟩ := by kernel_rfl
@[simp] theorem ty195 : tyOf Tryz.prog 195 = some ⟨.func #[99] #[] false, 1, 8, .nilFunc, peOf Tryz.prog 195⟩ := by kernel_rfl
@[simp] theorem ty196 : tyOf Tryz.prog 196 = some ⟨.func #[9, 9] #[195] false, 1, 8, .nilFunc, peOf Tryz.prog 196⟩ := by kernel_rfl
@[simp] theorem ty197 : tyOf Tryz.prog 197 = some ⟨.func #[9, 9] #[9] false, 1, 8, .nilFunc, peOf Tryz.prog 197⟩ := by kernel_rfl
@[simp] theorem ty198 : tyOf Tryz.prog 198 = some ⟨.pointer 65, 1, 8, .pointer none, peOf Tryz.prog 198⟩ := by kernel_rfl
@[simp] theorem ty199 : tyOf Tryz.prog 199 = some ⟨.pointer 73, 1, 8, .pointer none, peOf Tryz.prog 199⟩ := by kernel_rfl
@[simp] theorem ty200 : tyOf Tryz.prog 200 = some ⟨.tuple #[198, 199, 31], 1, 0, .tuple #[.pointer none, .pointer none, .nilIface], peOf Tryz.prog 200⟩ := by kernel_rfl
@[simp] theorem ty201 : tyOf Tryz.prog 201 = some ⟨.func #[9] #[198, 199, 31] false, 1, 8, .nilFunc, peOf Tryz.prog 201⟩ := by kernel_rfl
@[simp] theorem ty202 : tyOf Tryz.prog 202 = some ⟨.tuple #[168, 4], 1, 0, .tuple #[.pointer none, .bool false], peOf Tryz.prog 202⟩ := by kernel_rfl
@[simp] theorem ty203 : tyOf Tryz.prog 203 = some ⟨.func #[141] #[25] true, 1, 8, .nilFunc, peOf Tryz.prog 203⟩ := by kernel_rfl
@[simp] theorem ty204 : tyOf Tryz.prog 204 = some ⟨.tuple #[63, 78], 1, 0, .tuple #[.agg #[.slice none 0 0, .slice none 0 0], .agg #[.int .i64 0, .int .i64 0]], peOf Tryz.prog 204⟩ := by kernel_rfl
@[simp] theorem ty205 : tyOf Tryz.prog 205 = some ⟨.func #[9] #[63, 78] false, 1, 8, .nilFunc, peOf Tryz.prog 205⟩ := by kernel_rfl
@[simp] theorem ty206 : tyOf Tryz.prog 206 = some ⟨.func #[99, 99] #[4] false, 1, 8, .nilFunc, peOf Tryz.prog 206⟩ := by kernel_rfl
@[simp] theorem ty207 : tyOf Tryz.prog 207 = some ⟨.func #[25, 208] #[4] false, 1, 8, .nilFunc, peOf Tryz.prog 207⟩ := by kernel_rfl
@[simp] theorem ty208 : tyOf Tryz.prog 208 = some ⟨.func #[3] #[4] false, 1, 8, .nilFunc, peOf Tryz.prog 208⟩ := by kernel_rfl
@[simp] theorem ty209 : tyOf Tryz.prog 209 = some ⟨.func #[119, 210] #[4] false, 1, 8, .nilFunc, peOf Tryz.prog 209⟩ := by kernel_rfl
@[simp] theorem ty210 : tyOf Tryz.prog 210 = some ⟨.func #[131] #[4] false, 1, 8, .nilFunc, peOf Tryz.prog 210⟩ := by kernel_rfl
@[simp] theorem ty211 : tyOf Tryz.prog 211 = some ⟨.func #[121] #[4] false, 1, 8, .nilFunc, peOf Tryz.prog 211⟩ := by kernel_rfl
@[simp] theorem ty212 : tyOf Tryz.prog 212 = some ⟨.func #[25, 3] #[4] false, 1, 8, .nilFunc, peOf Tryz.prog 212⟩ := by kernel_rfl
@[simp] theorem ty213 : tyOf Tryz.prog 213 = some ⟨.func #[119, 131] #[3] false, 1, 8, .nilFunc, peOf Tryz.prog 213⟩ := by kernel_rfl
@[simp] theorem ty214 : tyOf Tryz.prog 214 = some ⟨.func #[39] #[39] false, 1, 8, .nilFunc, peOf Tryz.prog 214⟩ := by kernel_rfl
@[simp] theorem ty215 : tyOf Tryz.prog 215 = some ⟨.func #[48, 99, 99] #[4] false, 1, 8, .nilFunc, peOf Tryz.prog 215⟩ := by kernel_rfl
@[simp] theorem ty216 : tyOf Tryz.prog 216 = some ⟨.func #[3, 3, 4] #[] false, 1, 8, .nilFunc, peOf Tryz.prog 216⟩ := by kernel_rfl
@[simp] theorem ty217 : tyOf Tryz.prog 217 = some ⟨.func #[164, 99] #[4] false, 1, 8, .nilFunc, peOf Tryz.prog 217⟩ := by kernel_rfl
@[simp] theorem ty218 : tyOf Tryz.prog 218 = some ⟨.tuple #[39, 31], 1, 0, .tuple #[.slice none 0 0, .nilIface], peOf Tryz.prog 218⟩ := by kernel_rfl
@[simp] theorem ty219 : tyOf Tryz.prog 219 = some ⟨.func #[3, 3] #[39, 31] false, 1, 8, .nilFunc, peOf Tryz.prog 219⟩ := by kernel_rfl
@[simp] theorem ty220 : tyOf Tryz.prog 220 = some ⟨.func #[29, 39] #[99] false, 1, 8, .nilFunc, peOf Tryz.prog 220⟩ := by kernel_rfl
@[simp] theorem ty221 : tyOf Tryz.prog 221 = some ⟨.func #[25, 3] #[25] false, 1, 8, .nilFunc, peOf Tryz.prog 221⟩ := by kernel_rfl
@[simp] theorem ty222 : tyOf Tryz.prog 222 = some ⟨.func #[25, 208] #[3] false, 1, 8, .nilFunc, peOf Tryz.prog 222⟩ := by kernel_rfl
@[simp] theorem ty223 : tyOf Tryz.prog 223 = some ⟨.pointer 225, 1, 8, .pointer none, peOf Tryz.prog 223⟩ := by kernel_rfl
@[simp] theorem ty224 : tyOf Tryz.prog 224 = some ⟨.struct #[{ name := "s", type := 9, offset := 0, embedded := false, tag := "", pkgPath := "signalcabin/signalcabinref", byteOffset := 0 }, { name := "i", type := 3, offset := 1, embedded := false, tag := "", pkgPath := "signalcabin/signalcabinref", byteOffset := 16 }, { name := "f", type := 78, offset := 2, embedded := false, tag := "", pkgPath := "signalcabin/signalcabinref", byteOffset := 24 }], 4, 40, .agg #[.string ⟨#[]⟩, .int .i64 0, .int .i64 0, .int .i64 0], peOf Tryz.prog 224⟩ := by kernel_rfl
@[simp] theorem ty225 : tyOf Tryz.prog 225 = some ⟨.struct #[{ name := "s", type := 9, offset := 0, embedded := false, tag := "", pkgPath := "signalcabin/signalcabinref", byteOffset := 0 }, { name := "i", type := 3, offset := 1, embedded := false, tag := "", pkgPath := "signalcabin/signalcabinref", byteOffset := 16 }, { name := "f", type := 78, offset := 2, embedded := false, tag := "", pkgPath := "signalcabin/signalcabinref", byteOffset := 24 }], 4, 40, .agg #[.string ⟨#[]⟩, .int .i64 0, .int .i64 0, .int .i64 0], peOf Tryz.prog 225⟩ := by kernel_rfl
@[simp] theorem ty226 : tyOf Tryz.prog 226 = some ⟨.func #[3] #[69] false, 1, 8, .nilFunc, peOf Tryz.prog 226⟩ := by kernel_rfl
@[simp] theorem ty227 : tyOf Tryz.prog 227 = some ⟨.func #[] #[5] false, 1, 8, .nilFunc, peOf Tryz.prog 227⟩ := by kernel_rfl
@[simp] theorem ty228 : tyOf Tryz.prog 228 = some ⟨.func #[76] #[69] false, 1, 8, .nilFunc, peOf Tryz.prog 228⟩ := by kernel_rfl
@[simp] theorem ty229 : tyOf Tryz.prog 229 = some ⟨.pointer 231, 1, 8, .pointer none, peOf Tryz.prog 229⟩ := by kernel_rfl
@[simp] theorem ty230 : tyOf Tryz.prog 230 = some ⟨.struct #[{ name := "text", type := 9, offset := 0, embedded := false, tag := "", pkgPath := "signalcabin/expr", byteOffset := 0 }, { name := "at", type := 3, offset := 1, embedded := false, tag := "", pkgPath := "signalcabin/expr", byteOffset := 16 }], 2, 24, .agg #[.string ⟨#[]⟩, .int .i64 0], peOf Tryz.prog 230⟩ := by kernel_rfl
@[simp] theorem ty231 : tyOf Tryz.prog 231 = some ⟨.struct #[{ name := "text", type := 9, offset := 0, embedded := false, tag := "", pkgPath := "signalcabin/expr", byteOffset := 0 }, { name := "at", type := 3, offset := 1, embedded := false, tag := "", pkgPath := "signalcabin/expr", byteOffset := 16 }], 2, 24, .agg #[.string ⟨#[]⟩, .int .i64 0], true⟩ := by kernel_rfl
@[simp] theorem ty232 : tyOf Tryz.prog 232 = some ⟨.func #[3] #[48, 31] false, 1, 8, .nilFunc, peOf Tryz.prog 232⟩ := by kernel_rfl
@[simp] theorem ty233 : tyOf Tryz.prog 233 = some ⟨.func #[76] #[31] false, 1, 8, .nilFunc, peOf Tryz.prog 233⟩ := by kernel_rfl
@[simp] theorem ty234 : tyOf Tryz.prog 234 = some ⟨.func #[9] #[164] false, 1, 8, .nilFunc, peOf Tryz.prog 234⟩ := by kernel_rfl
@[simp] theorem ty235 : tyOf Tryz.prog 235 = some ⟨.func #[31] #[76] false, 1, 8, .nilFunc, peOf Tryz.prog 235⟩ := by kernel_rfl
@[simp] theorem ty236 : tyOf Tryz.prog 236 = some ⟨.interface #[("Unwrap", 238)], 1, 16, .nilIface, peOf Tryz.prog 236⟩ := by kernel_rfl
@[simp] theorem ty237 : tyOf Tryz.prog 237 = some ⟨.tuple #[236, 4], 1, 0, .tuple #[.nilIface, .bool false], peOf Tryz.prog 237⟩ := by kernel_rfl
@[simp] theorem ty238 : tyOf Tryz.prog 238 = some ⟨.func #[] #[31] false, 1, 8, .nilFunc, peOf Tryz.prog 238⟩ := by kernel_rfl
@[simp] theorem ty239 : tyOf Tryz.prog 239 = some ⟨.func #[164, 9] #[4] false, 1, 8, .nilFunc, peOf Tryz.prog 239⟩ := by kernel_rfl
@[simp] theorem ty240 : tyOf Tryz.prog 240 = some ⟨.array 7 3, 7, 56, .agg #[.int .i64 0, .int .i64 0, .int .i64 0, .int .i64 0, .int .i64 0, .int .i64 0, .int .i64 0], peOf Tryz.prog 240⟩ := by kernel_rfl
@[simp] theorem ty241 : tyOf Tryz.prog 241 = some ⟨.pointer 5, 1, 8, .pointer none, peOf Tryz.prog 241⟩ := by kernel_rfl
@[simp] theorem ty242 : tyOf Tryz.prog 242 = some ⟨.slice 69, 1, 24, .slice none 0 0, peOf Tryz.prog 242⟩ := by kernel_rfl
@[simp] theorem ty243 : tyOf Tryz.prog 243 = some ⟨.struct #[{ name := "Kind", type := 9, offset := 0, embedded := false, tag := "", pkgPath := "", byteOffset := 0 }, { name := "Name", type := 9, offset := 1, embedded := false, tag := "", pkgPath := "", byteOffset := 16 }, { name := "Of", type := 242, offset := 2, embedded := false, tag := "", pkgPath := "", byteOffset := 32 }], 3, 56, .agg #[.string ⟨#[]⟩, .string ⟨#[]⟩, .slice none 0 0], peOf Tryz.prog 243⟩ := by kernel_rfl
@[simp] theorem ty244 : tyOf Tryz.prog 244 = some ⟨.struct #[{ name := "Kind", type := 9, offset := 0, embedded := false, tag := "", pkgPath := "", byteOffset := 0 }, { name := "Name", type := 9, offset := 1, embedded := false, tag := "", pkgPath := "", byteOffset := 16 }, { name := "Of", type := 242, offset := 2, embedded := false, tag := "", pkgPath := "", byteOffset := 32 }], 3, 56, .agg #[.string ⟨#[]⟩, .string ⟨#[]⟩, .slice none 0 0], peOf Tryz.prog 244⟩ := by kernel_rfl
@[simp] theorem ty245 : tyOf Tryz.prog 245 = some ⟨.func #[48, 94] #[164] false, 1, 8, .nilFunc, peOf Tryz.prog 245⟩ := by kernel_rfl
@[simp] theorem ty246 : tyOf Tryz.prog 246 = some ⟨.func #[25, 3, 3, 3] #[] false, 1, 8, .nilFunc, peOf Tryz.prog 246⟩ := by kernel_rfl
@[simp] theorem ty247 : tyOf Tryz.prog 247 = some ⟨.func #[132] #[3] false, 1, 8, .nilFunc, peOf Tryz.prog 247⟩ := by kernel_rfl
@[simp] theorem ty248 : tyOf Tryz.prog 248 = some ⟨.func #[3] #[] false, 1, 8, .nilFunc, peOf Tryz.prog 248⟩ := by kernel_rfl
@[simp] theorem ty249 : tyOf Tryz.prog 249 = some ⟨.func #[9, 9] #[3] false, 1, 8, .nilFunc, peOf Tryz.prog 249⟩ := by kernel_rfl
@[simp] theorem ty250 : tyOf Tryz.prog 250 = some ⟨.func #[9, 9, 3] #[195] false, 1, 8, .nilFunc, peOf Tryz.prog 250⟩ := by kernel_rfl
@[simp] theorem ty251 : tyOf Tryz.prog 251 = some ⟨.func #[9, 5] #[9] false, 1, 8, .nilFunc, peOf Tryz.prog 251⟩ := by kernel_rfl
@[simp] theorem ty254 : tyOf Tryz.prog 254 = some ⟨.tuple #[253, 4], 1, 0, .tuple #[.agg #[.bool false, .bool false, .bool false, .bool false, .bool false, .bool false, .bool false, .bool false, .bool false, .bool false, .bool false, .bool false, .bool false, .bool false, .bool false, .bool false, .bool false, .bool false, .bool false, .bool false, .bool false, .bool false, .bool false, .bool false, .bool false, .bool false, .bool false, .bool false, .bool false, .bool false, .bool false, .bool false, .bool false, .bool false, .bool false, .bool false, .bool false, .bool false, .bool false, .bool false, .bool false, .bool false, .bool false, .bool false, .bool false, .bool false, .bool false, .bool false, .bool false, .bool false, .bool false, .bool false, .bool false, .bool false, .bool false, .bool false, .bool false, .bool false, .bool false, .bool false, .bool false, .bool false, .bool false, .bool false, .bool false, .bool false, .bool false, .bool false, .bool false, .bool false, .bool false, .bool false, .bool false, .bool false, .bool false, .bool false, .bool false, .bool false, .bool false, .bool false, .bool false, .bool false, .bool false, .bool false, .bool false, .bool false, .bool false, .bool false, .bool false, .bool false, .bool false, .bool false, .bool false, .bool false, .bool false, .bool false, .bool false, .bool false, .bool false, .bool false, .bool false, .bool false, .bool false, .bool false, .bool false, .bool false, .bool false, .bool false, .bool false, .bool false, .bool false, .bool false, .bool false, .bool false, .bool false, .bool false, .bool false, .bool false, .bool false, .bool false, .bool false, .bool false, .bool false, .bool false, .bool false, .bool false, .bool false, .bool false, .bool false, .bool false, .bool false, .bool false, .bool false, .bool false, .bool false, .bool false, .bool false, .bool false, .bool false, .bool false, .bool false, .bool false, .bool false, .bool false, .bool false, .bool false, .bool false, .bool false, .bool false, .bool false, .bool false, .bool false, .bool false, .bool false, .bool false, .bool false, .bool false, .bool false, .bool false, .bool false, .bool false, .bool false, .bool false, .bool false, .bool false, .bool false, .bool false, .bool false, .bool false, .bool false, .bool false, .bool false, .bool false, .bool false, .bool false, .bool false, .bool false, .bool false, .bool false, .bool false, .bool false, .bool false, .bool false, .bool false, .bool false, .bool false, .bool false, .bool false, .bool false, .bool false, .bool false, .bool false, .bool false, .bool false, .bool false, .bool false, .bool false, .bool false, .bool false, .bool false, .bool false, .bool false, .bool false, .bool false, .bool false, .bool false, .bool false, .bool false, .bool false, .bool false, .bool false, .bool false, .bool false, .bool false, .bool false, .bool false, .bool false, .bool false, .bool false, .bool false, .bool false, .bool false, .bool false, .bool false, .bool false, .bool false, .bool false, .bool false, .bool false, .bool false, .bool false, .bool false, .bool false, .bool false, .bool false, .bool false, .bool false, .bool false, .bool false, .bool false, .bool false, .bool false, .bool false, .bool false, .bool false, .bool false, .bool false, .bool false, .bool false, .bool false, .bool false, .bool false, .bool false, .bool false, .bool false, .bool false], .bool false], peOf Tryz.prog 254⟩ := by kernel_rfl
@[simp] theorem ty255 : tyOf Tryz.prog 255 = some ⟨.func #[9] #[253, 4] false, 1, 8, .nilFunc, peOf Tryz.prog 255⟩ := by kernel_rfl
@[simp] theorem ty256 : tyOf Tryz.prog 256 = some ⟨.func #[9, 257] #[9] false, 1, 8, .nilFunc, peOf Tryz.prog 256⟩ := by kernel_rfl
@[simp] theorem ty257 : tyOf Tryz.prog 257 = some ⟨.pointer 253, 1, 8, .pointer none, peOf Tryz.prog 257⟩ := by kernel_rfl
@[simp] theorem ty258 : tyOf Tryz.prog 258 = some ⟨.tuple #[9, 9, 4], 1, 0, .tuple #[.string ⟨#[]⟩, .string ⟨#[]⟩, .bool false], peOf Tryz.prog 258⟩ := by kernel_rfl
@[simp] theorem ty259 : tyOf Tryz.prog 259 = some ⟨.func #[9, 9] #[9, 9, 4] false, 1, 8, .nilFunc, peOf Tryz.prog 259⟩ := by kernel_rfl
@[simp] theorem ty260 : tyOf Tryz.prog 260 = some ⟨.func #[9, 261] #[164] false, 1, 8, .nilFunc, peOf Tryz.prog 260⟩ := by kernel_rfl
@[simp] theorem ty261 : tyOf Tryz.prog 261 = some ⟨.func #[21] #[4] false, 1, 8, .nilFunc, peOf Tryz.prog 261⟩ := by kernel_rfl
@[simp] theorem ty262 : tyOf Tryz.prog 262 = some ⟨.func #[9, 9] #[164] false, 1, 8, .nilFunc, peOf Tryz.prog 262⟩ := by kernel_rfl
@[simp] theorem ty263 : tyOf Tryz.prog 263 = some ⟨.func #[9, 5] #[3] false, 1, 8, .nilFunc, peOf Tryz.prog 263⟩ := by kernel_rfl
@[simp] theorem ty264 : tyOf Tryz.prog 264 = some ⟨.tuple #[3, 4], 1, 0, .tuple #[.int .i64 0, .bool false], peOf Tryz.prog 264⟩ := by kernel_rfl
@[simp] theorem ty265 : tyOf Tryz.prog 265 = some ⟨.func #[9] #[3, 4] false, 1, 8, .nilFunc, peOf Tryz.prog 265⟩ := by kernel_rfl
@[simp] theorem ty266 : tyOf Tryz.prog 266 = some ⟨.func #[119, 210] #[3] false, 1, 8, .nilFunc, peOf Tryz.prog 266⟩ := by kernel_rfl
@[simp] theorem ty267 : tyOf Tryz.prog 267 = some ⟨.func #[25, 3] #[3] false, 1, 8, .nilFunc, peOf Tryz.prog 267⟩ := by kernel_rfl
@[simp] theorem ty268 : tyOf Tryz.prog 268 = some ⟨.func #[2, 3] #[9] false, 1, 8, .nilFunc, peOf Tryz.prog 268⟩ := by kernel_rfl
@[simp] theorem ty269 : tyOf Tryz.prog 269 = some ⟨.func #[135, 270] #[4] false, 1, 8, .nilFunc, peOf Tryz.prog 269⟩ := by kernel_rfl
@[simp] theorem ty270 : tyOf Tryz.prog 270 = some ⟨.func #[48] #[4] false, 1, 8, .nilFunc, peOf Tryz.prog 270⟩ := by kernel_rfl
@[simp] theorem ty271 : tyOf Tryz.prog 271 = some ⟨.func #[136, 270] #[4] false, 1, 8, .nilFunc, peOf Tryz.prog 271⟩ := by kernel_rfl
@[simp] theorem ty272 : tyOf Tryz.prog 272 = some ⟨.pointer 45, 1, 8, .pointer none, peOf Tryz.prog 272⟩ := by kernel_rfl
@[simp] theorem ty273 : tyOf Tryz.prog 273 = some ⟨.func #[164, 99] #[3] false, 1, 8, .nilFunc, peOf Tryz.prog 273⟩ := by kernel_rfl
@[simp] theorem ty274 : tyOf Tryz.prog 274 = some ⟨.tuple #[132, 132], 1, 0, .tuple #[.int .u64 0, .int .u64 0], peOf Tryz.prog 274⟩ := by kernel_rfl
@[simp] theorem ty275 : tyOf Tryz.prog 275 = some ⟨.func #[132, 132] #[132, 132] false, 1, 8, .nilFunc, peOf Tryz.prog 275⟩ := by kernel_rfl
@[simp] theorem ty276 : tyOf Tryz.prog 276 = some ⟨.func #[5, 3, 226] #[69] false, 1, 8, .nilFunc, peOf Tryz.prog 276⟩ := by kernel_rfl
@[simp] theorem ty277 : tyOf Tryz.prog 277 = some ⟨.tuple #[122, 31], 1, 0, .tuple #[.slice none 0 0, .nilIface], peOf Tryz.prog 277⟩ := by kernel_rfl
@[simp] theorem ty278 : tyOf Tryz.prog 278 = some ⟨.func #[5, 3, 232] #[122, 31] false, 1, 8, .nilFunc, peOf Tryz.prog 278⟩ := by kernel_rfl
@[simp] theorem ty279 : tyOf Tryz.prog 279 = some ⟨.func #[69] #[] false, 1, 8, .nilFunc, peOf Tryz.prog 279⟩ := by kernel_rfl
@[simp] theorem ty280 : tyOf Tryz.prog 280 = some ⟨.func #[31, 20] #[4] false, 1, 8, .nilFunc, peOf Tryz.prog 280⟩ := by kernel_rfl
@[simp] theorem ty281 : tyOf Tryz.prog 281 = some ⟨.pointer 76, 1, 8, .pointer none, peOf Tryz.prog 281⟩ := by kernel_rfl
@[simp] theorem ty283 : tyOf Tryz.prog 283 = some ⟨.func #[282] #[282] false, 1, 8, .nilFunc, peOf Tryz.prog 283⟩ := by kernel_rfl
@[simp] theorem ty284 : tyOf Tryz.prog 284 = some ⟨.func #[48, 285] #[] false, 1, 8, .nilFunc, peOf Tryz.prog 284⟩ := by kernel_rfl
@[simp] theorem ty285 : tyOf Tryz.prog 285 = some ⟨.func #[48] #[] false, 1, 8, .nilFunc, peOf Tryz.prog 285⟩ := by kernel_rfl
@[simp] theorem ty286 : tyOf Tryz.prog 286 = some ⟨.func #[164] #[] false, 1, 8, .nilFunc, peOf Tryz.prog 286⟩ := by kernel_rfl
@[simp] theorem ty287 : tyOf Tryz.prog 287 = some ⟨.func #[164] #[164] false, 1, 8, .nilFunc, peOf Tryz.prog 287⟩ := by kernel_rfl
@[simp] theorem ty288 : tyOf Tryz.prog 288 = some ⟨.func #[25, 3, 3] #[] false, 1, 8, .nilFunc, peOf Tryz.prog 288⟩ := by kernel_rfl
@[simp] theorem ty289 : tyOf Tryz.prog 289 = some ⟨.int .i64, 1, 8, .int .i64 0, peOf Tryz.prog 289⟩ := by kernel_rfl
@[simp] theorem ty290 : tyOf Tryz.prog 290 = some ⟨.tuple #[3, 289], 1, 0, .tuple #[.int .i64 0, .int .i64 0], peOf Tryz.prog 290⟩ := by kernel_rfl
@[simp] theorem ty291 : tyOf Tryz.prog 291 = some ⟨.func #[25, 3, 3] #[3, 289] false, 1, 8, .nilFunc, peOf Tryz.prog 291⟩ := by kernel_rfl
@[simp] theorem ty292 : tyOf Tryz.prog 292 = some ⟨.func #[25, 3, 3] #[4] false, 1, 8, .nilFunc, peOf Tryz.prog 292⟩ := by kernel_rfl
@[simp] theorem ty293 : tyOf Tryz.prog 293 = some ⟨.func #[3, 3] #[4] false, 1, 8, .nilFunc, peOf Tryz.prog 293⟩ := by kernel_rfl
@[simp] theorem ty294 : tyOf Tryz.prog 294 = some ⟨.func #[25, 3, 3, 3] #[3] false, 1, 8, .nilFunc, peOf Tryz.prog 294⟩ := by kernel_rfl
@[simp] theorem ty295 : tyOf Tryz.prog 295 = some ⟨.func #[25, 3, 3, 3] #[3, 4] false, 1, 8, .nilFunc, peOf Tryz.prog 295⟩ := by kernel_rfl
@[simp] theorem ty296 : tyOf Tryz.prog 296 = some ⟨.func #[297] #[3] false, 1, 8, .nilFunc, peOf Tryz.prog 296⟩ := by kernel_rfl
@[simp] theorem ty297 : tyOf Tryz.prog 297 = some ⟨.int .u32, 1, 4, .int .u32 0, peOf Tryz.prog 297⟩ := by kernel_rfl
@[simp] theorem ty298 : tyOf Tryz.prog 298 = some ⟨.func #[299] #[3] false, 1, 8, .nilFunc, peOf Tryz.prog 298⟩ := by kernel_rfl
@[simp] theorem ty299 : tyOf Tryz.prog 299 = some ⟨.int .u64, 1, 8, .int .u64 0, peOf Tryz.prog 299⟩ := by kernel_rfl
@[simp] theorem ty300 : tyOf Tryz.prog 300 = some ⟨.tuple #[21, 3], 1, 0, .tuple #[.int .i32 0, .int .i64 0], peOf Tryz.prog 300⟩ := by kernel_rfl
@[simp] theorem ty301 : tyOf Tryz.prog 301 = some ⟨.func #[9] #[21, 3] false, 1, 8, .nilFunc, peOf Tryz.prog 301⟩ := by kernel_rfl
@[simp] theorem ty302 : tyOf Tryz.prog 302 = some ⟨.func #[5] #[4] false, 1, 8, .nilFunc, peOf Tryz.prog 302⟩ := by kernel_rfl
@[simp] theorem ty303 : tyOf Tryz.prog 303 = some ⟨.func #[9, 21] #[4] false, 1, 8, .nilFunc, peOf Tryz.prog 303⟩ := by kernel_rfl
@[simp] theorem ty304 : tyOf Tryz.prog 304 = some ⟨.slice 306, 1, 24, .slice none 0 0, peOf Tryz.prog 304⟩ := by kernel_rfl
@[simp] theorem ty305 : tyOf Tryz.prog 305 = some ⟨.struct #[{ name := "start", type := 3, offset := 0, embedded := false, tag := "", pkgPath := "strings", byteOffset := 0 }, { name := "end", type := 3, offset := 1, embedded := false, tag := "", pkgPath := "strings", byteOffset := 8 }], 2, 16, .agg #[.int .i64 0, .int .i64 0], peOf Tryz.prog 305⟩ := by kernel_rfl
@[simp] theorem ty306 : tyOf Tryz.prog 306 = some ⟨.struct #[{ name := "start", type := 3, offset := 0, embedded := false, tag := "", pkgPath := "strings", byteOffset := 0 }, { name := "end", type := 3, offset := 1, embedded := false, tag := "", pkgPath := "strings", byteOffset := 8 }], 2, 16, .agg #[.int .i64 0, .int .i64 0], peOf Tryz.prog 306⟩ := by kernel_rfl
@[simp] theorem ty307 : tyOf Tryz.prog 307 = some ⟨.func #[9, 9, 3, 3, 31] #[31] false, 1, 8, .nilFunc, peOf Tryz.prog 307⟩ := by kernel_rfl
@[simp] theorem ty308 : tyOf Tryz.prog 308 = some ⟨.func #[9, 9, 3, 3] #[164] false, 1, 8, .nilFunc, peOf Tryz.prog 308⟩ := by kernel_rfl
@[simp] theorem ty309 : tyOf Tryz.prog 309 = some ⟨.tuple #[2, 31], 1, 0, .tuple #[.int .i64 0, .nilIface], peOf Tryz.prog 309⟩ := by kernel_rfl
@[simp] theorem ty310 : tyOf Tryz.prog 310 = some ⟨.func #[9, 3, 3] #[2, 31] false, 1, 8, .nilFunc, peOf Tryz.prog 310⟩ := by kernel_rfl
@[simp] theorem ty311 : tyOf Tryz.prog 311 = some ⟨.array 24 5, 24, 24, .agg #[.int .u8 0, .int .u8 0, .int .u8 0, .int .u8 0, .int .u8 0, .int .u8 0, .int .u8 0, .int .u8 0, .int .u8 0, .int .u8 0, .int .u8 0, .int .u8 0, .int .u8 0, .int .u8 0, .int .u8 0, .int .u8 0, .int .u8 0, .int .u8 0, .int .u8 0, .int .u8 0, .int .u8 0, .int .u8 0, .int .u8 0, .int .u8 0], peOf Tryz.prog 311⟩ := by kernel_rfl
@[simp] theorem ty312 : tyOf Tryz.prog 312 = some ⟨.func #[172, 299] #[] false, 1, 8, .nilFunc, peOf Tryz.prog 312⟩ := by kernel_rfl
@[simp] theorem ty313 : tyOf Tryz.prog 313 = some ⟨.tuple #[172, 9], 1, 0, .tuple #[.slice none 0 0, .string ⟨#[]⟩], peOf Tryz.prog 313⟩ := by kernel_rfl
@[simp] theorem ty314 : tyOf Tryz.prog 314 = some ⟨.func #[172, 299, 3, 4, 4] #[172, 9] false, 1, 8, .nilFunc, peOf Tryz.prog 314⟩ := by kernel_rfl
@[simp] theorem ty315 : tyOf Tryz.prog 315 = some ⟨.func #[135, 270] #[3] false, 1, 8, .nilFunc, peOf Tryz.prog 315⟩ := by kernel_rfl
@[simp] theorem ty316 : tyOf Tryz.prog 316 = some ⟨.func #[136, 270] #[3] false, 1, 8, .nilFunc, peOf Tryz.prog 316⟩ := by kernel_rfl
@[simp] theorem ty317 : tyOf Tryz.prog 317 = some ⟨.tuple #[297, 297], 1, 0, .tuple #[.int .u32 0, .int .u32 0], peOf Tryz.prog 317⟩ := by kernel_rfl
@[simp] theorem ty318 : tyOf Tryz.prog 318 = some ⟨.func #[297, 297] #[297, 297] false, 1, 8, .nilFunc, peOf Tryz.prog 318⟩ := by kernel_rfl
@[simp] theorem ty319 : tyOf Tryz.prog 319 = some ⟨.tuple #[299, 299], 1, 0, .tuple #[.int .u64 0, .int .u64 0], peOf Tryz.prog 319⟩ := by kernel_rfl
@[simp] theorem ty320 : tyOf Tryz.prog 320 = some ⟨.func #[299, 299] #[299, 299] false, 1, 8, .nilFunc, peOf Tryz.prog 320⟩ := by kernel_rfl
@[simp] theorem ty322 : tyOf Tryz.prog 322 = some ⟨.struct #[{ name := "typ_", type := 17, offset := 0, embedded := false, tag := "", pkgPath := "internal/reflectlite", byteOffset := 0 }, { name := "ptr", type := 282, offset := 1, embedded := false, tag := "", pkgPath := "internal/reflectlite", byteOffset := 8 }, { name := "flag", type := 321, offset := 2, embedded := true, tag := "", pkgPath := "internal/reflectlite", byteOffset := 16 }], 3, 24, .agg #[.pointer none, .pointer none, .int .u64 0], peOf Tryz.prog 322⟩ := by kernel_rfl
@[simp] theorem ty324 : tyOf Tryz.prog 324 = some ⟨.func #[20] #[323] false, 1, 8, .nilFunc, peOf Tryz.prog 324⟩ := by kernel_rfl
@[simp] theorem ty325 : tyOf Tryz.prog 325 = some ⟨.interface #[("AssignableTo", 330), ("Comparable", 34), ("Elem", 327), ("Implements", 330), ("Kind", 329), ("Name", 180), ("PkgPath", 180), ("Size", 406), ("String", 180), ("internal/reflectlite.common", 397), ("internal/reflectlite.uncommon", 407)], 1, 16, .nilIface, peOf Tryz.prog 325⟩ := by kernel_rfl
@[simp] theorem ty327 : tyOf Tryz.prog 327 = some ⟨.func #[] #[326] false, 1, 8, .nilFunc, peOf Tryz.prog 327⟩ := by kernel_rfl
@[simp] theorem ty329 : tyOf Tryz.prog 329 = some ⟨.func #[] #[328] false, 1, 8, .nilFunc, peOf Tryz.prog 329⟩ := by kernel_rfl
@[simp] theorem ty330 : tyOf Tryz.prog 330 = some ⟨.func #[326] #[4] false, 1, 8, .nilFunc, peOf Tryz.prog 330⟩ := by kernel_rfl
@[simp] theorem ty331 : tyOf Tryz.prog 331 = some ⟨.func #[31, 20, 323, 326] #[4] false, 1, 8, .nilFunc, peOf Tryz.prog 331⟩ := by kernel_rfl
@[simp] theorem ty332 : tyOf Tryz.prog 332 = some ⟨.func #[164, 3, 3, 3] #[] false, 1, 8, .nilFunc, peOf Tryz.prog 332⟩ := by kernel_rfl
@[simp] theorem ty333 : tyOf Tryz.prog 333 = some ⟨.int .u64, 1, 8, .int .u64 0, peOf Tryz.prog 333⟩ := by kernel_rfl
@[simp] theorem ty334 : tyOf Tryz.prog 334 = some ⟨.func #[3] #[132] false, 1, 8, .nilFunc, peOf Tryz.prog 334⟩ := by kernel_rfl
@[simp] theorem ty335 : tyOf Tryz.prog 335 = some ⟨.func #[] #[299] false, 1, 8, .nilFunc, peOf Tryz.prog 335⟩ := by kernel_rfl
@[simp] theorem ty336 : tyOf Tryz.prog 336 = some ⟨.func #[25, 3, 337] #[3] false, 1, 8, .nilFunc, peOf Tryz.prog 336⟩ := by kernel_rfl
@[simp] theorem ty337 : tyOf Tryz.prog 337 = some ⟨.pointer 3, 1, 8, .pointer none, peOf Tryz.prog 337⟩ := by kernel_rfl
@[simp] theorem ty338 : tyOf Tryz.prog 338 = some ⟨.func #[25, 3, 3, 3, 337] #[3] false, 1, 8, .nilFunc, peOf Tryz.prog 338⟩ := by kernel_rfl
@[simp] theorem ty339 : tyOf Tryz.prog 339 = some ⟨.func #[3] #[172] false, 1, 8, .nilFunc, peOf Tryz.prog 339⟩ := by kernel_rfl
@[simp] theorem ty340 : tyOf Tryz.prog 340 = some ⟨.func #[9, 21] #[3] false, 1, 8, .nilFunc, peOf Tryz.prog 340⟩ := by kernel_rfl
@[simp] theorem ty342 : tyOf Tryz.prog 342 = some ⟨.pointer 380, 1, 8, .pointer none, peOf Tryz.prog 342⟩ := by kernel_rfl
@[simp] theorem ty343 : tyOf Tryz.prog 343 = some ⟨.func #[9, 9] #[342] false, 1, 8, .nilFunc, peOf Tryz.prog 343⟩ := by kernel_rfl
@[simp] theorem ty344 : tyOf Tryz.prog 344 = some ⟨.func #[9, 9, 3] #[342] false, 1, 8, .nilFunc, peOf Tryz.prog 344⟩ := by kernel_rfl
@[simp] theorem ty345 : tyOf Tryz.prog 345 = some ⟨.func #[9, 3] #[164] false, 1, 8, .nilFunc, peOf Tryz.prog 345⟩ := by kernel_rfl
@[simp] theorem ty346 : tyOf Tryz.prog 346 = some ⟨.func #[4] #[3] false, 1, 8, .nilFunc, peOf Tryz.prog 346⟩ := by kernel_rfl
@[simp] theorem ty347 : tyOf Tryz.prog 347 = some ⟨.array 20 299, 20, 160, .agg #[.int .u64 0, .int .u64 0, .int .u64 0, .int .u64 0, .int .u64 0, .int .u64 0, .int .u64 0, .int .u64 0, .int .u64 0, .int .u64 0, .int .u64 0, .int .u64 0, .int .u64 0, .int .u64 0, .int .u64 0, .int .u64 0, .int .u64 0, .int .u64 0, .int .u64 0, .int .u64 0], peOf Tryz.prog 347⟩ := by kernel_rfl
@[simp] theorem ty349 : tyOf Tryz.prog 349 = some ⟨.tuple #[9, 31], 1, 0, .tuple #[.string ⟨#[]⟩, .nilIface], peOf Tryz.prog 349⟩ := by kernel_rfl
@[simp] theorem ty350 : tyOf Tryz.prog 350 = some ⟨.func #[] #[9, 31] false, 1, 8, .nilFunc, peOf Tryz.prog 350⟩ := by kernel_rfl
@[simp] theorem ty351 : tyOf Tryz.prog 351 = some ⟨.struct #[{ name := "Type", type := 17, offset := 0, embedded := true, tag := "", pkgPath := "", byteOffset := 0 }], 1, 8, .agg #[.pointer none], peOf Tryz.prog 351⟩ := by kernel_rfl
@[simp] theorem ty353 : tyOf Tryz.prog 353 = some ⟨.pointer 409, 1, 8, .pointer none, peOf Tryz.prog 353⟩ := by kernel_rfl
@[simp] theorem ty354 : tyOf Tryz.prog 354 = some ⟨.func #[20] #[326] false, 1, 8, .nilFunc, peOf Tryz.prog 354⟩ := by kernel_rfl
@[simp] theorem ty355 : tyOf Tryz.prog 355 = some ⟨.func #[] #[323] false, 1, 8, .nilFunc, peOf Tryz.prog 355⟩ := by kernel_rfl
@[simp] theorem ty356 : tyOf Tryz.prog 356 = some ⟨.func #[323] #[] false, 1, 8, .nilFunc, peOf Tryz.prog 356⟩ := by kernel_rfl
@[simp] theorem ty357 : tyOf Tryz.prog 357 = some ⟨.interface #[("As", 359)], 1, 16, .nilIface, peOf Tryz.prog 357⟩ := by kernel_rfl
@[simp] theorem ty358 : tyOf Tryz.prog 358 = some ⟨.tuple #[357, 4], 1, 0, .tuple #[.nilIface, .bool false], peOf Tryz.prog 358⟩ := by kernel_rfl
@[simp] theorem ty359 : tyOf Tryz.prog 359 = some ⟨.func #[20] #[4] false, 1, 8, .nilFunc, peOf Tryz.prog 359⟩ := by kernel_rfl
@[simp] theorem ty360 : tyOf Tryz.prog 360 = some ⟨.interface #[("Unwrap", 362)], 1, 16, .nilIface, peOf Tryz.prog 360⟩ := by kernel_rfl
@[simp] theorem ty361 : tyOf Tryz.prog 361 = some ⟨.slice 31, 1, 24, .slice none 0 0, peOf Tryz.prog 361⟩ := by kernel_rfl
@[simp] theorem ty362 : tyOf Tryz.prog 362 = some ⟨.func #[] #[361] false, 1, 8, .nilFunc, peOf Tryz.prog 362⟩ := by kernel_rfl
@[simp] theorem ty363 : tyOf Tryz.prog 363 = some ⟨.func #[164, 3, 3] #[] false, 1, 8, .nilFunc, peOf Tryz.prog 363⟩ := by kernel_rfl
@[simp] theorem ty364 : tyOf Tryz.prog 364 = some ⟨.func #[164, 3, 3] #[3, 289] false, 1, 8, .nilFunc, peOf Tryz.prog 364⟩ := by kernel_rfl
@[simp] theorem ty365 : tyOf Tryz.prog 365 = some ⟨.func #[164, 3, 3] #[4] false, 1, 8, .nilFunc, peOf Tryz.prog 365⟩ := by kernel_rfl
@[simp] theorem ty366 : tyOf Tryz.prog 366 = some ⟨.func #[164, 3, 3, 3] #[3] false, 1, 8, .nilFunc, peOf Tryz.prog 366⟩ := by kernel_rfl
@[simp] theorem ty367 : tyOf Tryz.prog 367 = some ⟨.func #[164, 3, 3, 3] #[3, 4] false, 1, 8, .nilFunc, peOf Tryz.prog 367⟩ := by kernel_rfl
@[simp] theorem ty368 : tyOf Tryz.prog 368 = some ⟨.pointer 333, 1, 8, .pointer none, peOf Tryz.prog 368⟩ := by kernel_rfl
@[simp] theorem ty369 : tyOf Tryz.prog 369 = some ⟨.tuple #[3, 3], 1, 0, .tuple #[.int .i64 0, .int .i64 0], peOf Tryz.prog 369⟩ := by kernel_rfl
@[simp] theorem ty370 : tyOf Tryz.prog 370 = some ⟨.func #[25, 3, 3, 337] #[3, 3] false, 1, 8, .nilFunc, peOf Tryz.prog 370⟩ := by kernel_rfl
@[simp] theorem ty371 : tyOf Tryz.prog 371 = some ⟨.func #[9] #[297, 297] false, 1, 8, .nilFunc, peOf Tryz.prog 371⟩ := by kernel_rfl
@[simp] theorem ty373 : tyOf Tryz.prog 373 = some ⟨.struct #[{ name := "lo", type := 5, offset := 0, embedded := false, tag := "", pkgPath := "unicode/utf8", byteOffset := 0 }, { name := "hi", type := 5, offset := 1, embedded := false, tag := "", pkgPath := "unicode/utf8", byteOffset := 1 }], 2, 2, .agg #[.int .u8 0, .int .u8 0], peOf Tryz.prog 373⟩ := by kernel_rfl
@[simp] theorem ty374 : tyOf Tryz.prog 374 = some ⟨.struct #[{ name := "lo", type := 5, offset := 0, embedded := false, tag := "", pkgPath := "unicode/utf8", byteOffset := 0 }, { name := "hi", type := 5, offset := 1, embedded := false, tag := "", pkgPath := "unicode/utf8", byteOffset := 1 }], 2, 2, .agg #[.int .u8 0, .int .u8 0], peOf Tryz.prog 374⟩ := by kernel_rfl
@[simp] theorem ty375 : tyOf Tryz.prog 375 = some ⟨.array 16 374, 32, 32, .agg #[.int .u8 0, .int .u8 0, .int .u8 0, .int .u8 0, .int .u8 0, .int .u8 0, .int .u8 0, .int .u8 0, .int .u8 0, .int .u8 0, .int .u8 0, .int .u8 0, .int .u8 0, .int .u8 0, .int .u8 0, .int .u8 0, .int .u8 0, .int .u8 0, .int .u8 0, .int .u8 0, .int .u8 0, .int .u8 0, .int .u8 0, .int .u8 0, .int .u8 0, .int .u8 0, .int .u8 0, .int .u8 0, .int .u8 0, .int .u8 0, .int .u8 0, .int .u8 0], peOf Tryz.prog 375⟩ := by kernel_rfl
@[simp] theorem ty376 : tyOf Tryz.prog 376 = some ⟨.tuple #[299, 31], 1, 0, .tuple #[.int .u64 0, .nilIface], peOf Tryz.prog 376⟩ := by kernel_rfl
@[simp] theorem ty377 : tyOf Tryz.prog 377 = some ⟨.func #[9, 3, 3] #[299, 31] false, 1, 8, .nilFunc, peOf Tryz.prog 377⟩ := by kernel_rfl
@[simp] theorem ty378 : tyOf Tryz.prog 378 = some ⟨.func #[9] #[9] false, 1, 8, .nilFunc, peOf Tryz.prog 378⟩ := by kernel_rfl
@[simp] theorem ty379 : tyOf Tryz.prog 379 = some ⟨.struct #[{ name := "Func", type := 9, offset := 0, embedded := false, tag := "", pkgPath := "", byteOffset := 0 }, { name := "Num", type := 9, offset := 1, embedded := false, tag := "", pkgPath := "", byteOffset := 16 }, { name := "Err", type := 31, offset := 2, embedded := false, tag := "", pkgPath := "", byteOffset := 32 }], 3, 48, .agg #[.string ⟨#[]⟩, .string ⟨#[]⟩, .nilIface], peOf Tryz.prog 379⟩ := by kernel_rfl
@[simp] theorem ty380 : tyOf Tryz.prog 380 = some ⟨.struct #[{ name := "Func", type := 9, offset := 0, embedded := false, tag := "", pkgPath := "", byteOffset := 0 }, { name := "Num", type := 9, offset := 1, embedded := false, tag := "", pkgPath := "", byteOffset := 16 }, { name := "Err", type := 31, offset := 2, embedded := false, tag := "", pkgPath := "", byteOffset := 32 }], 3, 48, .agg #[.string ⟨#[]⟩, .string ⟨#[]⟩, .nilIface], peOf Tryz.prog 380⟩ := by kernel_rfl
@[simp] theorem ty381 : tyOf Tryz.prog 381 = some ⟨.func #[9] #[31] false, 1, 8, .nilFunc, peOf Tryz.prog 381⟩ := by kernel_rfl
@[simp] theorem ty382 : tyOf Tryz.prog 382 = some ⟨.func #[164, 3, 337] #[3] false, 1, 8, .nilFunc, peOf Tryz.prog 382⟩ := by kernel_rfl
@[simp] theorem ty383 : tyOf Tryz.prog 383 = some ⟨.func #[164, 3, 3, 3, 337] #[3] false, 1, 8, .nilFunc, peOf Tryz.prog 383⟩ := by kernel_rfl
@[simp] theorem ty384 : tyOf Tryz.prog 384 = some ⟨.func #[5] #[5] false, 1, 8, .nilFunc, peOf Tryz.prog 384⟩ := by kernel_rfl
@[simp] theorem ty385 : tyOf Tryz.prog 385 = some ⟨.pointer 387, 1, 8, .pointer none, peOf Tryz.prog 385⟩ := by kernel_rfl
@[simp] theorem ty386 : tyOf Tryz.prog 386 = some ⟨.struct #[{ name := "s", type := 9, offset := 0, embedded := false, tag := "", pkgPath := "errors", byteOffset := 0 }], 1, 16, .agg #[.string ⟨#[]⟩], peOf Tryz.prog 386⟩ := by kernel_rfl
@[simp] theorem ty387 : tyOf Tryz.prog 387 = some ⟨.struct #[{ name := "s", type := 9, offset := 0, embedded := false, tag := "", pkgPath := "errors", byteOffset := 0 }], 1, 16, .agg #[.string ⟨#[]⟩], peOf Tryz.prog 387⟩ := by kernel_rfl
@[simp] theorem ty388 : tyOf Tryz.prog 388 = some ⟨.array 32 5, 32, 32, .agg #[.int .u8 0, .int .u8 0, .int .u8 0, .int .u8 0, .int .u8 0, .int .u8 0, .int .u8 0, .int .u8 0, .int .u8 0, .int .u8 0, .int .u8 0, .int .u8 0, .int .u8 0, .int .u8 0, .int .u8 0, .int .u8 0, .int .u8 0, .int .u8 0, .int .u8 0, .int .u8 0, .int .u8 0, .int .u8 0, .int .u8 0, .int .u8 0, .int .u8 0, .int .u8 0, .int .u8 0, .int .u8 0, .int .u8 0, .int .u8 0, .int .u8 0, .int .u8 0], peOf Tryz.prog 388⟩ := by kernel_rfl
@[simp] theorem ty390 : tyOf Tryz.prog 390 = some ⟨.func #[164, 3, 3, 337] #[3, 3] false, 1, 8, .nilFunc, peOf Tryz.prog 390⟩ := by kernel_rfl
@[simp] theorem ty391 : tyOf Tryz.prog 391 = some ⟨.struct #[{ name := "_interface", type := 17, offset := 0, embedded := false, tag := "", pkgPath := "runtime", byteOffset := 0 }, { name := "concrete", type := 17, offset := 1, embedded := false, tag := "", pkgPath := "runtime", byteOffset := 8 }, { name := "asserted", type := 17, offset := 2, embedded := false, tag := "", pkgPath := "runtime", byteOffset := 16 }, { name := "missingMethod", type := 9, offset := 3, embedded := false, tag := "", pkgPath := "runtime", byteOffset := 24 }], 4, 40, .agg #[.pointer none, .pointer none, .pointer none, .string ⟨#[]⟩], peOf Tryz.prog 391⟩ := by kernel_rfl
@[simp] theorem ty393 : tyOf Tryz.prog 393 = some ⟨.array 0 16, 0, 0, .agg #[], peOf Tryz.prog 393⟩ := by kernel_rfl
@[simp] theorem ty394 : tyOf Tryz.prog 394 = some ⟨.struct #[{ name := "_", type := 393, offset := 0, embedded := false, tag := "", pkgPath := "runtime", byteOffset := 0 }], 0, 0, .agg #[], peOf Tryz.prog 394⟩ := by kernel_rfl
@[simp] theorem ty396 : tyOf Tryz.prog 396 = some ⟨.func #[] #[3] false, 1, 8, .nilFunc, peOf Tryz.prog 396⟩ := by kernel_rfl
@[simp] theorem ty397 : tyOf Tryz.prog 397 = some ⟨.func #[] #[17] false, 1, 8, .nilFunc, peOf Tryz.prog 397⟩ := by kernel_rfl
@[simp] theorem ty399 : tyOf Tryz.prog 399 = some ⟨.func #[282, 282] #[4] false, 1, 8, .nilFunc, peOf Tryz.prog 399⟩ := by kernel_rfl
@[simp] theorem ty402 : tyOf Tryz.prog 402 = some ⟨.struct #[{ name := "Size_", type := 12, offset := 0, embedded := false, tag := "", pkgPath := "", byteOffset := 0 }, { name := "PtrBytes", type := 12, offset := 1, embedded := false, tag := "", pkgPath := "", byteOffset := 8 }, { name := "Hash", type := 297, offset := 2, embedded := false, tag := "", pkgPath := "", byteOffset := 16 }, { name := "TFlag", type := 398, offset := 3, embedded := false, tag := "", pkgPath := "", byteOffset := 20 }, { name := "Align_", type := 5, offset := 4, embedded := false, tag := "", pkgPath := "", byteOffset := 21 }, { name := "FieldAlign_", type := 5, offset := 5, embedded := false, tag := "", pkgPath := "", byteOffset := 22 }, { name := "Kind_", type := 328, offset := 6, embedded := false, tag := "", pkgPath := "", byteOffset := 23 }, { name := "Equal", type := 399, offset := 7, embedded := false, tag := "", pkgPath := "", byteOffset := 24 }, { name := "GCData", type := 241, offset := 8, embedded := false, tag := "", pkgPath := "", byteOffset := 32 }, { name := "Str", type := 400, offset := 9, embedded := false, tag := "", pkgPath := "", byteOffset := 40 }, { name := "PtrToThis", type := 401, offset := 10, embedded := false, tag := "", pkgPath := "", byteOffset := 44 }], 11, 48, .agg #[.int .u64 0, .int .u64 0, .int .u32 0, .int .u8 0, .int .u8 0, .int .u8 0, .int .u8 0, .nilFunc, .pointer none, .int .i32 0, .int .i32 0], peOf Tryz.prog 402⟩ := by kernel_rfl
@[simp] theorem ty404 : tyOf Tryz.prog 404 = some ⟨.func #[48, 3] #[9] false, 1, 8, .nilFunc, peOf Tryz.prog 404⟩ := by kernel_rfl
@[simp] theorem ty405 : tyOf Tryz.prog 405 = some ⟨.func #[122, 9, 3, 4] #[9] false, 1, 8, .nilFunc, peOf Tryz.prog 405⟩ := by kernel_rfl
@[simp] theorem ty406 : tyOf Tryz.prog 406 = some ⟨.func #[] #[12] false, 1, 8, .nilFunc, peOf Tryz.prog 406⟩ := by kernel_rfl
@[simp] theorem ty407 : tyOf Tryz.prog 407 = some ⟨.func #[] #[410] false, 1, 8, .nilFunc, peOf Tryz.prog 407⟩ := by kernel_rfl
@[simp] theorem ty408 : tyOf Tryz.prog 408 = some ⟨.struct #[{ name := "Method", type := 9, offset := 0, embedded := false, tag := "", pkgPath := "", byteOffset := 0 }, { name := "Kind", type := 328, offset := 1, embedded := false, tag := "", pkgPath := "", byteOffset := 16 }], 2, 24, .agg #[.string ⟨#[]⟩, .int .u8 0], peOf Tryz.prog 408⟩ := by kernel_rfl
@[simp] theorem ty410 : tyOf Tryz.prog 410 = some ⟨.pointer 414, 1, 8, .pointer none, peOf Tryz.prog 410⟩ := by kernel_rfl
@[simp] theorem ty411 : tyOf Tryz.prog 411 = some ⟨.func #[] #[415] false, 1, 8, .nilFunc, peOf Tryz.prog 411⟩ := by kernel_rfl
@[simp] theorem ty412 : tyOf Tryz.prog 412 = some ⟨.int .u16, 1, 2, .int .u16 0, peOf Tryz.prog 412⟩ := by kernel_rfl
@[simp] theorem ty413 : tyOf Tryz.prog 413 = some ⟨.struct #[{ name := "PkgPath", type := 400, offset := 0, embedded := false, tag := "", pkgPath := "", byteOffset := 0 }, { name := "Mcount", type := 412, offset := 1, embedded := false, tag := "", pkgPath := "", byteOffset := 4 }, { name := "Xcount", type := 412, offset := 2, embedded := false, tag := "", pkgPath := "", byteOffset := 6 }, { name := "Moff", type := 297, offset := 3, embedded := false, tag := "", pkgPath := "", byteOffset := 8 }, { name := "_", type := 297, offset := 4, embedded := false, tag := "", pkgPath := "internal/abi", byteOffset := 12 }], 5, 16, .agg #[.int .i32 0, .int .u16 0, .int .u16 0, .int .u32 0, .int .u32 0], peOf Tryz.prog 413⟩ := by kernel_rfl
@[simp] theorem ty415 : tyOf Tryz.prog 415 = some ⟨.slice 418, 1, 24, .slice none 0 0, peOf Tryz.prog 415⟩ := by kernel_rfl
@[simp] theorem ty417 : tyOf Tryz.prog 417 = some ⟨.struct #[{ name := "Name", type := 400, offset := 0, embedded := false, tag := "", pkgPath := "", byteOffset := 0 }, { name := "Mtyp", type := 401, offset := 1, embedded := false, tag := "", pkgPath := "", byteOffset := 4 }, { name := "Ifn", type := 416, offset := 2, embedded := false, tag := "", pkgPath := "", byteOffset := 8 }, { name := "Tfn", type := 416, offset := 3, embedded := false, tag := "", pkgPath := "", byteOffset := 12 }], 4, 16, .agg #[.int .i32 0, .int .i32 0, .int .i32 0, .int .i32 0], peOf Tryz.prog 417⟩ := by kernel_rfl
@[simp] theorem ty419 : tyOf Tryz.prog 419 = some ⟨.pointer 31, 1, 8, .pointer none, peOf Tryz.prog 419⟩ := by kernel_rfl
end Go.Proofs.YtjaodmndkpalkaaGreatDoor
namespace Go.Proofs.YtjaodmndkpalkaaGreatDoor
open Go.Av
def idx {α : Type} (p : α → Bool) (l : List α) : Int := match l.findIdx? p with
 | some i => i
 | none => -1
theorem idx_hit {α : Type} {p : α → Bool} {l : List α} {n : Nat} (hn : n < l.length) (h : p l[n] = true) (hb : ∀ i (hi : i < n), p (l[i]'(by omega)) = false) : idx p l = n := by
 unfold idx
 have : l.findIdx? p = some n := by
  rw [List.findIdx?_eq_some_iff_getElem]; exact ⟨hn, h, fun j hj => by simpa using hb j hj⟩
 rw [this]
theorem idx_miss {α : Type} {p : α → Bool} {l : List α} (hb : ∀ i (hi : i < l.length), p l[i] = false) : idx p l = -1 := by
 unfold idx
 have : l.findIdx? p = none := by
  rw [List.findIdx?_eq_none_iff]
  intro x hx
  obtain ⟨i, hi, rfl⟩ := List.mem_iff_getElem.1 hx
  exact hb i hi
 rw [this]
def Answers {α : Type} (G : Glob) (g : FuncId) (caps : List D) (enc : α → D) (p : α → Bool) (xs : List α) : Prop := ∀ x ∈ xs, PureC Tryz.prog G g (enc x :: caps) (.v (.bool (p x)))
theorem idx_any {α : Type} (p : α → Bool) (l : List α) : decide (0 ≤ idx p l) = l.any p := by
 unfold idx
 split
 ·rename_i i hi
  rw [List.findIdx?_eq_some_iff_getElem] at hi
  obtain ⟨h1, h2, _⟩ := hi
  have : l.any p = true := List.any_eq_true.2 ⟨_, List.getElem_mem h1, h2⟩
  rw [this]; simp
 ·rename_i h
  rw [List.findIdx?_eq_none_iff] at h
  have : l.any p = false := by
   rw [List.any_eq_false]
   intro x hx
   simpa using h x hx
  rw [this]; simp
end Go.Proofs.YtjaodmndkpalkaaGreatDoor
