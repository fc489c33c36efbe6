/-
  Texts that belong together, in one file: Ty, F1, F2, F3, RT1, F5, F6, RT2, RT3.
-/
import Derived.Test.YtnlhioeefmhklaaGreatDoorRc9
import Derived.Test.YtnlhioeefmhklaaGreatDoorProg
/-
  What the types of this seat's translation are: closed facts, by program (wip/tools/gen_ty.py).
-/
namespace Go.Proofs.YtnlhioeefmhklaaGreatDoor
open Go.Av
@[simp] theorem ty0 : tyOf Tryz.prog 0 = some ⟨.tuple #[], 1, 0, .tuple #[], peOf Tryz.prog 0⟩ := by kernel_rfl
@[simp] theorem ty1 : tyOf Tryz.prog 1 = some ⟨.func #[] #[] false, 1, 8, .nilFunc, peOf Tryz.prog 1⟩ := by kernel_rfl
@[simp] theorem ty2 : tyOf Tryz.prog 2 = some ⟨.int .i64, 1, 8, .int .i64 0, peOf Tryz.prog 2⟩ := by kernel_rfl
@[simp] theorem ty3 : tyOf Tryz.prog 3 = some ⟨.int .i64, 1, 8, .int .i64 0, peOf Tryz.prog 3⟩ := by kernel_rfl
@[simp] theorem ty4 : tyOf Tryz.prog 4 = some ⟨.bool, 1, 1, .bool false, peOf Tryz.prog 4⟩ := by kernel_rfl
@[simp] theorem ty5 : tyOf Tryz.prog 5 = some ⟨.int .u8, 1, 1, .int .u8 0, peOf Tryz.prog 5⟩ := by kernel_rfl
@[simp] theorem ty7 : tyOf Tryz.prog 7 = some ⟨.struct #[{ name := "x", type := 2, offset := 0, embedded := false, tag := "", pkgPath := "runtime", byteOffset := 0 }, { name := "y", type := 3, offset := 1, embedded := false, tag := "", pkgPath := "runtime", byteOffset := 8 }, { name := "signed", type := 4, offset := 2, embedded := false, tag := "", pkgPath := "runtime", byteOffset := 16 }, { name := "code", type := 6, offset := 3, embedded := false, tag := "", pkgPath := "runtime", byteOffset := 17 }], 4, 24, .agg #[.int .i64 0, .int .i64 0, .bool false, .int .u8 0], peOf Tryz.prog 7⟩ := by kernel_rfl
@[simp] theorem ty9 : tyOf Tryz.prog 9 = some ⟨.string, 1, 16, .string ⟨#[]⟩, peOf Tryz.prog 9⟩ := by kernel_rfl
@[simp] theorem ty12 : tyOf Tryz.prog 12 = some ⟨.int .u64, 1, 8, .int .u64 0, peOf Tryz.prog 12⟩ := by kernel_rfl
@[simp] theorem ty13 : tyOf Tryz.prog 13 = some ⟨.struct #[{ name := "msg", type := 9, offset := 0, embedded := false, tag := "", pkgPath := "runtime", byteOffset := 0 }, { name := "addr", type := 12, offset := 1, embedded := false, tag := "", pkgPath := "runtime", byteOffset := 16 }], 2, 24, .agg #[.string ⟨#[]⟩, .int .u64 0], peOf Tryz.prog 13⟩ := by kernel_rfl
@[simp] theorem ty15 : tyOf Tryz.prog 15 = some ⟨.pointer 327, 1, 8, .pointer none, peOf Tryz.prog 15⟩ := by kernel_rfl
@[simp] theorem ty16 : tyOf Tryz.prog 16 = some ⟨.pointer 330, 1, 8, .pointer none, peOf Tryz.prog 16⟩ := by kernel_rfl
@[simp] theorem ty17 : tyOf Tryz.prog 17 = some ⟨.pointer 338, 1, 8, .pointer none, peOf Tryz.prog 17⟩ := by kernel_rfl
@[simp] theorem ty18 : tyOf Tryz.prog 18 = some ⟨.struct #[{ name := "typ", type := 17, offset := 0, embedded := false, tag := "", pkgPath := "internal/runtime/maps", byteOffset := 0 }], 1, 8, .agg #[.pointer none], peOf Tryz.prog 18⟩ := by kernel_rfl
@[simp] theorem ty20 : tyOf Tryz.prog 20 = some ⟨.interface #[], 1, 16, .nilIface, peOf Tryz.prog 20⟩ := by kernel_rfl
@[simp] theorem ty21 : tyOf Tryz.prog 21 = some ⟨.int .i32, 1, 4, .int .i32 0, peOf Tryz.prog 21⟩ := by kernel_rfl
@[simp] theorem ty22 : tyOf Tryz.prog 22 = some ⟨.slice 3, 1, 24, .slice none 0 0, peOf Tryz.prog 22⟩ := by kernel_rfl
@[simp] theorem ty23 : tyOf Tryz.prog 23 = some ⟨.slice 92, 1, 24, .slice none 0 0, peOf Tryz.prog 23⟩ := by kernel_rfl
@[simp] theorem ty24 : tyOf Tryz.prog 24 = some ⟨.struct #[{ name := "Sections", type := 22, offset := 0, embedded := false, tag := "", pkgPath := "", byteOffset := 0 }, { name := "Points", type := 23, offset := 1, embedded := false, tag := "", pkgPath := "", byteOffset := 24 }], 2, 48, .agg #[.slice none 0 0, .slice none 0 0], peOf Tryz.prog 24⟩ := by kernel_rfl
@[simp] theorem ty25 : tyOf Tryz.prog 25 = some ⟨.struct #[{ name := "Sections", type := 22, offset := 0, embedded := false, tag := "", pkgPath := "", byteOffset := 0 }, { name := "Points", type := 23, offset := 1, embedded := false, tag := "", pkgPath := "", byteOffset := 24 }], 2, 48, .agg #[.slice none 0 0, .slice none 0 0], peOf Tryz.prog 25⟩ := by kernel_rfl
@[simp] theorem ty26 : tyOf Tryz.prog 26 = some ⟨.func #[] #[4] false, 1, 8, .nilFunc, peOf Tryz.prog 26⟩ := by kernel_rfl
@[simp] theorem ty27 : tyOf Tryz.prog 27 = some ⟨.func #[25, 25] #[4] false, 1, 8, .nilFunc, peOf Tryz.prog 27⟩ := by kernel_rfl
@[simp] theorem ty28 : tyOf Tryz.prog 28 = some ⟨.slice 40, 1, 24, .slice none 0 0, peOf Tryz.prog 28⟩ := by kernel_rfl
@[simp] theorem ty29 : tyOf Tryz.prog 29 = some ⟨.slice 43, 1, 24, .slice none 0 0, peOf Tryz.prog 29⟩ := by kernel_rfl
@[simp] theorem ty30 : tyOf Tryz.prog 30 = some ⟨.struct #[{ name := "Names", type := 28, offset := 0, embedded := false, tag := "", pkgPath := "", byteOffset := 0 }, { name := "Rungs", type := 29, offset := 1, embedded := false, tag := "", pkgPath := "", byteOffset := 24 }], 2, 48, .agg #[.slice none 0 0, .slice none 0 0], peOf Tryz.prog 30⟩ := by kernel_rfl
@[simp] theorem ty31 : tyOf Tryz.prog 31 = some ⟨.struct #[{ name := "Names", type := 28, offset := 0, embedded := false, tag := "", pkgPath := "", byteOffset := 0 }, { name := "Rungs", type := 29, offset := 1, embedded := false, tag := "", pkgPath := "", byteOffset := 24 }], 2, 48, .agg #[.slice none 0 0, .slice none 0 0], peOf Tryz.prog 31⟩ := by kernel_rfl
@[simp] theorem ty32 : tyOf Tryz.prog 32 = some ⟨.slice 50, 1, 24, .slice none 0 0, peOf Tryz.prog 32⟩ := by kernel_rfl
@[simp] theorem ty33 : tyOf Tryz.prog 33 = some ⟨.struct #[{ name := "Names", type := 28, offset := 0, embedded := false, tag := "", pkgPath := "", byteOffset := 0 }, { name := "Rungs", type := 32, offset := 1, embedded := false, tag := "", pkgPath := "", byteOffset := 24 }], 2, 48, .agg #[.slice none 0 0, .slice none 0 0], peOf Tryz.prog 33⟩ := by kernel_rfl
@[simp] theorem ty34 : tyOf Tryz.prog 34 = some ⟨.struct #[{ name := "Names", type := 28, offset := 0, embedded := false, tag := "", pkgPath := "", byteOffset := 0 }, { name := "Rungs", type := 32, offset := 1, embedded := false, tag := "", pkgPath := "", byteOffset := 24 }], 2, 48, .agg #[.slice none 0 0, .slice none 0 0], peOf Tryz.prog 34⟩ := by kernel_rfl
@[simp] theorem ty35 : tyOf Tryz.prog 35 = some ⟨.slice 41, 1, 24, .slice none 0 0, peOf Tryz.prog 35⟩ := by kernel_rfl
@[simp] theorem ty36 : tyOf Tryz.prog 36 = some ⟨.slice 52, 1, 24, .slice none 0 0, peOf Tryz.prog 36⟩ := by kernel_rfl
@[simp] theorem ty37 : tyOf Tryz.prog 37 = some ⟨.struct #[{ name := "Names", type := 35, offset := 0, embedded := false, tag := "", pkgPath := "", byteOffset := 0 }, { name := "Rungs", type := 36, offset := 1, embedded := false, tag := "", pkgPath := "", byteOffset := 24 }], 2, 48, .agg #[.slice none 0 0, .slice none 0 0], peOf Tryz.prog 37⟩ := by kernel_rfl
@[simp] theorem ty38 : tyOf Tryz.prog 38 = some ⟨.struct #[{ name := "Names", type := 35, offset := 0, embedded := false, tag := "", pkgPath := "", byteOffset := 0 }, { name := "Rungs", type := 36, offset := 1, embedded := false, tag := "", pkgPath := "", byteOffset := 24 }], 2, 48, .agg #[.slice none 0 0, .slice none 0 0], peOf Tryz.prog 38⟩ := by kernel_rfl
@[simp] theorem ty39 : tyOf Tryz.prog 39 = some ⟨.struct #[{ name := "Name", type := 9, offset := 0, embedded := false, tag := "", pkgPath := "", byteOffset := 0 }, { name := "Kind", type := 3, offset := 1, embedded := false, tag := "", pkgPath := "", byteOffset := 16 }, { name := "Count", type := 3, offset := 2, embedded := false, tag := "", pkgPath := "", byteOffset := 24 }], 3, 32, .agg #[.string ⟨#[]⟩, .int .i64 0, .int .i64 0], peOf Tryz.prog 39⟩ := by kernel_rfl
@[simp] theorem ty40 : tyOf Tryz.prog 40 = some ⟨.struct #[{ name := "Name", type := 9, offset := 0, embedded := false, tag := "", pkgPath := "", byteOffset := 0 }, { name := "Kind", type := 3, offset := 1, embedded := false, tag := "", pkgPath := "", byteOffset := 16 }, { name := "Count", type := 3, offset := 2, embedded := false, tag := "", pkgPath := "", byteOffset := 24 }], 3, 32, .agg #[.string ⟨#[]⟩, .int .i64 0, .int .i64 0], true⟩ := by kernel_rfl
@[simp] theorem ty41 : tyOf Tryz.prog 41 = some ⟨.struct #[{ name := "Name", type := 9, offset := 0, embedded := false, tag := "", pkgPath := "", byteOffset := 0 }, { name := "Kind", type := 3, offset := 1, embedded := false, tag := "", pkgPath := "", byteOffset := 16 }, { name := "Count", type := 3, offset := 2, embedded := false, tag := "", pkgPath := "", byteOffset := 24 }], 3, 32, .agg #[.string ⟨#[]⟩, .int .i64 0, .int .i64 0], true⟩ := by kernel_rfl
@[simp] theorem ty42 : tyOf Tryz.prog 42 = some ⟨.struct #[{ name := "Kind", type := 3, offset := 0, embedded := false, tag := "", pkgPath := "", byteOffset := 0 }, { name := "Name", type := 9, offset := 1, embedded := false, tag := "", pkgPath := "", byteOffset := 8 }, { name := "If", type := 9, offset := 2, embedded := false, tag := "", pkgPath := "", byteOffset := 24 }], 3, 40, .agg #[.int .i64 0, .string ⟨#[]⟩, .string ⟨#[]⟩], peOf Tryz.prog 42⟩ := by kernel_rfl
@[simp] theorem ty43 : tyOf Tryz.prog 43 = some ⟨.struct #[{ name := "Kind", type := 3, offset := 0, embedded := false, tag := "", pkgPath := "", byteOffset := 0 }, { name := "Name", type := 9, offset := 1, embedded := false, tag := "", pkgPath := "", byteOffset := 8 }, { name := "If", type := 9, offset := 2, embedded := false, tag := "", pkgPath := "", byteOffset := 24 }], 3, 40, .agg #[.int .i64 0, .string ⟨#[]⟩, .string ⟨#[]⟩], true⟩ := by kernel_rfl
@[simp] theorem ty44 : tyOf Tryz.prog 44 = some ⟨.interface #[("Text", 120)], 1, 16, .nilIface, peOf Tryz.prog 44⟩ := by kernel_rfl
@[simp] theorem ty45 : tyOf Tryz.prog 45 = some ⟨.interface #[("Text", 120)], 1, 16, .nilIface, peOf Tryz.prog 45⟩ := by kernel_rfl
@[simp] theorem ty46 : tyOf Tryz.prog 46 = some ⟨.pointer 175, 1, 8, .pointer none, peOf Tryz.prog 46⟩ := by kernel_rfl
@[simp] theorem ty47 : tyOf Tryz.prog 47 = some ⟨.tuple #[45, 46, 4], 1, 0, .tuple #[.nilIface, .pointer none, .bool false], peOf Tryz.prog 47⟩ := by kernel_rfl
@[simp] theorem ty48 : tyOf Tryz.prog 48 = some ⟨.func #[9] #[45, 46, 4] false, 1, 8, .nilFunc, peOf Tryz.prog 48⟩ := by kernel_rfl
@[simp] theorem ty49 : tyOf Tryz.prog 49 = some ⟨.struct #[{ name := "Kind", type := 3, offset := 0, embedded := false, tag := "", pkgPath := "", byteOffset := 0 }, { name := "Name", type := 9, offset := 1, embedded := false, tag := "", pkgPath := "", byteOffset := 8 }, { name := "If", type := 45, offset := 2, embedded := false, tag := "", pkgPath := "", byteOffset := 24 }], 3, 40, .agg #[.int .i64 0, .string ⟨#[]⟩, .nilIface], peOf Tryz.prog 49⟩ := by kernel_rfl
@[simp] theorem ty50 : tyOf Tryz.prog 50 = some ⟨.struct #[{ name := "Kind", type := 3, offset := 0, embedded := false, tag := "", pkgPath := "", byteOffset := 0 }, { name := "Name", type := 9, offset := 1, embedded := false, tag := "", pkgPath := "", byteOffset := 8 }, { name := "If", type := 45, offset := 2, embedded := false, tag := "", pkgPath := "", byteOffset := 24 }], 3, 40, .agg #[.int .i64 0, .string ⟨#[]⟩, .nilIface], peOf Tryz.prog 50⟩ := by kernel_rfl
@[simp] theorem ty51 : tyOf Tryz.prog 51 = some ⟨.struct #[{ name := "Kind", type := 3, offset := 0, embedded := false, tag := "", pkgPath := "", byteOffset := 0 }, { name := "Name", type := 9, offset := 1, embedded := false, tag := "", pkgPath := "", byteOffset := 8 }, { name := "If", type := 46, offset := 2, embedded := false, tag := "", pkgPath := "", byteOffset := 24 }], 3, 32, .agg #[.int .i64 0, .string ⟨#[]⟩, .pointer none], peOf Tryz.prog 51⟩ := by kernel_rfl
@[simp] theorem ty52 : tyOf Tryz.prog 52 = some ⟨.struct #[{ name := "Kind", type := 3, offset := 0, embedded := false, tag := "", pkgPath := "", byteOffset := 0 }, { name := "Name", type := 9, offset := 1, embedded := false, tag := "", pkgPath := "", byteOffset := 8 }, { name := "If", type := 46, offset := 2, embedded := false, tag := "", pkgPath := "", byteOffset := 24 }], 3, 32, .agg #[.int .i64 0, .string ⟨#[]⟩, .pointer none], peOf Tryz.prog 52⟩ := by kernel_rfl
@[simp] theorem ty53 : tyOf Tryz.prog 53 = some ⟨.int .i64, 1, 8, .int .i64 0, peOf Tryz.prog 53⟩ := by kernel_rfl
@[simp] theorem ty54 : tyOf Tryz.prog 54 = some ⟨.struct #[{ name := "Err", type := 53, offset := 0, embedded := false, tag := "", pkgPath := "", byteOffset := 0 }, { name := "Place", type := 3, offset := 1, embedded := false, tag := "", pkgPath := "", byteOffset := 8 }], 2, 16, .agg #[.int .i64 0, .int .i64 0], peOf Tryz.prog 54⟩ := by kernel_rfl
@[simp] theorem ty55 : tyOf Tryz.prog 55 = some ⟨.struct #[{ name := "Err", type := 53, offset := 0, embedded := false, tag := "", pkgPath := "", byteOffset := 0 }, { name := "Place", type := 3, offset := 1, embedded := false, tag := "", pkgPath := "", byteOffset := 8 }], 2, 16, .agg #[.int .i64 0, .int .i64 0], true⟩ := by kernel_rfl
@[simp] theorem ty56 : tyOf Tryz.prog 56 = some ⟨.func #[38] #[55] false, 1, 8, .nilFunc, peOf Tryz.prog 56⟩ := by kernel_rfl
@[simp] theorem ty57 : tyOf Tryz.prog 57 = some ⟨.func #[59, 55] #[4] false, 1, 8, .nilFunc, peOf Tryz.prog 57⟩ := by kernel_rfl
@[simp] theorem ty58 : tyOf Tryz.prog 58 = some ⟨.interface #[("Error", 120)], 1, 16, .nilIface, peOf Tryz.prog 58⟩ := by kernel_rfl
@[simp] theorem ty59 : tyOf Tryz.prog 59 = some ⟨.interface #[("Error", 120)], 1, 16, .nilIface, peOf Tryz.prog 59⟩ := by kernel_rfl
@[simp] theorem ty60 : tyOf Tryz.prog 60 = some ⟨.func #[34] #[59] false, 1, 8, .nilFunc, peOf Tryz.prog 60⟩ := by kernel_rfl
@[simp] theorem ty61 : tyOf Tryz.prog 61 = some ⟨.func #[22, 22] #[4] false, 1, 8, .nilFunc, peOf Tryz.prog 61⟩ := by kernel_rfl
@[simp] theorem ty62 : tyOf Tryz.prog 62 = some ⟨.func #[3] #[22] false, 1, 8, .nilFunc, peOf Tryz.prog 62⟩ := by kernel_rfl
@[simp] theorem ty63 : tyOf Tryz.prog 63 = some ⟨.func #[9] #[3] false, 1, 8, .nilFunc, peOf Tryz.prog 63⟩ := by kernel_rfl
@[simp] theorem ty64 : tyOf Tryz.prog 64 = some ⟨.func #[34] #[9] false, 1, 8, .nilFunc, peOf Tryz.prog 64⟩ := by kernel_rfl
@[simp] theorem ty65 : tyOf Tryz.prog 65 = some ⟨.func #[38] #[9] false, 1, 8, .nilFunc, peOf Tryz.prog 65⟩ := by kernel_rfl
@[simp] theorem ty66 : tyOf Tryz.prog 66 = some ⟨.func #[] #[22] false, 1, 8, .nilFunc, peOf Tryz.prog 66⟩ := by kernel_rfl
@[simp] theorem ty67 : tyOf Tryz.prog 67 = some ⟨.func #[31] #[4] false, 1, 8, .nilFunc, peOf Tryz.prog 67⟩ := by kernel_rfl
@[simp] theorem ty68 : tyOf Tryz.prog 68 = some ⟨.tuple #[34, 4], 1, 0, .tuple #[.agg #[.slice none 0 0, .slice none 0 0], .bool false], peOf Tryz.prog 68⟩ := by kernel_rfl
@[simp] theorem ty69 : tyOf Tryz.prog 69 = some ⟨.func #[9] #[34, 4] false, 1, 8, .nilFunc, peOf Tryz.prog 69⟩ := by kernel_rfl
@[simp] theorem ty70 : tyOf Tryz.prog 70 = some ⟨.slice 75, 1, 24, .slice none 0 0, peOf Tryz.prog 70⟩ := by kernel_rfl
@[simp] theorem ty71 : tyOf Tryz.prog 71 = some ⟨.func #[22, 3] #[70] false, 1, 8, .nilFunc, peOf Tryz.prog 71⟩ := by kernel_rfl
@[simp] theorem ty72 : tyOf Tryz.prog 72 = some ⟨.slice 77, 1, 24, .slice none 0 0, peOf Tryz.prog 72⟩ := by kernel_rfl
@[simp] theorem ty73 : tyOf Tryz.prog 73 = some ⟨.tuple #[72, 59], 1, 0, .tuple #[.slice none 0 0, .nilIface], peOf Tryz.prog 73⟩ := by kernel_rfl
@[simp] theorem ty74 : tyOf Tryz.prog 74 = some ⟨.func #[34, 70] #[72, 59] false, 1, 8, .nilFunc, peOf Tryz.prog 74⟩ := by kernel_rfl
@[simp] theorem ty75 : tyOf Tryz.prog 75 = some ⟨.slice 4, 1, 24, .slice none 0 0, peOf Tryz.prog 75⟩ := by kernel_rfl
@[simp] theorem ty76 : tyOf Tryz.prog 76 = some ⟨.struct #[{ name := "Is", type := 75, offset := 0, embedded := false, tag := "", pkgPath := "", byteOffset := 0 }, { name := "Count", type := 22, offset := 1, embedded := false, tag := "", pkgPath := "", byteOffset := 24 }], 2, 48, .agg #[.slice none 0 0, .slice none 0 0], peOf Tryz.prog 76⟩ := by kernel_rfl
@[simp] theorem ty77 : tyOf Tryz.prog 77 = some ⟨.struct #[{ name := "Is", type := 75, offset := 0, embedded := false, tag := "", pkgPath := "", byteOffset := 0 }, { name := "Count", type := 22, offset := 1, embedded := false, tag := "", pkgPath := "", byteOffset := 24 }], 2, 48, .agg #[.slice none 0 0, .slice none 0 0], peOf Tryz.prog 77⟩ := by kernel_rfl
@[simp] theorem ty78 : tyOf Tryz.prog 78 = some ⟨.func #[9, 22] #[4] false, 1, 8, .nilFunc, peOf Tryz.prog 78⟩ := by kernel_rfl
@[simp] theorem ty79 : tyOf Tryz.prog 79 = some ⟨.tuple #[34, 59], 1, 0, .tuple #[.agg #[.slice none 0 0, .slice none 0 0], .nilIface], peOf Tryz.prog 79⟩ := by kernel_rfl
@[simp] theorem ty80 : tyOf Tryz.prog 80 = some ⟨.func #[9] #[34, 59] false, 1, 8, .nilFunc, peOf Tryz.prog 80⟩ := by kernel_rfl
@[simp] theorem ty81 : tyOf Tryz.prog 81 = some ⟨.func #[45] #[9] false, 1, 8, .nilFunc, peOf Tryz.prog 81⟩ := by kernel_rfl
@[simp] theorem ty82 : tyOf Tryz.prog 82 = some ⟨.func #[9] #[4] false, 1, 8, .nilFunc, peOf Tryz.prog 82⟩ := by kernel_rfl
@[simp] theorem ty83 : tyOf Tryz.prog 83 = some ⟨.slice 25, 1, 24, .slice none 0 0, peOf Tryz.prog 83⟩ := by kernel_rfl
@[simp] theorem ty84 : tyOf Tryz.prog 84 = some ⟨.struct #[{ name := "Sections", type := 3, offset := 0, embedded := false, tag := "", pkgPath := "", byteOffset := 0 }, { name := "Points", type := 3, offset := 1, embedded := false, tag := "", pkgPath := "", byteOffset := 8 }, { name := "Routes", type := 83, offset := 2, embedded := false, tag := "", pkgPath := "", byteOffset := 16 }], 3, 40, .agg #[.int .i64 0, .int .i64 0, .slice none 0 0], peOf Tryz.prog 84⟩ := by kernel_rfl
@[simp] theorem ty85 : tyOf Tryz.prog 85 = some ⟨.struct #[{ name := "Sections", type := 3, offset := 0, embedded := false, tag := "", pkgPath := "", byteOffset := 0 }, { name := "Points", type := 3, offset := 1, embedded := false, tag := "", pkgPath := "", byteOffset := 8 }, { name := "Routes", type := 83, offset := 2, embedded := false, tag := "", pkgPath := "", byteOffset := 16 }], 3, 40, .agg #[.int .i64 0, .int .i64 0, .slice none 0 0], peOf Tryz.prog 85⟩ := by kernel_rfl
@[simp] theorem ty86 : tyOf Tryz.prog 86 = some ⟨.func #[85] #[34, 59] false, 1, 8, .nilFunc, peOf Tryz.prog 86⟩ := by kernel_rfl
@[simp] theorem ty87 : tyOf Tryz.prog 87 = some ⟨.func #[22, 89] #[4] false, 1, 8, .nilFunc, peOf Tryz.prog 87⟩ := by kernel_rfl
@[simp] theorem ty88 : tyOf Tryz.prog 88 = some ⟨.func #[22, 3] #[4] false, 1, 8, .nilFunc, peOf Tryz.prog 88⟩ := by kernel_rfl
@[simp] theorem ty89 : tyOf Tryz.prog 89 = some ⟨.func #[3] #[4] false, 1, 8, .nilFunc, peOf Tryz.prog 89⟩ := by kernel_rfl
@[simp] theorem ty90 : tyOf Tryz.prog 90 = some ⟨.func #[23, 94] #[4] false, 1, 8, .nilFunc, peOf Tryz.prog 90⟩ := by kernel_rfl
@[simp] theorem ty91 : tyOf Tryz.prog 91 = some ⟨.struct #[{ name := "Number", type := 3, offset := 0, embedded := false, tag := "", pkgPath := "", byteOffset := 0 }, { name := "Over", type := 4, offset := 1, embedded := false, tag := "", pkgPath := "", byteOffset := 8 }], 2, 16, .agg #[.int .i64 0, .bool false], peOf Tryz.prog 91⟩ := by kernel_rfl
@[simp] theorem ty92 : tyOf Tryz.prog 92 = some ⟨.struct #[{ name := "Number", type := 3, offset := 0, embedded := false, tag := "", pkgPath := "", byteOffset := 0 }, { name := "Over", type := 4, offset := 1, embedded := false, tag := "", pkgPath := "", byteOffset := 8 }], 2, 16, .agg #[.int .i64 0, .bool false], true⟩ := by kernel_rfl
@[simp] theorem ty93 : tyOf Tryz.prog 93 = some ⟨.func #[23, 92] #[4] false, 1, 8, .nilFunc, peOf Tryz.prog 93⟩ := by kernel_rfl
@[simp] theorem ty94 : tyOf Tryz.prog 94 = some ⟨.func #[92] #[4] false, 1, 8, .nilFunc, peOf Tryz.prog 94⟩ := by kernel_rfl
@[simp] theorem ty95 : tyOf Tryz.prog 95 = some ⟨.tuple #[46, 55], 1, 0, .tuple #[.pointer none, .agg #[.int .i64 0, .int .i64 0]], peOf Tryz.prog 95⟩ := by kernel_rfl
@[simp] theorem ty96 : tyOf Tryz.prog 96 = some ⟨.func #[9] #[46, 55] false, 1, 8, .nilFunc, peOf Tryz.prog 96⟩ := by kernel_rfl
@[simp] theorem ty97 : tyOf Tryz.prog 97 = some ⟨.tuple #[45, 59], 1, 0, .tuple #[.nilIface, .nilIface], peOf Tryz.prog 97⟩ := by kernel_rfl
@[simp] theorem ty98 : tyOf Tryz.prog 98 = some ⟨.func #[9] #[45, 59] false, 1, 8, .nilFunc, peOf Tryz.prog 98⟩ := by kernel_rfl
@[simp] theorem ty99 : tyOf Tryz.prog 99 = some ⟨.func #[53] #[55] false, 1, 8, .nilFunc, peOf Tryz.prog 99⟩ := by kernel_rfl
@[simp] theorem ty100 : tyOf Tryz.prog 100 = some ⟨.func #[3, 3, 3] #[4] false, 1, 8, .nilFunc, peOf Tryz.prog 100⟩ := by kernel_rfl
@[simp] theorem ty101 : tyOf Tryz.prog 101 = some ⟨.slice 9, 1, 24, .slice none 0 0, peOf Tryz.prog 101⟩ := by kernel_rfl
@[simp] theorem ty102 : tyOf Tryz.prog 102 = some ⟨.func #[] #[101] false, 1, 8, .nilFunc, peOf Tryz.prog 102⟩ := by kernel_rfl
@[simp] theorem ty103 : tyOf Tryz.prog 103 = some ⟨.tuple #[53, 3], 1, 0, .tuple #[.int .i64 0, .int .i64 0], peOf Tryz.prog 103⟩ := by kernel_rfl
@[simp] theorem ty104 : tyOf Tryz.prog 104 = some ⟨.func #[59] #[53, 3] false, 1, 8, .nilFunc, peOf Tryz.prog 104⟩ := by kernel_rfl
@[simp] theorem ty105 : tyOf Tryz.prog 105 = some ⟨.pointer 106, 1, 8, .pointer none, peOf Tryz.prog 105⟩ := by kernel_rfl
@[simp] theorem ty106 : tyOf Tryz.prog 106 = some ⟨.struct #[{ name := "Err", type := 53, offset := 0, embedded := false, tag := "", pkgPath := "", byteOffset := 0 }, { name := "Place", type := 3, offset := 1, embedded := false, tag := "", pkgPath := "", byteOffset := 8 }], 2, 16, .agg #[.int .i64 0, .int .i64 0], true⟩ := by kernel_rfl
@[simp] theorem ty107 : tyOf Tryz.prog 107 = some ⟨.func #[50] #[53] false, 1, 8, .nilFunc, peOf Tryz.prog 107⟩ := by kernel_rfl
@[simp] theorem ty108 : tyOf Tryz.prog 108 = some ⟨.func #[28, 109] #[3] false, 1, 8, .nilFunc, peOf Tryz.prog 108⟩ := by kernel_rfl
@[simp] theorem ty109 : tyOf Tryz.prog 109 = some ⟨.func #[40] #[4] false, 1, 8, .nilFunc, peOf Tryz.prog 109⟩ := by kernel_rfl
@[simp] theorem ty110 : tyOf Tryz.prog 110 = some ⟨.pointer 113, 1, 8, .pointer none, peOf Tryz.prog 110⟩ := by kernel_rfl
@[simp] theorem ty111 : tyOf Tryz.prog 111 = some ⟨.slice 5, 1, 24, .slice none 0 0, peOf Tryz.prog 111⟩ := by kernel_rfl
@[simp] theorem ty112 : tyOf Tryz.prog 112 = some ⟨.struct #[{ name := "addr", type := 110, offset := 0, embedded := false, tag := "", pkgPath := "strings", byteOffset := 0 }, { name := "buf", type := 111, offset := 1, embedded := false, tag := "", pkgPath := "strings", byteOffset := 8 }], 2, 32, .agg #[.pointer none, .slice none 0 0], peOf Tryz.prog 112⟩ := by kernel_rfl
@[simp] theorem ty113 : tyOf Tryz.prog 113 = some ⟨.struct #[{ name := "addr", type := 110, offset := 0, embedded := false, tag := "", pkgPath := "strings", byteOffset := 0 }, { name := "buf", type := 111, offset := 1, embedded := false, tag := "", pkgPath := "strings", byteOffset := 8 }], 2, 32, .agg #[.pointer none, .slice none 0 0], peOf Tryz.prog 113⟩ := by kernel_rfl
@[simp] theorem ty114 : tyOf Tryz.prog 114 = some ⟨.tuple #[3, 59], 1, 0, .tuple #[.int .i64 0, .nilIface], peOf Tryz.prog 114⟩ := by kernel_rfl
@[simp] theorem ty115 : tyOf Tryz.prog 115 = some ⟨.func #[9] #[3, 59] false, 1, 8, .nilFunc, peOf Tryz.prog 115⟩ := by kernel_rfl
@[simp] theorem ty116 : tyOf Tryz.prog 116 = some ⟨.array 5 9, 5, 80, .agg #[.string ⟨#[]⟩, .string ⟨#[]⟩, .string ⟨#[]⟩, .string ⟨#[]⟩, .string ⟨#[]⟩], peOf Tryz.prog 116⟩ := by kernel_rfl
@[simp] theorem ty117 : tyOf Tryz.prog 117 = some ⟨.func #[3] #[9] false, 1, 8, .nilFunc, peOf Tryz.prog 117⟩ := by kernel_rfl
@[simp] theorem ty118 : tyOf Tryz.prog 118 = some ⟨.func #[5] #[59] false, 1, 8, .nilFunc, peOf Tryz.prog 118⟩ := by kernel_rfl
@[simp] theorem ty119 : tyOf Tryz.prog 119 = some ⟨.array 7 9, 7, 112, .agg #[.string ⟨#[]⟩, .string ⟨#[]⟩, .string ⟨#[]⟩, .string ⟨#[]⟩, .string ⟨#[]⟩, .string ⟨#[]⟩, .string ⟨#[]⟩], peOf Tryz.prog 119⟩ := by kernel_rfl
@[simp] theorem ty120 : tyOf Tryz.prog 120 = some ⟨.func #[] #[9] false, 1, 8, .nilFunc, peOf Tryz.prog 120⟩ := by kernel_rfl
@[simp] theorem ty121 : tyOf Tryz.prog 121 = some ⟨.func #[22] #[9] true, 1, 8, .nilFunc, peOf Tryz.prog 121⟩ := by kernel_rfl
@[simp] theorem ty122 : tyOf Tryz.prog 122 = some ⟨.func #[45] #[101] false, 1, 8, .nilFunc, peOf Tryz.prog 122⟩ := by kernel_rfl
@[simp] theorem ty123 : tyOf Tryz.prog 123 = some ⟨.func #[22] #[] false, 1, 8, .nilFunc, peOf Tryz.prog 123⟩ := by kernel_rfl
@[simp] theorem ty124 : tyOf Tryz.prog 124 = some ⟨.func #[22] #[22] false, 1, 8, .nilFunc, peOf Tryz.prog 124⟩ := by kernel_rfl
@[simp] theorem ty125 : tyOf Tryz.prog 125 = some ⟨.func #[101, 9] #[3] false, 1, 8, .nilFunc, peOf Tryz.prog 125⟩ := by kernel_rfl
@[simp] theorem ty126 : tyOf Tryz.prog 126 = some ⟨.func #[34] #[77] false, 1, 8, .nilFunc, peOf Tryz.prog 126⟩ := by kernel_rfl
@[simp] theorem ty127 : tyOf Tryz.prog 127 = some ⟨.tuple #[77, 59], 1, 0, .tuple #[.agg #[.slice none 0 0, .slice none 0 0], .nilIface], peOf Tryz.prog 127⟩ := by kernel_rfl
@[simp] theorem ty128 : tyOf Tryz.prog 128 = some ⟨.func #[34, 77, 75] #[77, 59] false, 1, 8, .nilFunc, peOf Tryz.prog 128⟩ := by kernel_rfl
@[simp] theorem ty129 : tyOf Tryz.prog 129 = some ⟨.func #[82] #[] false, 1, 8, .nilFunc, peOf Tryz.prog 129⟩ := by kernel_rfl
@[simp] theorem ty130 : tyOf Tryz.prog 130 = some ⟨.func #[82] #[] false, 1, 8, .nilFunc, peOf Tryz.prog 130⟩ := by kernel_rfl
@[simp] theorem ty131 : tyOf Tryz.prog 131 = some ⟨.func #[9, 9] #[130] false, 1, 8, .nilFunc, peOf Tryz.prog 131⟩ := by kernel_rfl
@[simp] theorem ty132 : tyOf Tryz.prog 132 = some ⟨.func #[9, 9] #[9] false, 1, 8, .nilFunc, peOf Tryz.prog 132⟩ := by kernel_rfl
@[simp] theorem ty133 : tyOf Tryz.prog 133 = some ⟨.pointer 40, 1, 8, .pointer none, peOf Tryz.prog 133⟩ := by kernel_rfl
@[simp] theorem ty134 : tyOf Tryz.prog 134 = some ⟨.pointer 50, 1, 8, .pointer none, peOf Tryz.prog 134⟩ := by kernel_rfl
@[simp] theorem ty135 : tyOf Tryz.prog 135 = some ⟨.tuple #[133, 134, 59], 1, 0, .tuple #[.pointer none, .pointer none, .nilIface], peOf Tryz.prog 135⟩ := by kernel_rfl
@[simp] theorem ty136 : tyOf Tryz.prog 136 = some ⟨.func #[9] #[133, 134, 59] false, 1, 8, .nilFunc, peOf Tryz.prog 136⟩ := by kernel_rfl
@[simp] theorem ty137 : tyOf Tryz.prog 137 = some ⟨.tuple #[105, 4], 1, 0, .tuple #[.pointer none, .bool false], peOf Tryz.prog 137⟩ := by kernel_rfl
@[simp] theorem ty138 : tyOf Tryz.prog 138 = some ⟨.func #[195] #[22] true, 1, 8, .nilFunc, peOf Tryz.prog 138⟩ := by kernel_rfl
@[simp] theorem ty139 : tyOf Tryz.prog 139 = some ⟨.func #[85] #[59] false, 1, 8, .nilFunc, peOf Tryz.prog 139⟩ := by kernel_rfl
@[simp] theorem ty140 : tyOf Tryz.prog 140 = some ⟨.func #[9, 3] #[9] false, 1, 8, .nilFunc, peOf Tryz.prog 140⟩ := by kernel_rfl
@[simp] theorem ty141 : tyOf Tryz.prog 141 = some ⟨.func #[3, 9, 3] #[] false, 1, 8, .nilFunc, peOf Tryz.prog 141⟩ := by kernel_rfl
@[simp] theorem ty142 : tyOf Tryz.prog 142 = some ⟨.slice 45, 1, 24, .slice none 0 0, peOf Tryz.prog 142⟩ := by kernel_rfl
@[simp] theorem ty143 : tyOf Tryz.prog 143 = some ⟨.string, 1, 16, .string ⟨#[]⟩, peOf Tryz.prog 143⟩ := by kernel_rfl
@[simp] theorem ty144 : tyOf Tryz.prog 144 = some ⟨.struct #[{ name := "Of", type := 45, offset := 0, embedded := false, tag := "", pkgPath := "", byteOffset := 0 }], 1, 16, .agg #[.nilIface], peOf Tryz.prog 144⟩ := by kernel_rfl
@[simp] theorem ty145 : tyOf Tryz.prog 145 = some ⟨.struct #[{ name := "Of", type := 45, offset := 0, embedded := false, tag := "", pkgPath := "", byteOffset := 0 }], 1, 16, .agg #[.nilIface], peOf Tryz.prog 145⟩ := by kernel_rfl
@[simp] theorem ty146 : tyOf Tryz.prog 146 = some ⟨.func #[25] #[142] false, 1, 8, .nilFunc, peOf Tryz.prog 146⟩ := by kernel_rfl
@[simp] theorem ty147 : tyOf Tryz.prog 147 = some ⟨.func #[142] #[45] true, 1, 8, .nilFunc, peOf Tryz.prog 147⟩ := by kernel_rfl
@[simp] theorem ty148 : tyOf Tryz.prog 148 = some ⟨.func #[22, 89] #[3] false, 1, 8, .nilFunc, peOf Tryz.prog 148⟩ := by kernel_rfl
@[simp] theorem ty149 : tyOf Tryz.prog 149 = some ⟨.func #[22, 3] #[3] false, 1, 8, .nilFunc, peOf Tryz.prog 149⟩ := by kernel_rfl
@[simp] theorem ty150 : tyOf Tryz.prog 150 = some ⟨.func #[23, 94] #[3] false, 1, 8, .nilFunc, peOf Tryz.prog 150⟩ := by kernel_rfl
@[simp] theorem ty151 : tyOf Tryz.prog 151 = some ⟨.func #[23, 92] #[3] false, 1, 8, .nilFunc, peOf Tryz.prog 151⟩ := by kernel_rfl
@[simp] theorem ty152 : tyOf Tryz.prog 152 = some ⟨.pointer 154, 1, 8, .pointer none, peOf Tryz.prog 152⟩ := by kernel_rfl
@[simp] theorem ty153 : tyOf Tryz.prog 153 = some ⟨.struct #[{ name := "s", type := 9, offset := 0, embedded := false, tag := "", pkgPath := "signalcabin/signalcabinref", byteOffset := 0 }, { name := "i", type := 3, offset := 1, embedded := false, tag := "", pkgPath := "signalcabin/signalcabinref", byteOffset := 16 }, { name := "f", type := 55, offset := 2, embedded := false, tag := "", pkgPath := "signalcabin/signalcabinref", byteOffset := 24 }], 4, 40, .agg #[.string ⟨#[]⟩, .int .i64 0, .int .i64 0, .int .i64 0], peOf Tryz.prog 153⟩ := by kernel_rfl
@[simp] theorem ty154 : tyOf Tryz.prog 154 = some ⟨.struct #[{ name := "s", type := 9, offset := 0, embedded := false, tag := "", pkgPath := "signalcabin/signalcabinref", byteOffset := 0 }, { name := "i", type := 3, offset := 1, embedded := false, tag := "", pkgPath := "signalcabin/signalcabinref", byteOffset := 16 }, { name := "f", type := 55, offset := 2, embedded := false, tag := "", pkgPath := "signalcabin/signalcabinref", byteOffset := 24 }], 4, 40, .agg #[.string ⟨#[]⟩, .int .i64 0, .int .i64 0, .int .i64 0], peOf Tryz.prog 154⟩ := by kernel_rfl
@[simp] theorem ty155 : tyOf Tryz.prog 155 = some ⟨.func #[3] #[46] false, 1, 8, .nilFunc, peOf Tryz.prog 155⟩ := by kernel_rfl
@[simp] theorem ty156 : tyOf Tryz.prog 156 = some ⟨.func #[] #[5] false, 1, 8, .nilFunc, peOf Tryz.prog 156⟩ := by kernel_rfl
@[simp] theorem ty157 : tyOf Tryz.prog 157 = some ⟨.func #[53] #[46] false, 1, 8, .nilFunc, peOf Tryz.prog 157⟩ := by kernel_rfl
@[simp] theorem ty158 : tyOf Tryz.prog 158 = some ⟨.pointer 160, 1, 8, .pointer none, peOf Tryz.prog 158⟩ := by kernel_rfl
@[simp] theorem ty159 : tyOf Tryz.prog 159 = some ⟨.struct #[{ name := "text", type := 9, offset := 0, embedded := false, tag := "", pkgPath := "signalcabin/expr", byteOffset := 0 }, { name := "at", type := 3, offset := 1, embedded := false, tag := "", pkgPath := "signalcabin/expr", byteOffset := 16 }], 2, 24, .agg #[.string ⟨#[]⟩, .int .i64 0], peOf Tryz.prog 159⟩ := by kernel_rfl
@[simp] theorem ty160 : tyOf Tryz.prog 160 = some ⟨.struct #[{ name := "text", type := 9, offset := 0, embedded := false, tag := "", pkgPath := "signalcabin/expr", byteOffset := 0 }, { name := "at", type := 3, offset := 1, embedded := false, tag := "", pkgPath := "signalcabin/expr", byteOffset := 16 }], 2, 24, .agg #[.string ⟨#[]⟩, .int .i64 0], true⟩ := by kernel_rfl
@[simp] theorem ty161 : tyOf Tryz.prog 161 = some ⟨.func #[3] #[45, 59] false, 1, 8, .nilFunc, peOf Tryz.prog 161⟩ := by kernel_rfl
@[simp] theorem ty162 : tyOf Tryz.prog 162 = some ⟨.func #[53] #[59] false, 1, 8, .nilFunc, peOf Tryz.prog 162⟩ := by kernel_rfl
@[simp] theorem ty163 : tyOf Tryz.prog 163 = some ⟨.func #[9] #[101] false, 1, 8, .nilFunc, peOf Tryz.prog 163⟩ := by kernel_rfl
@[simp] theorem ty164 : tyOf Tryz.prog 164 = some ⟨.func #[59] #[53] false, 1, 8, .nilFunc, peOf Tryz.prog 164⟩ := by kernel_rfl
@[simp] theorem ty165 : tyOf Tryz.prog 165 = some ⟨.interface #[("Unwrap", 167)], 1, 16, .nilIface, peOf Tryz.prog 165⟩ := by kernel_rfl
@[simp] theorem ty166 : tyOf Tryz.prog 166 = some ⟨.tuple #[165, 4], 1, 0, .tuple #[.nilIface, .bool false], peOf Tryz.prog 166⟩ := by kernel_rfl
@[simp] theorem ty167 : tyOf Tryz.prog 167 = some ⟨.func #[] #[59] false, 1, 8, .nilFunc, peOf Tryz.prog 167⟩ := by kernel_rfl
@[simp] theorem ty168 : tyOf Tryz.prog 168 = some ⟨.func #[101, 9] #[4] false, 1, 8, .nilFunc, peOf Tryz.prog 168⟩ := by kernel_rfl
@[simp] theorem ty169 : tyOf Tryz.prog 169 = some ⟨.array 7 3, 7, 56, .agg #[.int .i64 0, .int .i64 0, .int .i64 0, .int .i64 0, .int .i64 0, .int .i64 0, .int .i64 0], peOf Tryz.prog 169⟩ := by kernel_rfl
@[simp] theorem ty170 : tyOf Tryz.prog 170 = some ⟨.func #[101, 82] #[4] false, 1, 8, .nilFunc, peOf Tryz.prog 170⟩ := by kernel_rfl
@[simp] theorem ty171 : tyOf Tryz.prog 171 = some ⟨.pointer 5, 1, 8, .pointer none, peOf Tryz.prog 171⟩ := by kernel_rfl
@[simp] theorem ty172 : tyOf Tryz.prog 172 = some ⟨.func #[101, 9] #[9] false, 1, 8, .nilFunc, peOf Tryz.prog 172⟩ := by kernel_rfl
@[simp] theorem ty173 : tyOf Tryz.prog 173 = some ⟨.slice 46, 1, 24, .slice none 0 0, peOf Tryz.prog 173⟩ := by kernel_rfl
@[simp] theorem ty174 : tyOf Tryz.prog 174 = some ⟨.struct #[{ name := "Kind", type := 9, offset := 0, embedded := false, tag := "", pkgPath := "", byteOffset := 0 }, { name := "Name", type := 9, offset := 1, embedded := false, tag := "", pkgPath := "", byteOffset := 16 }, { name := "Of", type := 173, offset := 2, embedded := false, tag := "", pkgPath := "", byteOffset := 32 }], 3, 56, .agg #[.string ⟨#[]⟩, .string ⟨#[]⟩, .slice none 0 0], peOf Tryz.prog 174⟩ := by kernel_rfl
@[simp] theorem ty175 : tyOf Tryz.prog 175 = some ⟨.struct #[{ name := "Kind", type := 9, offset := 0, embedded := false, tag := "", pkgPath := "", byteOffset := 0 }, { name := "Name", type := 9, offset := 1, embedded := false, tag := "", pkgPath := "", byteOffset := 16 }, { name := "Of", type := 173, offset := 2, embedded := false, tag := "", pkgPath := "", byteOffset := 32 }], 3, 56, .agg #[.string ⟨#[]⟩, .string ⟨#[]⟩, .slice none 0 0], peOf Tryz.prog 175⟩ := by kernel_rfl
@[simp] theorem ty176 : tyOf Tryz.prog 176 = some ⟨.func #[45, 81] #[101] false, 1, 8, .nilFunc, peOf Tryz.prog 176⟩ := by kernel_rfl
@[simp] theorem ty177 : tyOf Tryz.prog 177 = some ⟨.string, 1, 16, .string ⟨#[]⟩, peOf Tryz.prog 177⟩ := by kernel_rfl
@[simp] theorem ty178 : tyOf Tryz.prog 178 = some ⟨.string, 1, 16, .string ⟨#[]⟩, peOf Tryz.prog 178⟩ := by kernel_rfl
@[simp] theorem ty179 : tyOf Tryz.prog 179 = some ⟨.func #[22, 3, 3, 3] #[] false, 1, 8, .nilFunc, peOf Tryz.prog 179⟩ := by kernel_rfl
@[simp] theorem ty180 : tyOf Tryz.prog 180 = some ⟨.func #[181] #[3] false, 1, 8, .nilFunc, peOf Tryz.prog 180⟩ := by kernel_rfl
@[simp] theorem ty181 : tyOf Tryz.prog 181 = some ⟨.int .u64, 1, 8, .int .u64 0, peOf Tryz.prog 181⟩ := by kernel_rfl
@[simp] theorem ty182 : tyOf Tryz.prog 182 = some ⟨.func #[34, 77, 75] #[77] false, 1, 8, .nilFunc, peOf Tryz.prog 182⟩ := by kernel_rfl
@[simp] theorem ty183 : tyOf Tryz.prog 183 = some ⟨.func #[9, 9, 3] #[130] false, 1, 8, .nilFunc, peOf Tryz.prog 183⟩ := by kernel_rfl
@[simp] theorem ty184 : tyOf Tryz.prog 184 = some ⟨.func #[9, 5] #[9] false, 1, 8, .nilFunc, peOf Tryz.prog 184⟩ := by kernel_rfl
@[simp] theorem ty187 : tyOf Tryz.prog 187 = some ⟨.tuple #[186, 4], 1, 0, .tuple #[.agg #[.bool false, .bool false, .bool false, .bool false, .bool false, .bool false, .bool false, .bool false, .bool false, .bool false, .bool false, .bool false, .bool false, .bool false, .bool false, .bool false, .bool false, .bool false, .bool false, .bool false, .bool false, .bool false, .bool false, .bool false, .bool false, .bool false, .bool false, .bool false, .bool false, .bool false, .bool false, .bool false, .bool false, .bool false, .bool false, .bool false, .bool false, .bool false, .bool false, .bool false, .bool false, .bool false, .bool false, .bool false, .bool false, .bool false, .bool false, .bool false, .bool false, .bool false, .bool false, .bool false, .bool false, .bool false, .bool false, .bool false, .bool false, .bool false, .bool false, .bool false, .bool false, .bool false, .bool false, .bool false, .bool false, .bool false, .bool false, .bool false, .bool false, .bool false, .bool false, .bool false, .bool false, .bool false, .bool false, .bool false, .bool false, .bool false, .bool false, .bool false, .bool false, .bool false, .bool false, .bool false, .bool false, .bool false, .bool false, .bool false, .bool false, .bool false, .bool false, .bool false, .bool false, .bool false, .bool false, .bool false, .bool false, .bool false, .bool false, .bool false, .bool false, .bool false, .bool false, .bool false, .bool false, .bool false, .bool false, .bool false, .bool false, .bool false, .bool false, .bool false, .bool false, .bool false, .bool false, .bool false, .bool false, .bool false, .bool false, .bool false, .bool false, .bool false, .bool false, .bool false, .bool false, .bool false, .bool false, .bool false, .bool false, .bool false, .bool false, .bool false, .bool false, .bool false, .bool false, .bool false, .bool false, .bool false, .bool false, .bool false, .bool false, .bool false, .bool false, .bool false, .bool false, .bool false, .bool false, .bool false, .bool false, .bool false, .bool false, .bool false, .bool false, .bool false, .bool false, .bool false, .bool false, .bool false, .bool false, .bool false, .bool false, .bool false, .bool false, .bool false, .bool false, .bool false, .bool false, .bool false, .bool false, .bool false, .bool false, .bool false, .bool false, .bool false, .bool false, .bool false, .bool false, .bool false, .bool false, .bool false, .bool false, .bool false, .bool false, .bool false, .bool false, .bool false, .bool false, .bool false, .bool false, .bool false, .bool false, .bool false, .bool false, .bool false, .bool false, .bool false, .bool false, .bool false, .bool false, .bool false, .bool false, .bool false, .bool false, .bool false, .bool false, .bool false, .bool false, .bool false, .bool false, .bool false, .bool false, .bool false, .bool false, .bool false, .bool false, .bool false, .bool false, .bool false, .bool false, .bool false, .bool false, .bool false, .bool false, .bool false, .bool false, .bool false, .bool false, .bool false, .bool false, .bool false, .bool false, .bool false, .bool false, .bool false, .bool false, .bool false, .bool false, .bool false, .bool false, .bool false, .bool false, .bool false, .bool false, .bool false, .bool false, .bool false, .bool false, .bool false, .bool false, .bool false, .bool false, .bool false, .bool false, .bool false, .bool false, .bool false], .bool false], peOf Tryz.prog 187⟩ := by kernel_rfl
@[simp] theorem ty188 : tyOf Tryz.prog 188 = some ⟨.func #[9] #[186, 4] false, 1, 8, .nilFunc, peOf Tryz.prog 188⟩ := by kernel_rfl
@[simp] theorem ty189 : tyOf Tryz.prog 189 = some ⟨.func #[9, 190] #[9] false, 1, 8, .nilFunc, peOf Tryz.prog 189⟩ := by kernel_rfl
@[simp] theorem ty190 : tyOf Tryz.prog 190 = some ⟨.pointer 186, 1, 8, .pointer none, peOf Tryz.prog 190⟩ := by kernel_rfl
@[simp] theorem ty191 : tyOf Tryz.prog 191 = some ⟨.tuple #[9, 9, 4], 1, 0, .tuple #[.string ⟨#[]⟩, .string ⟨#[]⟩, .bool false], peOf Tryz.prog 191⟩ := by kernel_rfl
@[simp] theorem ty192 : tyOf Tryz.prog 192 = some ⟨.func #[9, 9] #[9, 9, 4] false, 1, 8, .nilFunc, peOf Tryz.prog 192⟩ := by kernel_rfl
@[simp] theorem ty193 : tyOf Tryz.prog 193 = some ⟨.func #[9, 194] #[101] false, 1, 8, .nilFunc, peOf Tryz.prog 193⟩ := by kernel_rfl
@[simp] theorem ty194 : tyOf Tryz.prog 194 = some ⟨.func #[21] #[4] false, 1, 8, .nilFunc, peOf Tryz.prog 194⟩ := by kernel_rfl
@[simp] theorem ty195 : tyOf Tryz.prog 195 = some ⟨.slice 22, 1, 24, .slice none 0 0, peOf Tryz.prog 195⟩ := by kernel_rfl
@[simp] theorem ty196 : tyOf Tryz.prog 196 = some ⟨.func #[22, 3] #[22] false, 1, 8, .nilFunc, peOf Tryz.prog 196⟩ := by kernel_rfl
@[simp] theorem ty197 : tyOf Tryz.prog 197 = some ⟨.func #[25] #[4] false, 1, 8, .nilFunc, peOf Tryz.prog 197⟩ := by kernel_rfl
@[simp] theorem ty198 : tyOf Tryz.prog 198 = some ⟨.slice 45, 1, 24, .slice none 0 0, peOf Tryz.prog 198⟩ := by kernel_rfl
@[simp] theorem ty199 : tyOf Tryz.prog 199 = some ⟨.slice 45, 1, 24, .slice none 0 0, peOf Tryz.prog 199⟩ := by kernel_rfl
@[simp] theorem ty200 : tyOf Tryz.prog 200 = some ⟨.func #[5, 3, 155] #[46] false, 1, 8, .nilFunc, peOf Tryz.prog 200⟩ := by kernel_rfl
@[simp] theorem ty201 : tyOf Tryz.prog 201 = some ⟨.tuple #[142, 59], 1, 0, .tuple #[.slice none 0 0, .nilIface], peOf Tryz.prog 201⟩ := by kernel_rfl
@[simp] theorem ty202 : tyOf Tryz.prog 202 = some ⟨.func #[5, 3, 161] #[142, 59] false, 1, 8, .nilFunc, peOf Tryz.prog 202⟩ := by kernel_rfl
@[simp] theorem ty203 : tyOf Tryz.prog 203 = some ⟨.func #[46] #[] false, 1, 8, .nilFunc, peOf Tryz.prog 203⟩ := by kernel_rfl
@[simp] theorem ty204 : tyOf Tryz.prog 204 = some ⟨.func #[9, 9] #[4] false, 1, 8, .nilFunc, peOf Tryz.prog 204⟩ := by kernel_rfl
@[simp] theorem ty205 : tyOf Tryz.prog 205 = some ⟨.func #[59, 20] #[4] false, 1, 8, .nilFunc, peOf Tryz.prog 205⟩ := by kernel_rfl
@[simp] theorem ty206 : tyOf Tryz.prog 206 = some ⟨.pointer 53, 1, 8, .pointer none, peOf Tryz.prog 206⟩ := by kernel_rfl
@[simp] theorem ty207 : tyOf Tryz.prog 207 = some ⟨.func #[101, 82] #[3] false, 1, 8, .nilFunc, peOf Tryz.prog 207⟩ := by kernel_rfl
@[simp] theorem ty209 : tyOf Tryz.prog 209 = some ⟨.func #[208] #[208] false, 1, 8, .nilFunc, peOf Tryz.prog 209⟩ := by kernel_rfl
@[simp] theorem ty210 : tyOf Tryz.prog 210 = some ⟨.func #[2, 3] #[9] false, 1, 8, .nilFunc, peOf Tryz.prog 210⟩ := by kernel_rfl
@[simp] theorem ty211 : tyOf Tryz.prog 211 = some ⟨.func #[3] #[] false, 1, 8, .nilFunc, peOf Tryz.prog 211⟩ := by kernel_rfl
@[simp] theorem ty212 : tyOf Tryz.prog 212 = some ⟨.func #[45, 213] #[] false, 1, 8, .nilFunc, peOf Tryz.prog 212⟩ := by kernel_rfl
@[simp] theorem ty213 : tyOf Tryz.prog 213 = some ⟨.func #[45] #[] false, 1, 8, .nilFunc, peOf Tryz.prog 213⟩ := by kernel_rfl
@[simp] theorem ty214 : tyOf Tryz.prog 214 = some ⟨.func #[101] #[] false, 1, 8, .nilFunc, peOf Tryz.prog 214⟩ := by kernel_rfl
@[simp] theorem ty215 : tyOf Tryz.prog 215 = some ⟨.func #[101] #[101] false, 1, 8, .nilFunc, peOf Tryz.prog 215⟩ := by kernel_rfl
@[simp] theorem ty216 : tyOf Tryz.prog 216 = some ⟨.func #[22, 3, 3] #[] false, 1, 8, .nilFunc, peOf Tryz.prog 216⟩ := by kernel_rfl
@[simp] theorem ty217 : tyOf Tryz.prog 217 = some ⟨.int .i64, 1, 8, .int .i64 0, peOf Tryz.prog 217⟩ := by kernel_rfl
@[simp] theorem ty218 : tyOf Tryz.prog 218 = some ⟨.tuple #[3, 217], 1, 0, .tuple #[.int .i64 0, .int .i64 0], peOf Tryz.prog 218⟩ := by kernel_rfl
@[simp] theorem ty219 : tyOf Tryz.prog 219 = some ⟨.func #[22, 3, 3] #[3, 217] false, 1, 8, .nilFunc, peOf Tryz.prog 219⟩ := by kernel_rfl
@[simp] theorem ty220 : tyOf Tryz.prog 220 = some ⟨.func #[22, 3, 3] #[4] false, 1, 8, .nilFunc, peOf Tryz.prog 220⟩ := by kernel_rfl
@[simp] theorem ty221 : tyOf Tryz.prog 221 = some ⟨.func #[3, 3] #[4] false, 1, 8, .nilFunc, peOf Tryz.prog 221⟩ := by kernel_rfl
@[simp] theorem ty222 : tyOf Tryz.prog 222 = some ⟨.func #[22, 3, 3, 3] #[3] false, 1, 8, .nilFunc, peOf Tryz.prog 222⟩ := by kernel_rfl
@[simp] theorem ty223 : tyOf Tryz.prog 223 = some ⟨.tuple #[3, 4], 1, 0, .tuple #[.int .i64 0, .bool false], peOf Tryz.prog 223⟩ := by kernel_rfl
@[simp] theorem ty224 : tyOf Tryz.prog 224 = some ⟨.func #[22, 3, 3, 3] #[3, 4] false, 1, 8, .nilFunc, peOf Tryz.prog 224⟩ := by kernel_rfl
@[simp] theorem ty225 : tyOf Tryz.prog 225 = some ⟨.func #[226] #[3] false, 1, 8, .nilFunc, peOf Tryz.prog 225⟩ := by kernel_rfl
@[simp] theorem ty226 : tyOf Tryz.prog 226 = some ⟨.int .u32, 1, 4, .int .u32 0, peOf Tryz.prog 226⟩ := by kernel_rfl
@[simp] theorem ty227 : tyOf Tryz.prog 227 = some ⟨.func #[228] #[3] false, 1, 8, .nilFunc, peOf Tryz.prog 227⟩ := by kernel_rfl
@[simp] theorem ty228 : tyOf Tryz.prog 228 = some ⟨.int .u64, 1, 8, .int .u64 0, peOf Tryz.prog 228⟩ := by kernel_rfl
@[simp] theorem ty229 : tyOf Tryz.prog 229 = some ⟨.func #[75] #[75] false, 1, 8, .nilFunc, peOf Tryz.prog 229⟩ := by kernel_rfl
@[simp] theorem ty230 : tyOf Tryz.prog 230 = some ⟨.func #[45, 82, 82] #[4] false, 1, 8, .nilFunc, peOf Tryz.prog 230⟩ := by kernel_rfl
@[simp] theorem ty231 : tyOf Tryz.prog 231 = some ⟨.func #[3, 3, 4] #[] false, 1, 8, .nilFunc, peOf Tryz.prog 231⟩ := by kernel_rfl
@[simp] theorem ty232 : tyOf Tryz.prog 232 = some ⟨.tuple #[21, 3], 1, 0, .tuple #[.int .i32 0, .int .i64 0], peOf Tryz.prog 232⟩ := by kernel_rfl
@[simp] theorem ty233 : tyOf Tryz.prog 233 = some ⟨.func #[9] #[21, 3] false, 1, 8, .nilFunc, peOf Tryz.prog 233⟩ := by kernel_rfl
@[simp] theorem ty234 : tyOf Tryz.prog 234 = some ⟨.func #[9, 9] #[3] false, 1, 8, .nilFunc, peOf Tryz.prog 234⟩ := by kernel_rfl
@[simp] theorem ty235 : tyOf Tryz.prog 235 = some ⟨.func #[5] #[4] false, 1, 8, .nilFunc, peOf Tryz.prog 235⟩ := by kernel_rfl
@[simp] theorem ty236 : tyOf Tryz.prog 236 = some ⟨.func #[9, 21] #[4] false, 1, 8, .nilFunc, peOf Tryz.prog 236⟩ := by kernel_rfl
@[simp] theorem ty237 : tyOf Tryz.prog 237 = some ⟨.slice 239, 1, 24, .slice none 0 0, peOf Tryz.prog 237⟩ := by kernel_rfl
@[simp] theorem ty238 : tyOf Tryz.prog 238 = some ⟨.struct #[{ name := "start", type := 3, offset := 0, embedded := false, tag := "", pkgPath := "strings", byteOffset := 0 }, { name := "end", type := 3, offset := 1, embedded := false, tag := "", pkgPath := "strings", byteOffset := 8 }], 2, 16, .agg #[.int .i64 0, .int .i64 0], peOf Tryz.prog 238⟩ := by kernel_rfl
@[simp] theorem ty239 : tyOf Tryz.prog 239 = some ⟨.struct #[{ name := "start", type := 3, offset := 0, embedded := false, tag := "", pkgPath := "strings", byteOffset := 0 }, { name := "end", type := 3, offset := 1, embedded := false, tag := "", pkgPath := "strings", byteOffset := 8 }], 2, 16, .agg #[.int .i64 0, .int .i64 0], peOf Tryz.prog 239⟩ := by kernel_rfl
@[simp] theorem ty240 : tyOf Tryz.prog 240 = some ⟨.func #[9, 9, 3, 3, 59] #[59] false, 1, 8, .nilFunc, peOf Tryz.prog 240⟩ := by kernel_rfl
@[simp] theorem ty242 : tyOf Tryz.prog 242 = some ⟨.struct #[{ name := "typ_", type := 17, offset := 0, embedded := false, tag := "", pkgPath := "internal/reflectlite", byteOffset := 0 }, { name := "ptr", type := 208, offset := 1, embedded := false, tag := "", pkgPath := "internal/reflectlite", byteOffset := 8 }, { name := "flag", type := 241, offset := 2, embedded := true, tag := "", pkgPath := "internal/reflectlite", byteOffset := 16 }], 3, 24, .agg #[.pointer none, .pointer none, .int .u64 0], peOf Tryz.prog 242⟩ := by kernel_rfl
@[simp] theorem ty244 : tyOf Tryz.prog 244 = some ⟨.func #[20] #[243] false, 1, 8, .nilFunc, peOf Tryz.prog 244⟩ := by kernel_rfl
@[simp] theorem ty245 : tyOf Tryz.prog 245 = some ⟨.interface #[("AssignableTo", 250), ("Comparable", 26), ("Elem", 247), ("Implements", 250), ("Kind", 249), ("Name", 120), ("PkgPath", 120), ("Size", 341), ("String", 120), ("internal/reflectlite.common", 332), ("internal/reflectlite.uncommon", 342)], 1, 16, .nilIface, peOf Tryz.prog 245⟩ := by kernel_rfl
@[simp] theorem ty247 : tyOf Tryz.prog 247 = some ⟨.func #[] #[246] false, 1, 8, .nilFunc, peOf Tryz.prog 247⟩ := by kernel_rfl
@[simp] theorem ty249 : tyOf Tryz.prog 249 = some ⟨.func #[] #[248] false, 1, 8, .nilFunc, peOf Tryz.prog 249⟩ := by kernel_rfl
@[simp] theorem ty250 : tyOf Tryz.prog 250 = some ⟨.func #[246] #[4] false, 1, 8, .nilFunc, peOf Tryz.prog 250⟩ := by kernel_rfl
@[simp] theorem ty251 : tyOf Tryz.prog 251 = some ⟨.func #[59, 20, 243, 246] #[4] false, 1, 8, .nilFunc, peOf Tryz.prog 251⟩ := by kernel_rfl
@[simp] theorem ty252 : tyOf Tryz.prog 252 = some ⟨.array 24 5, 24, 24, .agg #[.int .u8 0, .int .u8 0, .int .u8 0, .int .u8 0, .int .u8 0, .int .u8 0, .int .u8 0, .int .u8 0, .int .u8 0, .int .u8 0, .int .u8 0, .int .u8 0, .int .u8 0, .int .u8 0, .int .u8 0, .int .u8 0, .int .u8 0, .int .u8 0, .int .u8 0, .int .u8 0, .int .u8 0, .int .u8 0, .int .u8 0, .int .u8 0], peOf Tryz.prog 252⟩ := by kernel_rfl
@[simp] theorem ty253 : tyOf Tryz.prog 253 = some ⟨.func #[111, 228] #[] false, 1, 8, .nilFunc, peOf Tryz.prog 253⟩ := by kernel_rfl
@[simp] theorem ty254 : tyOf Tryz.prog 254 = some ⟨.tuple #[111, 9], 1, 0, .tuple #[.slice none 0 0, .string ⟨#[]⟩], peOf Tryz.prog 254⟩ := by kernel_rfl
@[simp] theorem ty255 : tyOf Tryz.prog 255 = some ⟨.func #[111, 228, 3, 4, 4] #[111, 9] false, 1, 8, .nilFunc, peOf Tryz.prog 255⟩ := by kernel_rfl
@[simp] theorem ty256 : tyOf Tryz.prog 256 = some ⟨.func #[101, 3, 3, 3] #[] false, 1, 8, .nilFunc, peOf Tryz.prog 256⟩ := by kernel_rfl
@[simp] theorem ty257 : tyOf Tryz.prog 257 = some ⟨.int .u64, 1, 8, .int .u64 0, peOf Tryz.prog 257⟩ := by kernel_rfl
@[simp] theorem ty258 : tyOf Tryz.prog 258 = some ⟨.func #[3] #[181] false, 1, 8, .nilFunc, peOf Tryz.prog 258⟩ := by kernel_rfl
@[simp] theorem ty259 : tyOf Tryz.prog 259 = some ⟨.func #[] #[228] false, 1, 8, .nilFunc, peOf Tryz.prog 259⟩ := by kernel_rfl
@[simp] theorem ty260 : tyOf Tryz.prog 260 = some ⟨.func #[22, 3, 261] #[3] false, 1, 8, .nilFunc, peOf Tryz.prog 260⟩ := by kernel_rfl
@[simp] theorem ty261 : tyOf Tryz.prog 261 = some ⟨.pointer 3, 1, 8, .pointer none, peOf Tryz.prog 261⟩ := by kernel_rfl
@[simp] theorem ty262 : tyOf Tryz.prog 262 = some ⟨.func #[22, 3, 3, 3, 261] #[3] false, 1, 8, .nilFunc, peOf Tryz.prog 262⟩ := by kernel_rfl
@[simp] theorem ty263 : tyOf Tryz.prog 263 = some ⟨.bool, 1, 1, .bool false, peOf Tryz.prog 263⟩ := by kernel_rfl
@[simp] theorem ty264 : tyOf Tryz.prog 264 = some ⟨.func #[198, 265] #[4] false, 1, 8, .nilFunc, peOf Tryz.prog 264⟩ := by kernel_rfl
@[simp] theorem ty265 : tyOf Tryz.prog 265 = some ⟨.func #[45] #[4] false, 1, 8, .nilFunc, peOf Tryz.prog 265⟩ := by kernel_rfl
@[simp] theorem ty266 : tyOf Tryz.prog 266 = some ⟨.func #[199, 265] #[4] false, 1, 8, .nilFunc, peOf Tryz.prog 266⟩ := by kernel_rfl
@[simp] theorem ty267 : tyOf Tryz.prog 267 = some ⟨.pointer 77, 1, 8, .pointer none, peOf Tryz.prog 267⟩ := by kernel_rfl
@[simp] theorem ty268 : tyOf Tryz.prog 268 = some ⟨.func #[9, 21] #[3] false, 1, 8, .nilFunc, peOf Tryz.prog 268⟩ := by kernel_rfl
@[simp] theorem ty270 : tyOf Tryz.prog 270 = some ⟨.tuple #[2, 59], 1, 0, .tuple #[.int .i64 0, .nilIface], peOf Tryz.prog 270⟩ := by kernel_rfl
@[simp] theorem ty271 : tyOf Tryz.prog 271 = some ⟨.func #[9, 3, 3] #[2, 59] false, 1, 8, .nilFunc, peOf Tryz.prog 271⟩ := by kernel_rfl
@[simp] theorem ty272 : tyOf Tryz.prog 272 = some ⟨.pointer 313, 1, 8, .pointer none, peOf Tryz.prog 272⟩ := by kernel_rfl
@[simp] theorem ty273 : tyOf Tryz.prog 273 = some ⟨.func #[9, 9] #[272] false, 1, 8, .nilFunc, peOf Tryz.prog 273⟩ := by kernel_rfl
@[simp] theorem ty274 : tyOf Tryz.prog 274 = some ⟨.func #[9, 9, 3] #[272] false, 1, 8, .nilFunc, peOf Tryz.prog 274⟩ := by kernel_rfl
@[simp] theorem ty275 : tyOf Tryz.prog 275 = some ⟨.tuple #[9, 59], 1, 0, .tuple #[.string ⟨#[]⟩, .nilIface], peOf Tryz.prog 275⟩ := by kernel_rfl
@[simp] theorem ty276 : tyOf Tryz.prog 276 = some ⟨.func #[] #[9, 59] false, 1, 8, .nilFunc, peOf Tryz.prog 276⟩ := by kernel_rfl
@[simp] theorem ty277 : tyOf Tryz.prog 277 = some ⟨.struct #[{ name := "Type", type := 17, offset := 0, embedded := true, tag := "", pkgPath := "", byteOffset := 0 }], 1, 8, .agg #[.pointer none], peOf Tryz.prog 277⟩ := by kernel_rfl
@[simp] theorem ty279 : tyOf Tryz.prog 279 = some ⟨.pointer 344, 1, 8, .pointer none, peOf Tryz.prog 279⟩ := by kernel_rfl
@[simp] theorem ty280 : tyOf Tryz.prog 280 = some ⟨.func #[20] #[246] false, 1, 8, .nilFunc, peOf Tryz.prog 280⟩ := by kernel_rfl
@[simp] theorem ty281 : tyOf Tryz.prog 281 = some ⟨.func #[] #[243] false, 1, 8, .nilFunc, peOf Tryz.prog 281⟩ := by kernel_rfl
@[simp] theorem ty282 : tyOf Tryz.prog 282 = some ⟨.func #[243] #[] false, 1, 8, .nilFunc, peOf Tryz.prog 282⟩ := by kernel_rfl
@[simp] theorem ty283 : tyOf Tryz.prog 283 = some ⟨.interface #[("As", 285)], 1, 16, .nilIface, peOf Tryz.prog 283⟩ := by kernel_rfl
@[simp] theorem ty284 : tyOf Tryz.prog 284 = some ⟨.tuple #[283, 4], 1, 0, .tuple #[.nilIface, .bool false], peOf Tryz.prog 284⟩ := by kernel_rfl
@[simp] theorem ty285 : tyOf Tryz.prog 285 = some ⟨.func #[20] #[4] false, 1, 8, .nilFunc, peOf Tryz.prog 285⟩ := by kernel_rfl
@[simp] theorem ty286 : tyOf Tryz.prog 286 = some ⟨.interface #[("Unwrap", 288)], 1, 16, .nilIface, peOf Tryz.prog 286⟩ := by kernel_rfl
@[simp] theorem ty287 : tyOf Tryz.prog 287 = some ⟨.slice 59, 1, 24, .slice none 0 0, peOf Tryz.prog 287⟩ := by kernel_rfl
@[simp] theorem ty288 : tyOf Tryz.prog 288 = some ⟨.func #[] #[287] false, 1, 8, .nilFunc, peOf Tryz.prog 288⟩ := by kernel_rfl
@[simp] theorem ty289 : tyOf Tryz.prog 289 = some ⟨.func #[3] #[3] false, 1, 8, .nilFunc, peOf Tryz.prog 289⟩ := by kernel_rfl
@[simp] theorem ty290 : tyOf Tryz.prog 290 = some ⟨.func #[4] #[3] false, 1, 8, .nilFunc, peOf Tryz.prog 290⟩ := by kernel_rfl
@[simp] theorem ty291 : tyOf Tryz.prog 291 = some ⟨.array 20 228, 20, 160, .agg #[.int .u64 0, .int .u64 0, .int .u64 0, .int .u64 0, .int .u64 0, .int .u64 0, .int .u64 0, .int .u64 0, .int .u64 0, .int .u64 0, .int .u64 0, .int .u64 0, .int .u64 0, .int .u64 0, .int .u64 0, .int .u64 0, .int .u64 0, .int .u64 0, .int .u64 0, .int .u64 0], peOf Tryz.prog 291⟩ := by kernel_rfl
@[simp] theorem ty293 : tyOf Tryz.prog 293 = some ⟨.func #[3] #[111] false, 1, 8, .nilFunc, peOf Tryz.prog 293⟩ := by kernel_rfl
@[simp] theorem ty294 : tyOf Tryz.prog 294 = some ⟨.func #[101, 3, 3] #[] false, 1, 8, .nilFunc, peOf Tryz.prog 294⟩ := by kernel_rfl
@[simp] theorem ty295 : tyOf Tryz.prog 295 = some ⟨.func #[101, 3, 3] #[3, 217] false, 1, 8, .nilFunc, peOf Tryz.prog 295⟩ := by kernel_rfl
@[simp] theorem ty296 : tyOf Tryz.prog 296 = some ⟨.func #[101, 3, 3] #[4] false, 1, 8, .nilFunc, peOf Tryz.prog 296⟩ := by kernel_rfl
@[simp] theorem ty297 : tyOf Tryz.prog 297 = some ⟨.func #[101, 3, 3, 3] #[3] false, 1, 8, .nilFunc, peOf Tryz.prog 297⟩ := by kernel_rfl
@[simp] theorem ty298 : tyOf Tryz.prog 298 = some ⟨.func #[101, 3, 3, 3] #[3, 4] false, 1, 8, .nilFunc, peOf Tryz.prog 298⟩ := by kernel_rfl
@[simp] theorem ty299 : tyOf Tryz.prog 299 = some ⟨.pointer 257, 1, 8, .pointer none, peOf Tryz.prog 299⟩ := by kernel_rfl
@[simp] theorem ty300 : tyOf Tryz.prog 300 = some ⟨.tuple #[3, 3], 1, 0, .tuple #[.int .i64 0, .int .i64 0], peOf Tryz.prog 300⟩ := by kernel_rfl
@[simp] theorem ty301 : tyOf Tryz.prog 301 = some ⟨.func #[22, 3, 3, 261] #[3, 3] false, 1, 8, .nilFunc, peOf Tryz.prog 301⟩ := by kernel_rfl
@[simp] theorem ty302 : tyOf Tryz.prog 302 = some ⟨.func #[198, 265] #[3] false, 1, 8, .nilFunc, peOf Tryz.prog 302⟩ := by kernel_rfl
@[simp] theorem ty303 : tyOf Tryz.prog 303 = some ⟨.func #[199, 265] #[3] false, 1, 8, .nilFunc, peOf Tryz.prog 303⟩ := by kernel_rfl
@[simp] theorem ty305 : tyOf Tryz.prog 305 = some ⟨.struct #[{ name := "lo", type := 5, offset := 0, embedded := false, tag := "", pkgPath := "unicode/utf8", byteOffset := 0 }, { name := "hi", type := 5, offset := 1, embedded := false, tag := "", pkgPath := "unicode/utf8", byteOffset := 1 }], 2, 2, .agg #[.int .u8 0, .int .u8 0], peOf Tryz.prog 305⟩ := by kernel_rfl
@[simp] theorem ty306 : tyOf Tryz.prog 306 = some ⟨.struct #[{ name := "lo", type := 5, offset := 0, embedded := false, tag := "", pkgPath := "unicode/utf8", byteOffset := 0 }, { name := "hi", type := 5, offset := 1, embedded := false, tag := "", pkgPath := "unicode/utf8", byteOffset := 1 }], 2, 2, .agg #[.int .u8 0, .int .u8 0], peOf Tryz.prog 306⟩ := by kernel_rfl
@[simp] theorem ty307 : tyOf Tryz.prog 307 = some ⟨.array 16 306, 32, 32, .agg #[.int .u8 0, .int .u8 0, .int .u8 0, .int .u8 0, .int .u8 0, .int .u8 0, .int .u8 0, .int .u8 0, .int .u8 0, .int .u8 0, .int .u8 0, .int .u8 0, .int .u8 0, .int .u8 0, .int .u8 0, .int .u8 0, .int .u8 0, .int .u8 0, .int .u8 0, .int .u8 0, .int .u8 0, .int .u8 0, .int .u8 0, .int .u8 0, .int .u8 0, .int .u8 0, .int .u8 0, .int .u8 0, .int .u8 0, .int .u8 0, .int .u8 0, .int .u8 0], peOf Tryz.prog 307⟩ := by kernel_rfl
@[simp] theorem ty308 : tyOf Tryz.prog 308 = some ⟨.func #[9, 5] #[3] false, 1, 8, .nilFunc, peOf Tryz.prog 308⟩ := by kernel_rfl
@[simp] theorem ty309 : tyOf Tryz.prog 309 = some ⟨.tuple #[228, 59], 1, 0, .tuple #[.int .u64 0, .nilIface], peOf Tryz.prog 309⟩ := by kernel_rfl
@[simp] theorem ty310 : tyOf Tryz.prog 310 = some ⟨.func #[9, 3, 3] #[228, 59] false, 1, 8, .nilFunc, peOf Tryz.prog 310⟩ := by kernel_rfl
@[simp] theorem ty311 : tyOf Tryz.prog 311 = some ⟨.func #[9] #[9] false, 1, 8, .nilFunc, peOf Tryz.prog 311⟩ := by kernel_rfl
@[simp] theorem ty312 : tyOf Tryz.prog 312 = some ⟨.struct #[{ name := "Func", type := 9, offset := 0, embedded := false, tag := "", pkgPath := "", byteOffset := 0 }, { name := "Num", type := 9, offset := 1, embedded := false, tag := "", pkgPath := "", byteOffset := 16 }, { name := "Err", type := 59, offset := 2, embedded := false, tag := "", pkgPath := "", byteOffset := 32 }], 3, 48, .agg #[.string ⟨#[]⟩, .string ⟨#[]⟩, .nilIface], peOf Tryz.prog 312⟩ := by kernel_rfl
@[simp] theorem ty313 : tyOf Tryz.prog 313 = some ⟨.struct #[{ name := "Func", type := 9, offset := 0, embedded := false, tag := "", pkgPath := "", byteOffset := 0 }, { name := "Num", type := 9, offset := 1, embedded := false, tag := "", pkgPath := "", byteOffset := 16 }, { name := "Err", type := 59, offset := 2, embedded := false, tag := "", pkgPath := "", byteOffset := 32 }], 3, 48, .agg #[.string ⟨#[]⟩, .string ⟨#[]⟩, .nilIface], peOf Tryz.prog 313⟩ := by kernel_rfl
@[simp] theorem ty314 : tyOf Tryz.prog 314 = some ⟨.func #[9] #[59] false, 1, 8, .nilFunc, peOf Tryz.prog 314⟩ := by kernel_rfl
@[simp] theorem ty315 : tyOf Tryz.prog 315 = some ⟨.func #[101, 3, 261] #[3] false, 1, 8, .nilFunc, peOf Tryz.prog 315⟩ := by kernel_rfl
@[simp] theorem ty316 : tyOf Tryz.prog 316 = some ⟨.func #[101, 3, 3, 3, 261] #[3] false, 1, 8, .nilFunc, peOf Tryz.prog 316⟩ := by kernel_rfl
@[simp] theorem ty317 : tyOf Tryz.prog 317 = some ⟨.tuple #[226, 226], 1, 0, .tuple #[.int .u32 0, .int .u32 0], peOf Tryz.prog 317⟩ := by kernel_rfl
@[simp] theorem ty318 : tyOf Tryz.prog 318 = some ⟨.func #[9] #[226, 226] false, 1, 8, .nilFunc, peOf Tryz.prog 318⟩ := by kernel_rfl
@[simp] theorem ty319 : tyOf Tryz.prog 319 = some ⟨.func #[5] #[5] false, 1, 8, .nilFunc, peOf Tryz.prog 319⟩ := by kernel_rfl
@[simp] theorem ty320 : tyOf Tryz.prog 320 = some ⟨.pointer 322, 1, 8, .pointer none, peOf Tryz.prog 320⟩ := by kernel_rfl
@[simp] theorem ty321 : tyOf Tryz.prog 321 = some ⟨.struct #[{ name := "s", type := 9, offset := 0, embedded := false, tag := "", pkgPath := "errors", byteOffset := 0 }], 1, 16, .agg #[.string ⟨#[]⟩], peOf Tryz.prog 321⟩ := by kernel_rfl
@[simp] theorem ty322 : tyOf Tryz.prog 322 = some ⟨.struct #[{ name := "s", type := 9, offset := 0, embedded := false, tag := "", pkgPath := "errors", byteOffset := 0 }], 1, 16, .agg #[.string ⟨#[]⟩], peOf Tryz.prog 322⟩ := by kernel_rfl
@[simp] theorem ty323 : tyOf Tryz.prog 323 = some ⟨.array 32 5, 32, 32, .agg #[.int .u8 0, .int .u8 0, .int .u8 0, .int .u8 0, .int .u8 0, .int .u8 0, .int .u8 0, .int .u8 0, .int .u8 0, .int .u8 0, .int .u8 0, .int .u8 0, .int .u8 0, .int .u8 0, .int .u8 0, .int .u8 0, .int .u8 0, .int .u8 0, .int .u8 0, .int .u8 0, .int .u8 0, .int .u8 0, .int .u8 0, .int .u8 0, .int .u8 0, .int .u8 0, .int .u8 0, .int .u8 0, .int .u8 0, .int .u8 0, .int .u8 0, .int .u8 0], peOf Tryz.prog 323⟩ := by kernel_rfl
@[simp] theorem ty325 : tyOf Tryz.prog 325 = some ⟨.func #[101, 3, 3, 261] #[3, 3] false, 1, 8, .nilFunc, peOf Tryz.prog 325⟩ := by kernel_rfl
@[simp] theorem ty326 : tyOf Tryz.prog 326 = some ⟨.struct #[{ name := "_interface", type := 17, offset := 0, embedded := false, tag := "", pkgPath := "runtime", byteOffset := 0 }, { name := "concrete", type := 17, offset := 1, embedded := false, tag := "", pkgPath := "runtime", byteOffset := 8 }, { name := "asserted", type := 17, offset := 2, embedded := false, tag := "", pkgPath := "runtime", byteOffset := 16 }, { name := "missingMethod", type := 9, offset := 3, embedded := false, tag := "", pkgPath := "runtime", byteOffset := 24 }], 4, 40, .agg #[.pointer none, .pointer none, .pointer none, .string ⟨#[]⟩], peOf Tryz.prog 326⟩ := by kernel_rfl
@[simp] theorem ty328 : tyOf Tryz.prog 328 = some ⟨.array 0 16, 0, 0, .agg #[], peOf Tryz.prog 328⟩ := by kernel_rfl
@[simp] theorem ty329 : tyOf Tryz.prog 329 = some ⟨.struct #[{ name := "_", type := 328, offset := 0, embedded := false, tag := "", pkgPath := "runtime", byteOffset := 0 }], 0, 0, .agg #[], peOf Tryz.prog 329⟩ := by kernel_rfl
@[simp] theorem ty331 : tyOf Tryz.prog 331 = some ⟨.func #[] #[3] false, 1, 8, .nilFunc, peOf Tryz.prog 331⟩ := by kernel_rfl
@[simp] theorem ty332 : tyOf Tryz.prog 332 = some ⟨.func #[] #[17] false, 1, 8, .nilFunc, peOf Tryz.prog 332⟩ := by kernel_rfl
@[simp] theorem ty334 : tyOf Tryz.prog 334 = some ⟨.func #[208, 208] #[4] false, 1, 8, .nilFunc, peOf Tryz.prog 334⟩ := by kernel_rfl
@[simp] theorem ty337 : tyOf Tryz.prog 337 = some ⟨.struct #[{ name := "Size_", type := 12, offset := 0, embedded := false, tag := "", pkgPath := "", byteOffset := 0 }, { name := "PtrBytes", type := 12, offset := 1, embedded := false, tag := "", pkgPath := "", byteOffset := 8 }, { name := "Hash", type := 226, offset := 2, embedded := false, tag := "", pkgPath := "", byteOffset := 16 }, { name := "TFlag", type := 333, offset := 3, embedded := false, tag := "", pkgPath := "", byteOffset := 20 }, { name := "Align_", type := 5, offset := 4, embedded := false, tag := "", pkgPath := "", byteOffset := 21 }, { name := "FieldAlign_", type := 5, offset := 5, embedded := false, tag := "", pkgPath := "", byteOffset := 22 }, { name := "Kind_", type := 248, offset := 6, embedded := false, tag := "", pkgPath := "", byteOffset := 23 }, { name := "Equal", type := 334, offset := 7, embedded := false, tag := "", pkgPath := "", byteOffset := 24 }, { name := "GCData", type := 171, offset := 8, embedded := false, tag := "", pkgPath := "", byteOffset := 32 }, { name := "Str", type := 335, offset := 9, embedded := false, tag := "", pkgPath := "", byteOffset := 40 }, { name := "PtrToThis", type := 336, offset := 10, embedded := false, tag := "", pkgPath := "", byteOffset := 44 }], 11, 48, .agg #[.int .u64 0, .int .u64 0, .int .u32 0, .int .u8 0, .int .u8 0, .int .u8 0, .int .u8 0, .nilFunc, .pointer none, .int .i32 0, .int .i32 0], peOf Tryz.prog 337⟩ := by kernel_rfl
@[simp] theorem ty339 : tyOf Tryz.prog 339 = some ⟨.func #[45, 3] #[9] false, 1, 8, .nilFunc, peOf Tryz.prog 339⟩ := by kernel_rfl
@[simp] theorem ty340 : tyOf Tryz.prog 340 = some ⟨.func #[142, 9, 3, 4] #[9] false, 1, 8, .nilFunc, peOf Tryz.prog 340⟩ := by kernel_rfl
@[simp] theorem ty341 : tyOf Tryz.prog 341 = some ⟨.func #[] #[12] false, 1, 8, .nilFunc, peOf Tryz.prog 341⟩ := by kernel_rfl
@[simp] theorem ty342 : tyOf Tryz.prog 342 = some ⟨.func #[] #[345] false, 1, 8, .nilFunc, peOf Tryz.prog 342⟩ := by kernel_rfl
@[simp] theorem ty343 : tyOf Tryz.prog 343 = some ⟨.struct #[{ name := "Method", type := 9, offset := 0, embedded := false, tag := "", pkgPath := "", byteOffset := 0 }, { name := "Kind", type := 248, offset := 1, embedded := false, tag := "", pkgPath := "", byteOffset := 16 }], 2, 24, .agg #[.string ⟨#[]⟩, .int .u8 0], peOf Tryz.prog 343⟩ := by kernel_rfl
@[simp] theorem ty345 : tyOf Tryz.prog 345 = some ⟨.pointer 349, 1, 8, .pointer none, peOf Tryz.prog 345⟩ := by kernel_rfl
@[simp] theorem ty346 : tyOf Tryz.prog 346 = some ⟨.func #[] #[350] false, 1, 8, .nilFunc, peOf Tryz.prog 346⟩ := by kernel_rfl
@[simp] theorem ty347 : tyOf Tryz.prog 347 = some ⟨.int .u16, 1, 2, .int .u16 0, peOf Tryz.prog 347⟩ := by kernel_rfl
@[simp] theorem ty348 : tyOf Tryz.prog 348 = some ⟨.struct #[{ name := "PkgPath", type := 335, offset := 0, embedded := false, tag := "", pkgPath := "", byteOffset := 0 }, { name := "Mcount", type := 347, offset := 1, embedded := false, tag := "", pkgPath := "", byteOffset := 4 }, { name := "Xcount", type := 347, offset := 2, embedded := false, tag := "", pkgPath := "", byteOffset := 6 }, { name := "Moff", type := 226, offset := 3, embedded := false, tag := "", pkgPath := "", byteOffset := 8 }, { name := "_", type := 226, offset := 4, embedded := false, tag := "", pkgPath := "internal/abi", byteOffset := 12 }], 5, 16, .agg #[.int .i32 0, .int .u16 0, .int .u16 0, .int .u32 0, .int .u32 0], peOf Tryz.prog 348⟩ := by kernel_rfl
@[simp] theorem ty350 : tyOf Tryz.prog 350 = some ⟨.slice 353, 1, 24, .slice none 0 0, peOf Tryz.prog 350⟩ := by kernel_rfl
@[simp] theorem ty352 : tyOf Tryz.prog 352 = some ⟨.struct #[{ name := "Name", type := 335, offset := 0, embedded := false, tag := "", pkgPath := "", byteOffset := 0 }, { name := "Mtyp", type := 336, offset := 1, embedded := false, tag := "", pkgPath := "", byteOffset := 4 }, { name := "Ifn", type := 351, offset := 2, embedded := false, tag := "", pkgPath := "", byteOffset := 8 }, { name := "Tfn", type := 351, offset := 3, embedded := false, tag := "", pkgPath := "", byteOffset := 12 }], 4, 16, .agg #[.int .i32 0, .int .i32 0, .int .i32 0, .int .i32 0], peOf Tryz.prog 352⟩ := by kernel_rfl
@[simp] theorem ty354 : tyOf Tryz.prog 354 = some ⟨.pointer 59, 1, 8, .pointer none, peOf Tryz.prog 354⟩ := by kernel_rfl
end Go.Proofs.YtnlhioeefmhklaaGreatDoor

/-
  Lists of numbers that are told apart.
-/
namespace Go.Proofs.YtnlhioeefmhklaaGreatDoor
set_option linter.unusedSimpArgs false
set_option linter.unusedVariables false
open Go.Av

def dInts (k : Option Bool) (l : List Int) : D := .sl k (l.map fun n => [.v (.int .i64 n)])

end Go.Proofs.YtnlhioeefmhklaaGreatDoor

/-
  Searching by a function.
-/
namespace Go.Proofs.YtnlhioeefmhklaaGreatDoor
set_option linter.unusedSimpArgs false
set_option linter.unusedVariables false
open Go.Av

/-- Where the first one is that fits, or -1. -/
def idx {α : Type} (p : α → Bool) (l : List α) : Int := match l.findIdx? p with
  | some i => i
  | none => -1

theorem idx_hit {α : Type} {p : α → Bool} {l : List α} {n : Nat} (hn : n < l.length) (h : p l[n] = true) (hb : ∀ i (hi : i < n), p (l[i]'(by omega)) = false) : idx p l = n := by
  unfold idx
  have : l.findIdx? p = some n := by
    rw [List.findIdx?_eq_some_iff_getElem]
    exact ⟨hn, h, fun j hj => by simpa using hb j hj⟩
  rw [this]
theorem idx_miss {α : Type} {p : α → Bool} {l : List α} (hb : ∀ i (hi : i < l.length), p l[i] = false) : idx p l = -1 := by
  unfold idx
  have : l.findIdx? p = none := by
    rw [List.findIdx?_eq_none_iff]
    intro x hx
    obtain ⟨i, hi, rfl⟩ := List.mem_iff_getElem.1 hx
    exact hb i hi
  rw [this]

/-- A function that answers as p does, of some data. -/
def Answers {α : Type} (G : Glob) (g : FuncId) (caps : List D) (enc : α → D) (p : α → Bool) (xs : List α) : Prop := ∀ x ∈ xs, PureC Tryz.prog G g (enc x :: caps) (.v (.bool (p x)))

set_option maxHeartbeats 1000000 in
theorem indexInt_spec {α : Type} (G : Glob) (k : Option Bool) (enc : α → D) (xs : List α) (g : FuncId) (caps : List D) (p : α → Bool) (hl : xs.length < 2^63) (ha : Answers G g caps enc p xs) :
    PureC Tryz.prog G 70 [.sl k (xs.map fun x => [enc x]), .fn (.func g) caps] (.v (.int .i64 (idx p xs))) := by
  refine PureC.of_body (tyOf_good _) Tryz.func70 rfl rfl (rs := [.tmp 4]) Tryz.results70 (by simp [Tryz.ntmps70]) fun X => ?_
  simp only [Tryz.ntmps70, List.map]
  refine AW_rg (tyOf_good _) [0, 1] [] (fun _ _ => trivial) fun K' hK' => ?_
  repeat (refine sxf_next fun K2 hK2 => ?_; simp; (repeat (refine ⟨by omega, ?_⟩)); refine hK2 _ ?_; clear hK2 K2)
  refine sxf_nil (hK' _ ?_)
  refine AW.st (by simp; rfl) ?_
  clear hK' K'
  refine AW_then fun K1 hK1 => ?_
  refine AW_rg (tyOf_good _) [0, 1, 7, 8] [] (fun _ _ => trivial) fun K' hK' => ?_
  repeat (refine sxf_next fun K2 hK2 => ?_; simp; (repeat (refine ⟨by omega, ?_⟩)); refine hK2 _ ?_; clear hK2 K2)
  refine sxf_nil (hK' _ ?_)
  refine AW.st (by simp; rfl) ?_
  clear hK' K'
  refine AW_for (S := Nat) (fun n => n ≤ xs.length ∧ ∀ i (hi : i < xs.length), i < n → p xs[i] = false) (fun n => ⟨lst [(0, .d (.sl k (xs.map fun x => [enc x]))), (1, .d (.fn (.func g) caps)), (7, int xs.length), (8, int n)], hlst []⟩) (fun n => xs.length - n) 0 ?_ (by simp) ?_
  · refine Imp.to' (fun _ _ => trivial) (by simp) (by simp)
  · rintro n ⟨hn, hp⟩
    refine AW_rg (tyOf_good _) [0, 1, 7, 8, 9] [] (fun _ _ => trivial) fun K' hK' => ?_
    repeat (refine sxf_next fun K2 hK2 => ?_; simp; (repeat (refine ⟨by omega, ?_⟩)); refine hK2 _ ?_; clear hK2 K2)
    refine sxf_nil (hK' _ ?_)
    refine AW.st (by simp; rfl) ?_
    clear hK' K'
    refine AW_then fun K2 hK2 => ?_
    refine AW_cond' (b := n < xs.length) (by simp [D.le, D.le.go, takeMap]) (fun hc => ?_) (fun hc => ?_)
    · refine AW_skip (hK2 _ ?_)
      refine AW_then fun K3 hK3 => ?_
      refine AW_block ?_
      refine AW_rg (tyOf_good _) [0, 1, 5, 7, 8] [] (fun _ _ => trivial) fun K' hK' => ?_
      repeat (refine sxf_next fun K2 hK2 => ?_; simp; (repeat (refine ⟨by omega, ?_⟩)); refine hK2 _ ?_; clear hK2 K2)
      refine sxf_nil (hK' _ ?_)
      refine AW.st (by simp; rfl) ?_
      clear hK' K'
      refine AW_rg (tyOf_good _) [0, 1, 5, 7, 8, 16] [] (fun _ _ => trivial) fun K' hK' => ?_
      repeat (refine sxf_next fun K2 hK2 => ?_; simp [hc]; (repeat (refine ⟨by omega, ?_⟩)); refine hK2 _ ?_; clear hK2 K2)
      refine sxf_next fun K2 hK2 => ?_
      simp [hc]
      refine callK.data (ha xs[n] (by simp)) (by simp; rfl) (by first | exact D.leGo_refl _ | simp [takeMap, List.map_map, Function.comp_def, D.le, D.le.go, D.le_refl, D.leGo_refl, hc]) ?_
      refine hK2 _ ?_
      clear hK2 K2
      simp only [putd, upd_lst]
      repeat (refine sxf_next fun K2 hK2 => ?_; simp [hc]; (repeat (refine ⟨by omega, ?_⟩)); refine hK2 _ ?_; clear hK2 K2)
      refine sxf_nil (hK' _ ?_)
      refine AW.st (by simp [hc]; rfl) ?_
      clear hK' K'
      refine AW_cond _ rfl (fun hp2 => ?_) (fun hp2 => ?_)
      · refine AW_rg (tyOf_good _) [4] [] (fun _ _ => trivial) fun K' hK' => ?_
        repeat (refine sxf_next fun K2 hK2 => ?_; simp; (repeat (refine ⟨by omega, ?_⟩)); refine hK2 _ ?_; clear hK2 K2)
        refine sxf_nil (hK' _ ?_)
        refine AW.st (by simp; rfl) ?_
        clear hK' K'
        refine AW_ret ?_
        simp [D.le, D.le.go, takeMap]
        exact (idx_hit hc hp2 fun i hi => hp i (by omega) hi).symm
      · refine AW_skip (hK3 _ ?_)
        refine AW_re (tyOf_good _) fun K' hK' => ?_
        repeat (refine sxf_next fun K2 hK2 => ?_; simp; (repeat (refine ⟨by omega, ?_⟩)); refine hK2 _ ?_; clear hK2 K2)
        refine sxf_nil (hK' _ ?_)
        clear hK' K'
        try simp only [thn, inb]
        refine Again.mk (n + 1) ⟨by omega, fun i hi hin => ?_⟩ (by omega) ?_
        · by_cases h : i = n
          · subst h; exact hp2
          · exact hp i hi (by omega)
        refine Imp.to' (fun _ _ => trivial) (by simp) (by simp)
    · refine AW_exit (hK1 _ ?_)
      refine AW_rg (tyOf_good _) [4] [] (fun _ _ => trivial) fun K' hK' => ?_
      repeat (refine sxf_next fun K2 hK2 => ?_; simp; (repeat (refine ⟨by omega, ?_⟩)); refine hK2 _ ?_; clear hK2 K2)
      refine sxf_nil (hK' _ ?_)
      refine AW.st (by simp; rfl) ?_
      clear hK' K'
      refine AW_ret ?_
      simp [D.le, D.le.go, takeMap]
      exact (idx_miss fun i hi => hp i hi (by omega)).symm

theorem idx_any {α : Type} (p : α → Bool) (l : List α) : decide (0 ≤ idx p l) = l.any p := by
  unfold idx
  split
  · rename_i i hi
    rw [List.findIdx?_eq_some_iff_getElem] at hi
    obtain ⟨h1, h2, _⟩ := hi
    have : l.any p = true := List.any_eq_true.2 ⟨_, List.getElem_mem h1, h2⟩
    rw [this]; simp
  · rename_i h
    rw [List.findIdx?_eq_none_iff] at h
    have : l.any p = false := by
      rw [List.any_eq_false]
      intro x hx
      simpa using h x hx
    rw [this]; simp

set_option maxHeartbeats 1000000 in
theorem containsInt_spec {α : Type} (G : Glob) (k : Option Bool) (enc : α → D) (xs : List α) (g : FuncId) (caps : List D) (p : α → Bool) (hl : xs.length < 2^63) (ha : Answers G g caps enc p xs) :
    PureC Tryz.prog G 30 [.sl k (xs.map fun x => [enc x]), .fn (.func g) caps] (.v (.bool (xs.any p))) := by
  refine PureC.of_body (tyOf_good _) Tryz.func30 rfl rfl (rs := [.tmp 4]) Tryz.results30 (by simp [Tryz.ntmps30]) fun X => ?_
  simp only [Tryz.ntmps30, List.map]
  refine AW_rg (tyOf_good _) [0, 1] [] (fun _ _ => trivial) fun K' hK' => ?_
  repeat (refine sxf_next fun K2 hK2 => ?_; simp; (repeat (refine ⟨by omega, ?_⟩)); refine hK2 _ ?_; clear hK2 K2)
  refine sxf_nil (hK' _ ?_)
  refine AW.st (by simp; rfl) ?_
  clear hK' K'
  refine AW_rg (tyOf_good _) [4] [] (fun _ _ => trivial) fun K' hK' => ?_
  repeat (refine sxf_next fun K2 hK2 => ?_; simp; (repeat (refine ⟨by omega, ?_⟩)); refine hK2 _ ?_; clear hK2 K2)
  refine sxf_next fun K2 hK2 => ?_
  simp
  refine callK.data (indexInt_spec G k enc xs g caps p hl ha) (by simp; rfl) (by first | exact D.leGo_refl _ | simp [takeMap, List.map_map, Function.comp_def, D.le, D.le.go, D.le_refl, D.leGo_refl]) ?_
  refine hK2 _ ?_
  clear hK2 K2
  simp only [putd, upd_lst]
  repeat (refine sxf_next fun K2 hK2 => ?_; simp; (repeat (refine ⟨by omega, ?_⟩)); refine hK2 _ ?_; clear hK2 K2)
  refine sxf_nil (hK' _ ?_)
  refine AW.st (by simp; rfl) ?_
  clear hK' K'
  refine AW_ret ?_
  simp [D.le, D.le.go, takeMap]
  exact idx_any p xs
end Go.Proofs.YtnlhioeefmhklaaGreatDoor

/-
  The closures; slices that are copied; lists that are numbered as they come.
-/
namespace Go.Proofs.YtnlhioeefmhklaaGreatDoor
set_option linter.unusedSimpArgs false
set_option linter.unusedVariables false
open Go.Av

def dNum (n : Int) : D := .v (.int .i64 n)
def dRow (r : List Int) : D := dInts none r
end Go.Proofs.YtnlhioeefmhklaaGreatDoor

/-
  Routes: Clash, both sides; what is named twice.
-/
namespace Go.Proofs.YtnlhioeefmhklaaGreatDoor
set_option linter.unusedSimpArgs false
set_option linter.unusedVariables false
open Go.Av

/-- A point, its cells. -/
def cPt (p : Int × Bool) : List D := [.v (.int .i64 p.1), .v (.bool p.2)]
def dPt (p : Int × Bool) : D := .agg (cPt p)
def dPts (l : List (Int × Bool)) : D := .sl none (l.map cPt)
def cRt (r : Rt) : List D := [dRow r.1, dPts r.2]
def dRt (r : Rt) : D := .agg (cRt r)
def dRts (l : List Rt) : D := .sl none (l.map cRt)
theorem dRow_eq (l : List Int) : dRow l = .sl none (l.map fun x => [.v (.int .i64 x)]) := rfl

set_option maxHeartbeats 1000000 in
theorem indexEq_spec (G : Glob) (l : List Int) (x : Int) (hl : l.length < 2^62) : PureC Tryz.prog G 71 [dRow l, .v (.int .i64 x)] (.v (.int .i64 (idx (fun y => x == y) l))) := by
  rw [dRow_eq]
  refine PureC.of_body (tyOf_good _) Tryz.func71 rfl rfl (rs := [.tmp 4]) Tryz.results71 (by simp [Tryz.ntmps71]) fun X => ?_
  simp only [Tryz.ntmps71, List.map]
  refine AW_rg (tyOf_good _) [0, 1] [] (fun _ _ => trivial) fun K' hK' => ?_
  repeat (refine sxf_next fun K2 hK2 => ?_; simp; (repeat (refine ⟨by omega, ?_⟩)); refine hK2 _ ?_; clear hK2 K2)
  refine sxf_nil (hK' _ ?_)
  refine AW.st (by simp; rfl) ?_
  clear hK' K'
  refine AW_then fun K1 hK1 => ?_
  refine AW_rg (tyOf_good _) [0, 1, 7, 8] [] (fun _ _ => trivial) fun K' hK' => ?_
  repeat (refine sxf_next fun K2 hK2 => ?_; simp; (repeat (refine ⟨by omega, ?_⟩)); refine hK2 _ ?_; clear hK2 K2)
  refine sxf_nil (hK' _ ?_)
  refine AW.st (by simp; rfl) ?_
  clear hK' K'
  refine AW_for (S := Nat) (fun n => n ≤ l.length ∧ ∀ i (hi : i < l.length), i < n → (x == l[i]) = false) (fun n => ⟨lst [(0, .d (.sl none (l.map fun x => [.v (.int .i64 x)]))), (1, .d (.v (.int .i64 x))), (7, int l.length), (8, int n)], hlst []⟩) (fun n => l.length - n) 0 ?_ (by simp) ?_
  · refine Imp.to' (fun _ _ => trivial) (by simp) (by simp)
  · rintro n ⟨hn, hp⟩
    refine AW_rg (tyOf_good _) [0, 1, 7, 8, 9] [] (fun _ _ => trivial) fun K' hK' => ?_
    repeat (refine sxf_next fun K2 hK2 => ?_; simp; (repeat (refine ⟨by omega, ?_⟩)); refine hK2 _ ?_; clear hK2 K2)
    refine sxf_nil (hK' _ ?_)
    refine AW.st (by simp; rfl) ?_
    clear hK' K'
    refine AW_then fun K2 hK2 => ?_
    refine AW_cond' (b := n < l.length) (by simp [D.le, D.le.go, takeMap]) (fun hc => ?_) (fun hc => ?_)
    · refine AW_skip (hK2 _ ?_)
      refine AW_then fun K3 hK3 => ?_
      refine AW_block ?_
      refine AW_rg (tyOf_good _) [0, 1, 5, 7, 8] [] (fun _ _ => trivial) fun K' hK' => ?_
      repeat (refine sxf_next fun K2 hK2 => ?_; simp; (repeat (refine ⟨by omega, ?_⟩)); refine hK2 _ ?_; clear hK2 K2)
      refine sxf_nil (hK' _ ?_)
      refine AW.st (by simp; rfl) ?_
      clear hK' K'
      refine AW_rg (tyOf_good _) [0, 1, 5, 7, 8, 16] [] (fun _ _ => trivial) fun K' hK' => ?_
      repeat (refine sxf_next fun K2 hK2 => ?_; simp [hc]; (repeat (refine ⟨by omega, ?_⟩)); refine hK2 _ ?_; clear hK2 K2)
      refine sxf_nil (hK' _ ?_)
      refine AW.st (by simp [hc]; rfl) ?_
      clear hK' K'
      have hlt := hc
      refine AW_cond' (b := x = l[n]) (by simp [D.le, D.le.go, takeMap]) (fun hc => ?_) (fun hc => ?_)
      · refine AW_rg (tyOf_good _) [4] [] (fun _ _ => trivial) fun K' hK' => ?_
        repeat (refine sxf_next fun K2 hK2 => ?_; simp; (repeat (refine ⟨by omega, ?_⟩)); refine hK2 _ ?_; clear hK2 K2)
        refine sxf_nil (hK' _ ?_)
        refine AW.st (by simp; rfl) ?_
        clear hK' K'
        refine AW_ret ?_
        simp [D.le, D.le.go, takeMap]
        exact (idx_hit hlt (by simpa using hc) fun i hi => hp i (by omega) hi).symm
      · refine AW_skip (hK3 _ ?_)
        refine AW_re (tyOf_good _) fun K' hK' => ?_
        repeat (refine sxf_next fun K2 hK2 => ?_; simp; (repeat (refine ⟨by omega, ?_⟩)); refine hK2 _ ?_; clear hK2 K2)
        refine sxf_nil (hK' _ ?_)
        clear hK' K'
        try simp only [thn, inb]
        refine Again.mk (n + 1) ⟨by omega, fun i hi hin => ?_⟩ (by omega) ?_
        · by_cases h : i = n
          · subst h; simpa using hc
          · exact hp i hi (by omega)
        refine Imp.to' (fun _ _ => trivial) (by simp) (by simp)
    · refine AW_exit (hK1 _ ?_)
      refine AW_rg (tyOf_good _) [4] [] (fun _ _ => trivial) fun K' hK' => ?_
      repeat (refine sxf_next fun K2 hK2 => ?_; simp; (repeat (refine ⟨by omega, ?_⟩)); refine hK2 _ ?_; clear hK2 K2)
      refine sxf_nil (hK' _ ?_)
      refine AW.st (by simp; rfl) ?_
      clear hK' K'
      refine AW_ret ?_
      simp [D.le, D.le.go, takeMap]
      exact (idx_miss fun i hi => hp i hi (by omega)).symm

theorem idx_memI (l : List Int) (x : Int) : 0 ≤ idx (fun y => decide (x = y)) l ↔ x ∈ l := by
  have h := idx_any (fun y => decide (x = y)) l
  have h2 : (l.any fun y => decide (x = y)) = decide (x ∈ l) := by
    rw [Bool.eq_iff_iff, List.any_eq_true]
    constructor
    · rintro ⟨y, h1, h2⟩; have : x = y := by simpa using h2
      simpa using this ▸ h1
    · intro h; exact ⟨x, by simpa using h, by simp⟩
  rw [h2] at h
  simpa using h
theorem idx_memP (l : List (Int × Bool)) (x : Int × Bool) : 0 ≤ idx (fun y => x == y) l ↔ x ∈ l := by
  have h := idx_any (fun y => x == y) l
  have h2 : (l.any fun y => x == y) = decide (x ∈ l) := by
    rw [Bool.eq_iff_iff, List.any_eq_true]
    constructor
    · rintro ⟨y, h1, h2⟩; have : x = y := by simpa using h2
      simpa using this ▸ h1
    · intro h; exact ⟨x, by simpa using h, by simp⟩
  rw [h2] at h
  simpa using h
set_option maxHeartbeats 1000000 in
theorem containsEq_spec (G : Glob) (l : List Int) (x : Int) (hl : l.length < 2^62) : PureC Tryz.prog G 32 [dRow l, .v (.int .i64 x)] (.v (.bool (l.contains x))) := by
  have h1 := indexEq_spec G l x hl
  rw [dRow_eq] at h1 ⊢
  refine PureC.of_body (tyOf_good _) Tryz.func32 rfl rfl (rs := [.tmp 4]) Tryz.results32 (by simp [Tryz.ntmps32]) fun X => ?_
  simp only [Tryz.ntmps32, List.map]
  refine AW_rg (tyOf_good _) [0, 1] [] (fun _ _ => trivial) fun K' hK' => ?_
  repeat (refine sxf_next fun K2 hK2 => ?_; simp; (repeat (refine ⟨by omega, ?_⟩)); refine hK2 _ ?_; clear hK2 K2)
  refine sxf_nil (hK' _ ?_)
  refine AW.st (by simp; rfl) ?_
  clear hK' K'
  refine AW_rg (tyOf_good _) [4] [] (fun _ _ => trivial) fun K' hK' => ?_
  repeat (refine sxf_next fun K2 hK2 => ?_; simp; (repeat (refine ⟨by omega, ?_⟩)); refine hK2 _ ?_; clear hK2 K2)
  refine sxf_next fun K2 hK2 => ?_
  simp
  refine callK.data (h1) (by simp; rfl) (by first | exact D.leGo_refl _ | simp [takeMap, List.map_map, Function.comp_def, D.le, D.le.go, D.le_refl, D.leGo_refl]) ?_
  refine hK2 _ ?_
  clear hK2 K2
  simp only [putd, upd_lst]
  repeat (refine sxf_next fun K2 hK2 => ?_; simp; (repeat (refine ⟨by omega, ?_⟩)); refine hK2 _ ?_; clear hK2 K2)
  refine sxf_nil (hK' _ ?_)
  refine AW.st (by simp; rfl) ?_
  clear hK' K'
  refine AW_ret ?_
  simp [D.le, D.le.go, takeMap]
  exact idx_memI l x

set_option maxHeartbeats 1000000 in
theorem indexPt_spec (G : Glob) (k : Option Bool) (xs : List (Int × Bool)) (g : FuncId) (caps : List D) (p : Int × Bool → Bool) (hl : xs.length < 2^62) (ha : Answers G g caps dPt p xs) :
    PureC Tryz.prog G 72 [.sl k (xs.map cPt), .fn (.func g) caps] (.v (.int .i64 (idx p xs))) := by
  refine PureC.of_body (tyOf_good _) Tryz.func72 rfl rfl (rs := [.tmp 4]) Tryz.results72 (by simp [Tryz.ntmps72]) fun X => ?_
  simp only [Tryz.ntmps72, List.map]
  refine AW_rg (tyOf_good _) [0, 1] [] (fun _ _ => trivial) fun K' hK' => ?_
  repeat (refine sxf_next fun K2 hK2 => ?_; simp; (repeat (refine ⟨by omega, ?_⟩)); refine hK2 _ ?_; clear hK2 K2)
  refine sxf_nil (hK' _ ?_)
  refine AW.st (by simp; rfl) ?_
  clear hK' K'
  refine AW_then fun K1 hK1 => ?_
  refine AW_rg (tyOf_good _) [0, 1, 7, 8] [] (fun _ _ => trivial) fun K' hK' => ?_
  repeat (refine sxf_next fun K2 hK2 => ?_; simp; (repeat (refine ⟨by omega, ?_⟩)); refine hK2 _ ?_; clear hK2 K2)
  refine sxf_nil (hK' _ ?_)
  refine AW.st (by simp; rfl) ?_
  clear hK' K'
  refine AW_for (S := Nat) (fun n => n ≤ xs.length ∧ ∀ i (hi : i < xs.length), i < n → p xs[i] = false) (fun n => ⟨lst [(0, .d (.sl k (xs.map cPt))), (1, .d (.fn (.func g) caps)), (7, int xs.length), (8, int n)], hlst []⟩) (fun n => xs.length - n) 0 ?_ (by simp) ?_
  · refine Imp.to' (fun _ _ => trivial) (by simp) (by simp)
  · rintro n ⟨hn, hp⟩
    refine AW_rg (tyOf_good _) [0, 1, 7, 8, 9] [] (fun _ _ => trivial) fun K' hK' => ?_
    repeat (refine sxf_next fun K2 hK2 => ?_; simp; (repeat (refine ⟨by omega, ?_⟩)); refine hK2 _ ?_; clear hK2 K2)
    refine sxf_nil (hK' _ ?_)
    refine AW.st (by simp; rfl) ?_
    clear hK' K'
    refine AW_then fun K2 hK2 => ?_
    refine AW_cond' (b := n < xs.length) (by simp [D.le, D.le.go, takeMap]) (fun hc => ?_) (fun hc => ?_)
    · refine AW_skip (hK2 _ ?_)
      refine AW_then fun K3 hK3 => ?_
      refine AW_block ?_
      refine AW_rg (tyOf_good _) [0, 1, 5, 7, 8] [] (fun _ _ => trivial) fun K' hK' => ?_
      repeat (refine sxf_next fun K2 hK2 => ?_; simp; (repeat (refine ⟨by omega, ?_⟩)); refine hK2 _ ?_; clear hK2 K2)
      refine sxf_nil (hK' _ ?_)
      refine AW.st (by simp; rfl) ?_
      clear hK' K'
      have hax := ha xs[n] (by simp)
      simp only [dPt, cPt] at hax
      refine AW_rg (tyOf_good _) [0, 1, 5, 7, 8, 16] [] (fun _ _ => trivial) fun K' hK' => ?_
      repeat (refine sxf_next fun K2 hK2 => ?_; simp [hc, cPt]; (repeat (refine ⟨by omega, ?_⟩)); refine hK2 _ ?_; clear hK2 K2)
      refine sxf_next fun K2 hK2 => ?_
      simp [hc, cPt]
      refine callK.data (hax) (by simp; rfl) (by first | exact D.leGo_refl _ | simp [takeMap, List.map_map, Function.comp_def, D.le, D.le.go, D.le_refl, D.leGo_refl, hc, cPt]) ?_
      refine hK2 _ ?_
      clear hK2 K2
      simp only [putd, upd_lst]
      repeat (refine sxf_next fun K2 hK2 => ?_; simp [hc, cPt]; (repeat (refine ⟨by omega, ?_⟩)); refine hK2 _ ?_; clear hK2 K2)
      refine sxf_nil (hK' _ ?_)
      refine AW.st (by simp [hc, cPt]; rfl) ?_
      clear hK' K'
      refine AW_cond _ rfl (fun hp2 => ?_) (fun hp2 => ?_)
      · refine AW_rg (tyOf_good _) [4] [] (fun _ _ => trivial) fun K' hK' => ?_
        repeat (refine sxf_next fun K2 hK2 => ?_; simp; (repeat (refine ⟨by omega, ?_⟩)); refine hK2 _ ?_; clear hK2 K2)
        refine sxf_nil (hK' _ ?_)
        refine AW.st (by simp; rfl) ?_
        clear hK' K'
        refine AW_ret ?_
        simp [D.le, D.le.go, takeMap]
        exact (idx_hit hc hp2 fun i hi => hp i (by omega) hi).symm
      · refine AW_skip (hK3 _ ?_)
        refine AW_re (tyOf_good _) fun K' hK' => ?_
        repeat (refine sxf_next fun K2 hK2 => ?_; simp; (repeat (refine ⟨by omega, ?_⟩)); refine hK2 _ ?_; clear hK2 K2)
        refine sxf_nil (hK' _ ?_)
        clear hK' K'
        try simp only [thn, inb]
        refine Again.mk (n + 1) ⟨by omega, fun i hi hin => ?_⟩ (by omega) ?_
        · by_cases h : i = n
          · subst h; exact hp2
          · exact hp i hi (by omega)
        refine Imp.to' (fun _ _ => trivial) (by simp) (by simp)
    · refine AW_exit (hK1 _ ?_)
      refine AW_rg (tyOf_good _) [4] [] (fun _ _ => trivial) fun K' hK' => ?_
      repeat (refine sxf_next fun K2 hK2 => ?_; simp; (repeat (refine ⟨by omega, ?_⟩)); refine hK2 _ ?_; clear hK2 K2)
      refine sxf_nil (hK' _ ?_)
      refine AW.st (by simp; rfl) ?_
      clear hK' K'
      refine AW_ret ?_
      simp [D.le, D.le.go, takeMap]
      exact (idx_miss fun i hi => hp i hi (by omega)).symm
set_option maxHeartbeats 1000000 in
theorem containsPt_spec (G : Glob) (k : Option Bool) (xs : List (Int × Bool)) (g : FuncId) (caps : List D) (p : Int × Bool → Bool) (hl : xs.length < 2^62) (ha : Answers G g caps dPt p xs) :
    PureC Tryz.prog G 33 [.sl k (xs.map cPt), .fn (.func g) caps] (.v (.bool (xs.any p))) := by
  refine PureC.of_body (tyOf_good _) Tryz.func33 rfl rfl (rs := [.tmp 4]) Tryz.results33 (by simp [Tryz.ntmps33]) fun X => ?_
  simp only [Tryz.ntmps33, List.map]
  refine AW_rg (tyOf_good _) [0, 1] [] (fun _ _ => trivial) fun K' hK' => ?_
  repeat (refine sxf_next fun K2 hK2 => ?_; simp; (repeat (refine ⟨by omega, ?_⟩)); refine hK2 _ ?_; clear hK2 K2)
  refine sxf_nil (hK' _ ?_)
  refine AW.st (by simp; rfl) ?_
  clear hK' K'
  refine AW_rg (tyOf_good _) [4] [] (fun _ _ => trivial) fun K' hK' => ?_
  repeat (refine sxf_next fun K2 hK2 => ?_; simp; (repeat (refine ⟨by omega, ?_⟩)); refine hK2 _ ?_; clear hK2 K2)
  refine sxf_next fun K2 hK2 => ?_
  simp
  refine callK.data (indexPt_spec G k xs g caps p hl ha) (by simp; rfl) (by first | exact D.leGo_refl _ | simp [takeMap, List.map_map, Function.comp_def, D.le, D.le.go, D.le_refl, D.leGo_refl]) ?_
  refine hK2 _ ?_
  clear hK2 K2
  simp only [putd, upd_lst]
  repeat (refine sxf_next fun K2 hK2 => ?_; simp; (repeat (refine ⟨by omega, ?_⟩)); refine hK2 _ ?_; clear hK2 K2)
  refine sxf_nil (hK' _ ?_)
  refine AW.st (by simp; rfl) ?_
  clear hK' K'
  refine AW_ret ?_
  simp [D.le, D.le.go, takeMap]
  exact idx_any p xs

set_option maxHeartbeats 1000000 in
theorem indexPtEq_spec (G : Glob) (l : List (Int × Bool)) (x : Int × Bool) (hl : l.length < 2^62) : PureC Tryz.prog G 73 [.sl none (l.map cPt), dPt x] (.v (.int .i64 (idx (fun y => x == y) l))) := by
  obtain ⟨xn, xo⟩ := x
  simp only [dPt, cPt]
  refine PureC.of_body (tyOf_good _) Tryz.func73 rfl rfl (rs := [.tmp 4]) Tryz.results73 (by simp [Tryz.ntmps73]) fun X => ?_
  simp only [Tryz.ntmps73, List.map]
  refine AW_rg (tyOf_good _) [0, 3] [3] (fun _ _ => trivial) fun K' hK' => ?_
  repeat (refine sxf_next fun K2 hK2 => ?_; simp; (repeat (refine ⟨by omega, ?_⟩)); refine hK2 _ ?_; clear hK2 K2)
  refine sxf_nil (hK' _ ?_)
  refine AW.st (by simp; rfl) ?_
  clear hK' K'
  refine AW_then fun K1 hK1 => ?_
  refine AW_rg (tyOf_good _) [0, 3, 7, 8] [3] (fun _ _ => trivial) fun K' hK' => ?_
  repeat (refine sxf_next fun K2 hK2 => ?_; simp; (repeat (refine ⟨by omega, ?_⟩)); refine hK2 _ ?_; clear hK2 K2)
  refine sxf_nil (hK' _ ?_)
  refine AW.st (by simp; rfl) ?_
  clear hK' K'
  refine AW_for (S := Nat) (fun n => n ≤ l.length ∧ ∀ i (hi : i < l.length), i < n → ((xn, xo) == l[i]) = false) (fun n => ⟨lst [(0, .d (.sl none (l.map cPt))), (3, .ref 3 0 0), (7, int l.length), (8, int n)], hlst [(3, .box 92 [.d (.v (.int .i64 xn)), .d (.v (.bool xo))])]⟩) (fun n => l.length - n) 0 ?_ (by simp) ?_
  · refine Imp.to' (fun _ _ => trivial) (by simp [cPt]) (by simp [cPt])
  · rintro n ⟨hn, hp⟩
    refine AW_rg (tyOf_good _) [0, 3, 7, 8, 9] [3] (fun _ _ => trivial) fun K' hK' => ?_
    repeat (refine sxf_next fun K2 hK2 => ?_; simp; (repeat (refine ⟨by omega, ?_⟩)); refine hK2 _ ?_; clear hK2 K2)
    refine sxf_nil (hK' _ ?_)
    refine AW.st (by simp; rfl) ?_
    clear hK' K'
    refine AW_then fun K2 hK2 => ?_
    refine AW_cond' (b := n < l.length) (by simp [D.le, D.le.go, takeMap]) (fun hc => ?_) (fun hc => ?_)
    · refine AW_skip (hK2 _ ?_)
      refine AW_then fun K3 hK3 => ?_
      refine AW_block ?_
      refine AW_rg (tyOf_good _) [0, 3, 5, 7, 8] [3] (fun _ _ => trivial) fun K' hK' => ?_
      repeat (refine sxf_next fun K2 hK2 => ?_; simp; (repeat (refine ⟨by omega, ?_⟩)); refine hK2 _ ?_; clear hK2 K2)
      refine sxf_nil (hK' _ ?_)
      refine AW.st (by simp; rfl) ?_
      clear hK' K'
      have hpe : ((xn, xo) == l[n]) = (decide (xn = l[n].1) && decide (xo = l[n].2)) := by
        obtain ⟨a, b⟩ := l[n]
        by_cases h1 : xn = a <;> by_cases h2 : xo = b <;> simp [h1, h2]
      refine AW_rd (tyOf_good _) (by kernel_rfl) [0, 3, 5, 7, 8, 16] [3] (fun _ _ => trivial) (by kernel_rfl) fun K' hK' => ?_
      repeat (refine sxd_next fun K2 hK2 => ?_; simp [hc, cPt, eqFs, eqSc, eqv]; (repeat (refine ⟨by omega, ?_⟩)); refine hK2 _ ?_; clear hK2 K2)
      refine sxd_nil (hK' _ ?_)
      refine AW.st (by simp [hc, cPt, eqFs, eqSc, eqv]; rfl) ?_
      clear hK' K'
      have hlt := hc
      refine AW_cond _ rfl (fun hc => ?_) (fun hc => ?_)
      · refine AW_rg (tyOf_good _) [4] [3] (fun _ _ => trivial) fun K' hK' => ?_
        repeat (refine sxf_next fun K2 hK2 => ?_; simp; (repeat (refine ⟨by omega, ?_⟩)); refine hK2 _ ?_; clear hK2 K2)
        refine sxf_nil (hK' _ ?_)
        refine AW.st (by simp; rfl) ?_
        clear hK' K'
        refine AW_ret ?_
        simp [D.le, D.le.go, takeMap]
        refine (idx_hit hlt ?_ fun i hi => hp i (by omega) hi).symm
        rw [hpe]; simpa using hc
      · refine AW_skip (hK3 _ ?_)
        refine AW_re (tyOf_good _) fun K' hK' => ?_
        repeat (refine sxf_next fun K2 hK2 => ?_; simp; (repeat (refine ⟨by omega, ?_⟩)); refine hK2 _ ?_; clear hK2 K2)
        refine sxf_nil (hK' _ ?_)
        clear hK' K'
        try simp only [thn, inb]
        refine Again.mk (n + 1) ⟨by omega, fun i hi hin => ?_⟩ (by omega) ?_
        · by_cases h : i = n
          · subst h; rw [hpe]; simpa using hc
          · exact hp i hi (by omega)
        refine Imp.to' (fun _ _ => trivial) (by simp [cPt]) (by simp [cPt])
    · refine AW_exit (hK1 _ ?_)
      refine AW_rg (tyOf_good _) [4] [3] (fun _ _ => trivial) fun K' hK' => ?_
      repeat (refine sxf_next fun K2 hK2 => ?_; simp; (repeat (refine ⟨by omega, ?_⟩)); refine hK2 _ ?_; clear hK2 K2)
      refine sxf_nil (hK' _ ?_)
      refine AW.st (by simp; rfl) ?_
      clear hK' K'
      refine AW_ret ?_
      simp [D.le, D.le.go, takeMap]
      exact (idx_miss fun i hi => hp i hi (by omega)).symm
set_option maxHeartbeats 1000000 in
theorem containsPtEq_spec (G : Glob) (l : List (Int × Bool)) (x : Int × Bool) (hl : l.length < 2^62) : PureC Tryz.prog G 35 [.sl none (l.map cPt), dPt x] (.v (.bool (l.contains x))) := by
  have h1 := indexPtEq_spec G l x hl
  obtain ⟨xn, xo⟩ := x
  simp only [dPt, cPt] at h1 ⊢
  refine PureC.of_body (tyOf_good _) Tryz.func35 rfl rfl (rs := [.tmp 4]) Tryz.results35 (by simp [Tryz.ntmps35]) fun X => ?_
  simp only [Tryz.ntmps35, List.map]
  refine AW_rg (tyOf_good _) [0, 3] [3] (fun _ _ => trivial) fun K' hK' => ?_
  repeat (refine sxf_next fun K2 hK2 => ?_; simp; (repeat (refine ⟨by omega, ?_⟩)); refine hK2 _ ?_; clear hK2 K2)
  refine sxf_nil (hK' _ ?_)
  refine AW.st (by simp; rfl) ?_
  clear hK' K'
  refine AW_rg (tyOf_good _) [4] [3] (fun _ _ => trivial) fun K' hK' => ?_
  repeat (refine sxf_next fun K2 hK2 => ?_; simp [cPt]; (repeat (refine ⟨by omega, ?_⟩)); refine hK2 _ ?_; clear hK2 K2)
  refine sxf_next fun K2 hK2 => ?_
  simp [cPt]
  refine callK.data (h1) (by simp; rfl) (by first | exact D.leGo_refl _ | simp [takeMap, List.map_map, Function.comp_def, D.le, D.le.go, D.le_refl, D.leGo_refl, cPt]) ?_
  refine hK2 _ ?_
  clear hK2 K2
  simp only [putd, upd_lst]
  repeat (refine sxf_next fun K2 hK2 => ?_; simp [cPt]; (repeat (refine ⟨by omega, ?_⟩)); refine hK2 _ ?_; clear hK2 K2)
  refine sxf_nil (hK' _ ?_)
  refine AW.st (by simp [cPt]; rfl) ?_
  clear hK' K'
  refine AW_ret ?_
  simp [D.le, D.le.go, takeMap]
  exact idx_memP l _

/-- Small routes: no list is long. -/
def SmallR (r : Rt) : Prop := r.1.length < 2^62 ∧ r.2.length < 2^62
set_option maxHeartbeats 1000000 in
theorem clash1_spec (G : Glob) (b : Rt) (hb : SmallR b) (s : Int) : PureC Tryz.prog G 31 [.v (.int .i64 s), .ip (cRt b)] (.v (.bool (b.1.contains s))) := by
  refine PureC.of_body (tyOf_good _) Tryz.func31 rfl rfl (rs := [.tmp 3]) Tryz.results31 (by simp [Tryz.ntmps31]) fun X => ?_
  simp only [Tryz.ntmps31, List.map]
  refine AW_rg (tyOf_good _) [0, 1] [] (fun _ _ => trivial) fun K' hK' => ?_
  repeat (refine sxf_next fun K2 hK2 => ?_; simp [cRt]; (repeat (refine ⟨by omega, ?_⟩)); refine hK2 _ ?_; clear hK2 K2)
  refine sxf_nil (hK' _ ?_)
  refine AW.st (by simp [cRt]; rfl) ?_
  clear hK' K'
  refine AW_rg (tyOf_good _) [3] [] (fun _ _ => trivial) fun K' hK' => ?_
  repeat (refine sxf_next fun K2 hK2 => ?_; simp [cRt]; (repeat (refine ⟨by omega, ?_⟩)); refine hK2 _ ?_; clear hK2 K2)
  refine sxf_next fun K2 hK2 => ?_
  simp [cRt]
  refine callK.data (containsEq_spec G b.1 s hb.1) (by simp; rfl) (by first | exact D.leGo_refl _ | simp [takeMap, List.map_map, Function.comp_def, D.le, D.le.go, D.le_refl, D.leGo_refl, cRt]) ?_
  refine hK2 _ ?_
  clear hK2 K2
  simp only [putd, upd_lst]
  repeat (refine sxf_next fun K2 hK2 => ?_; simp [cRt]; (repeat (refine ⟨by omega, ?_⟩)); refine hK2 _ ?_; clear hK2 K2)
  refine sxf_nil (hK' _ ?_)
  refine AW.st (by simp [cRt]; rfl) ?_
  clear hK' K'
  refine AW_ret ?_
  simp [D.le, D.le.go, takeMap, cRt]
set_option maxHeartbeats 1000000 in
theorem clash2_spec (G : Glob) (b : Rt) (hb : SmallR b) (p : Int × Bool) : PureC Tryz.prog G 34 [dPt p, .ip (cRt b)] (.v (.bool (b.2.contains (p.1, !p.2)))) := by
  have h := containsPtEq_spec G b.2 (p.1, !p.2) hb.2
  obtain ⟨n, o⟩ := p
  simp only [dPt, cPt] at h ⊢
  refine PureC.of_body (tyOf_good _) Tryz.func34 rfl rfl (rs := [.tmp 3]) Tryz.results34 (by simp [Tryz.ntmps34]) fun X => ?_
  simp only [Tryz.ntmps34, List.map]
  refine AW_rg (tyOf_good _) [1, 2] [2] (fun _ _ => trivial) fun K' hK' => ?_
  repeat (refine sxf_next fun K2 hK2 => ?_; simp [cRt, dPts]; (repeat (refine ⟨by omega, ?_⟩)); refine hK2 _ ?_; clear hK2 K2)
  refine sxf_nil (hK' _ ?_)
  refine AW.st (by simp [cRt, dPts]; rfl) ?_
  clear hK' K'
  refine AW_rg (tyOf_good _) [3] [2] (fun _ _ => trivial) fun K' hK' => ?_
  repeat (refine sxf_next fun K2 hK2 => ?_; simp [cRt, dPts]; (repeat (refine ⟨by omega, ?_⟩)); refine hK2 _ ?_; clear hK2 K2)
  refine sxf_next fun K2 hK2 => ?_
  simp [cRt, dPts]
  refine callK.data (h) (by simp; rfl) (by first | exact D.leGo_refl _ | simp [takeMap, List.map_map, Function.comp_def, D.le, D.le.go, D.le_refl, D.leGo_refl, cRt, dPts]) ?_
  refine hK2 _ ?_
  clear hK2 K2
  simp only [putd, upd_lst]
  repeat (refine sxf_next fun K2 hK2 => ?_; simp [cRt, dPts]; (repeat (refine ⟨by omega, ?_⟩)); refine hK2 _ ?_; clear hK2 K2)
  refine sxf_nil (hK' _ ?_)
  refine AW.st (by simp [cRt, dPts]; rfl) ?_
  clear hK' K'
  refine AW_ret ?_
  simp [D.le, D.le.go, takeMap, cRt, dPts]
set_option maxHeartbeats 2000000 in
theorem clash_spec (G : Glob) (a b : Rt) (ha : SmallR a) (hb : SmallR b) : PureC Tryz.prog G 8 [dRt a, dRt b] (.v (.bool (clashF a b))) := by
  have h1 := containsInt_spec G none (fun x : Int => D.v (.int .i64 x)) a.1 31 [.ip (cRt b)] (fun s => b.1.contains s) (by have := ha.1; omega) fun s _ => clash1_spec G b hb s
  have h2 := containsPt_spec G none a.2 34 [.ip (cRt b)] (fun p => b.2.contains (p.1, !p.2)) ha.2 fun p _ => clash2_spec G b hb p
  simp only [dRt, cRt, dPts, dRow_eq] at h1 h2 ⊢
  refine PureC.of_body (tyOf_good _) Tryz.func8 rfl rfl (rs := [.tmp 4]) Tryz.results8 (by simp [Tryz.ntmps8]) fun X => ?_
  simp only [Tryz.ntmps8, List.map]
  refine AW_rg (tyOf_good _) [2, 3] [2, 3] (fun _ _ => trivial) fun K' hK' => ?_
  repeat (refine sxf_next fun K2 hK2 => ?_; simp [cRt, dPts]; (repeat (refine ⟨by omega, ?_⟩)); refine hK2 _ ?_; clear hK2 K2)
  refine sxf_nil (hK' _ ?_)
  refine AW.st (by simp [cRt, dPts]; rfl) ?_
  clear hK' K'
  refine AW.imp (Imp.freezeB 3 trivial) ?_
  refine AW.st (by simp [cRt, dPts]; rfl) ?_
  unfold clashF
  cases hr : (a.1.any fun s => b.1.contains s)
  · rw [hr] at h1
    refine AW_rg (tyOf_good _) [4] [2] (fun _ _ => trivial) fun K' hK' => ?_
    repeat (refine sxf_next fun K2 hK2 => ?_; simp [cRt, dPts]; (repeat (refine ⟨by omega, ?_⟩)); refine hK2 _ ?_; clear hK2 K2)
    refine sxf_next fun K2 hK2 => ?_
    simp [cRt, dPts]
    refine callK.data (h1) (by simp; rfl) (by first | exact D.leGo_refl _ | simp [takeMap, List.map_map, Function.comp_def, D.le, D.le.go, D.le_refl, D.leGo_refl, cRt, dPts]) ?_
    refine hK2 _ ?_
    clear hK2 K2
    simp only [putd, upd_lst]
    repeat (refine sxf_next fun K2 hK2 => ?_; simp [cRt, dPts]; (repeat (refine ⟨by omega, ?_⟩)); refine hK2 _ ?_; clear hK2 K2)
    refine sxf_next fun K2 hK2 => ?_
    simp [cRt, dPts]
    refine callK.data (h2) (by simp; rfl) (by first | exact D.leGo_refl _ | simp [takeMap, List.map_map, Function.comp_def, D.le, D.le.go, D.le_refl, D.leGo_refl, cRt, dPts]) ?_
    refine hK2 _ ?_
    clear hK2 K2
    simp only [putd, upd_lst]
    repeat (refine sxf_next fun K2 hK2 => ?_; simp [cRt, dPts]; (repeat (refine ⟨by omega, ?_⟩)); refine hK2 _ ?_; clear hK2 K2)
    refine sxf_nil (hK' _ ?_)
    refine AW.st (by simp [cRt, dPts]; rfl) ?_
    clear hK' K'
    refine AW_ret ?_
    simp [D.le, D.le.go, takeMap, cRt, dPts]
  · rw [hr] at h1
    refine AW_rg (tyOf_good _) [4] [2] (fun _ _ => trivial) fun K' hK' => ?_
    repeat (refine sxf_next fun K2 hK2 => ?_; simp [cRt, dPts]; (repeat (refine ⟨by omega, ?_⟩)); refine hK2 _ ?_; clear hK2 K2)
    refine sxf_next fun K2 hK2 => ?_
    simp [cRt, dPts]
    refine callK.data (h1) (by simp; rfl) (by first | exact D.leGo_refl _ | simp [takeMap, List.map_map, Function.comp_def, D.le, D.le.go, D.le_refl, D.leGo_refl, cRt, dPts]) ?_
    refine hK2 _ ?_
    clear hK2 K2
    simp only [putd, upd_lst]
    repeat (refine sxf_next fun K2 hK2 => ?_; simp [cRt, dPts]; (repeat (refine ⟨by omega, ?_⟩)); refine hK2 _ ?_; clear hK2 K2)
    refine sxf_nil (hK' _ ?_)
    refine AW.st (by simp [cRt, dPts]; rfl) ?_
    clear hK' K'
    refine AW_ret ?_
    simp [D.le, D.le.go, takeMap, cRt, dPts]
end Go.Proofs.YtnlhioeefmhklaaGreatDoor

/-
  Tables: few states; which tables may be.
-/
namespace Go.Proofs.YtnlhioeefmhklaaGreatDoor
set_option linter.unusedSimpArgs false
set_option linter.unusedVariables false
open Go.Av

structure Tab where
  next : List (List Int)
  tells : List (List Int)

end Go.Proofs.YtnlhioeefmhklaaGreatDoor

/-
  Which tables may be.
-/
namespace Go.Proofs.YtnlhioeefmhklaaGreatDoor
set_option linter.unusedSimpArgs false
set_option linter.unusedVariables false
open Go.Av

/-- Whether an error is told, which one, and where. -/
def dErr : Option (Int × Option Nat) → D
  | none => .v .nilIface
  | some (c, none) => .ifc 53 (.v (.int .i64 c))
  | some (c, some s) => .ifc 105 (.ip [.v (.int .i64 c), .v (.int .i64 s)])

end Go.Proofs.YtnlhioeefmhklaaGreatDoor

/-
  Routes: what is named twice; which tables may be.
-/
namespace Go.Proofs.YtnlhioeefmhklaaGreatDoor
set_option linter.unusedSimpArgs false
set_option linter.unusedVariables false
open Go.Av

theorem twiceL_iff {α : Type} (same : α → α → Bool) : ∀ (l seen : List α), twiceL same seen l = true ↔ ∃ n, ∃ h : n < l.length, (seen ++ l.take n).any (same l[n]) = true
  | [], seen => by simp [twiceL]
  | x :: l, seen => by
    rw [twiceL, Bool.or_eq_true, twiceL_iff same l (seen ++ [x])]
    constructor
    · rintro (h | ⟨n, h, hh⟩)
      · exact ⟨0, by simp, by simpa using h⟩
      · exact ⟨n + 1, by simpa using h, by simpa using hh⟩
    · rintro ⟨n, h, hh⟩
      cases n with
      | zero => exact .inl (by simpa using hh)
      | succ n => exact .inr ⟨n, by simpa using h, by simpa using hh⟩
theorem twiceL_hit {α : Type} {same : α → α → Bool} {l : List α} {n : Nat} (h : n < l.length) (hh : (l.take n).any (same l[n]) = true) : twiceL same [] l = true := (twiceL_iff same l []).2 ⟨n, h, by simpa using hh⟩
theorem twiceL_miss {α : Type} {same : α → α → Bool} {l : List α} (hh : ∀ n (h : n < l.length), (l.take n).any (same l[n]) = false) : twiceL same [] l = false := by
  rw [← Bool.not_eq_true]
  intro h
  obtain ⟨n, hn, h⟩ := (twiceL_iff same l []).1 h
  rw [List.nil_append, hh n hn] at h
  cases h
theorem contains_any (l : List Int) (x : Int) : l.contains x = l.any fun y => x == y := by
  rw [Bool.eq_iff_iff, List.any_eq_true, List.contains_iff_mem]
  constructor
  · intro h; exact ⟨x, h, by simp⟩
  · rintro ⟨y, h1, h2⟩; have : x = y := by simpa using h2
    exact this ▸ h1

set_option maxHeartbeats 1000000 in
theorem twice1_spec (G : Glob) (p q : Int × Bool) : PureC Tryz.prog G 155 [dPt q, .ip (cPt p)] (.v (.bool (p.1 == q.1))) := by
  obtain ⟨n, o⟩ := p
  obtain ⟨m, u⟩ := q
  simp only [dPt, cPt]
  refine PureC.of_body (tyOf_good _) Tryz.func155 rfl rfl (rs := [.tmp 3]) Tryz.results155 (by simp [Tryz.ntmps155]) fun X => ?_
  simp only [Tryz.ntmps155, List.map]
  refine AW_rg (tyOf_good _) [1, 2] [2] (fun _ _ => trivial) fun K' hK' => ?_
  repeat (refine sxf_next fun K2 hK2 => ?_; simp; (repeat (refine ⟨by omega, ?_⟩)); refine hK2 _ ?_; clear hK2 K2)
  refine sxf_nil (hK' _ ?_)
  refine AW.st (by simp; rfl) ?_
  clear hK' K'
  refine AW_rg (tyOf_good _) [3] [2] (fun _ _ => trivial) fun K' hK' => ?_
  repeat (refine sxf_next fun K2 hK2 => ?_; simp; (repeat (refine ⟨by omega, ?_⟩)); refine hK2 _ ?_; clear hK2 K2)
  refine sxf_nil (hK' _ ?_)
  refine AW.st (by simp; rfl) ?_
  clear hK' K'
  refine AW_ret ?_
  simp [D.le, D.le.go, takeMap]

set_option maxHeartbeats 2000000 in
theorem twice_spec (G : Glob) (r : Rt) (hr : SmallR r) : PureC Tryz.prog G 110 [dRt r] (.v (.bool (twiceF r))) := by
  obtain ⟨ss, ps⟩ := r
  obtain ⟨hs, hp⟩ := hr
  dsimp only at hs hp
  unfold twiceF
  dsimp only
  generalize hA : twiceL (fun a b => a == b) [] ss = A
  generalize hB : twiceL (fun a b : Int × Bool => a.1 == b.1) [] ps = B
  refine PureC.of_body (tyOf_good _) Tryz.func110 rfl rfl (rs := [.tmp 2]) Tryz.results110 (by simp [Tryz.ntmps110]) fun X => ?_
  simp only [Tryz.ntmps110, List.map]
  refine AW_rg (tyOf_good _) [1] [1] (fun _ _ => trivial) fun K' hK' => ?_
  repeat (refine sxf_next fun K2 hK2 => ?_; simp [dRt, cRt, dPts, dRow_eq]; (repeat (refine ⟨by omega, ?_⟩)); refine hK2 _ ?_; clear hK2 K2)
  refine sxf_nil (hK' _ ?_)
  refine AW.st (by simp [dRt, cRt, dPts, dRow_eq]; rfl) ?_
  clear hK' K'
  refine AW_then fun K1 hK1 => ?_
  refine AW_rg (tyOf_good _) [1, 8, 9, 10] [1] (fun _ _ => trivial) fun K' hK' => ?_
  repeat (refine sxf_next fun K2 hK2 => ?_; simp [dRt, cRt, dPts, dRow_eq]; (repeat (refine ⟨by omega, ?_⟩)); refine hK2 _ ?_; clear hK2 K2)
  refine sxf_nil (hK' _ ?_)
  refine AW.st (by simp [dRt, cRt, dPts, dRow_eq]; rfl) ?_
  clear hK' K'
  refine AW_for (S := Nat) (fun n => n ≤ ss.length ∧ ∀ i (hi : i < ss.length), i < n → ((ss.take i).any fun y => ss[i] == y) = false) (fun n => ⟨lst [(1, .ref 1 0 0), (8, .d (.sl none (ss.map fun x => [.v (.int .i64 x)]))), (9, int ss.length), (10, int n)], hlst [(1, .box 25 [.d (.sl none (ss.map fun x => [.v (.int .i64 x)])), .d (.sl none (ps.map cPt))])]⟩) (fun n => ss.length - n) 0 ?_ (by simp) ?_
  · refine Imp.to' (fun _ _ => trivial) (by simp [dRt, cRt, dPts, dRow_eq]) (by simp [dRt, cRt, dPts, dRow_eq])
  · rintro n ⟨hn, hb⟩
    refine AW_rg (tyOf_good _) [1, 8, 9, 10, 11] [1] (fun _ _ => trivial) fun K' hK' => ?_
    repeat (refine sxf_next fun K2 hK2 => ?_; simp [dRt, cRt, dPts, dRow_eq]; (repeat (refine ⟨by omega, ?_⟩)); refine hK2 _ ?_; clear hK2 K2)
    refine sxf_nil (hK' _ ?_)
    refine AW.st (by simp [dRt, cRt, dPts, dRow_eq]; rfl) ?_
    clear hK' K'
    refine AW_then fun K2 hK2 => ?_
    refine AW_cond' (b := n < ss.length) (by simp [D.le, D.le.go, takeMap, dRt, cRt, dPts, dRow_eq]) (fun hc => ?_) (fun hc => ?_)
    · have hlt := hc
      refine AW_skip (hK2 _ ?_)
      refine AW_then fun K3 hK3 => ?_
      refine AW_block ?_
      refine AW_rg (tyOf_good _) [1, 3, 4, 8, 9, 10] [1] (fun _ _ => trivial) fun K' hK' => ?_
      repeat (refine sxf_next fun K2 hK2 => ?_; simp [dRt, cRt, dPts, dRow_eq, hc]; (repeat (refine ⟨by omega, ?_⟩)); refine hK2 _ ?_; clear hK2 K2)
      refine sxf_nil (hK' _ ?_)
      refine AW.st (by simp [dRt, cRt, dPts, dRow_eq, hc]; rfl) ?_
      clear hK' K'
      have hcs := containsEq_spec G (ss.take n) ss[n] (by rw [List.length_take]; omega)
      rw [contains_any, dRow_eq, List.map_take] at hcs
      refine AW_rg (tyOf_good _) [1, 8, 9, 10, 20] [1] (fun _ _ => trivial) fun K' hK' => ?_
      repeat (refine sxf_next fun K2 hK2 => ?_; simp [dRt, cRt, dPts, dRow_eq, hc, takeMap]; (repeat (refine ⟨by omega, ?_⟩)); refine hK2 _ ?_; clear hK2 K2)
      refine sxf_next fun K2 hK2 => ?_
      simp [dRt, cRt, dPts, dRow_eq, hc, takeMap]
      refine callK.data (hcs) (by simp; rfl) (by first | exact D.leGo_refl _ | simp [takeMap, List.map_map, Function.comp_def, D.le, D.le.go, D.le_refl, D.leGo_refl, dRt, cRt, dPts, dRow_eq, hc, takeMap]) ?_
      refine hK2 _ ?_
      clear hK2 K2
      simp only [putd, upd_lst]
      repeat (refine sxf_next fun K2 hK2 => ?_; simp [dRt, cRt, dPts, dRow_eq, hc, takeMap]; (repeat (refine ⟨by omega, ?_⟩)); refine hK2 _ ?_; clear hK2 K2)
      refine sxf_nil (hK' _ ?_)
      refine AW.st (by simp [dRt, cRt, dPts, dRow_eq, hc, takeMap]; rfl) ?_
      clear hK' K'
      refine AW_cond _ rfl (fun hc => ?_) (fun hc => ?_)
      · rw [twiceL_hit hlt hc] at hA
        refine AW_rg (tyOf_good _) [2] [1] (fun _ _ => trivial) fun K' hK' => ?_
        repeat (refine sxf_next fun K2 hK2 => ?_; simp [dRt, cRt, dPts, dRow_eq]; (repeat (refine ⟨by omega, ?_⟩)); refine hK2 _ ?_; clear hK2 K2)
        refine sxf_nil (hK' _ ?_)
        refine AW.st (by simp [dRt, cRt, dPts, dRow_eq]; rfl) ?_
        clear hK' K'
        refine AW_ret ?_
        simp [D.le, D.le.go, takeMap, dRt, cRt, dPts, dRow_eq, ← hA]
      · refine AW_skip (hK3 _ ?_)
        refine AW_re (tyOf_good _) fun K' hK' => ?_
        repeat (refine sxf_next fun K2 hK2 => ?_; simp [dRt, cRt, dPts, dRow_eq]; (repeat (refine ⟨by omega, ?_⟩)); refine hK2 _ ?_; clear hK2 K2)
        refine sxf_nil (hK' _ ?_)
        clear hK' K'
        try simp only [thn, inb]
        refine Again.mk (n + 1) ⟨by omega, fun i hi hin => ?_⟩ (by omega) ?_
        · by_cases h : i = n
          · subst h; exact hc
          · exact hb i hi (by omega)
        refine Imp.to' (fun _ _ => trivial) (by simp [dRt, cRt, dPts, dRow_eq]) (by simp [dRt, cRt, dPts, dRow_eq])
    · have hA0 : A = false := by rw [← hA]; exact twiceL_miss fun i hi => hb i hi (by omega)
      refine AW_exit (hK1 _ ?_)
      refine AW_then fun K4 hK4 => ?_
      refine AW_rg (tyOf_good _) [1, 23, 24, 25] [1] (fun _ _ => trivial) fun K' hK' => ?_
      repeat (refine sxf_next fun K2 hK2 => ?_; simp [dRt, cRt, dPts, dRow_eq]; (repeat (refine ⟨by omega, ?_⟩)); refine hK2 _ ?_; clear hK2 K2)
      refine sxf_nil (hK' _ ?_)
      refine AW.st (by simp [dRt, cRt, dPts, dRow_eq]; rfl) ?_
      clear hK' K'
      refine AW_for (S := Nat) (fun n => n ≤ ps.length ∧ ∀ i (hi : i < ps.length), i < n → ((ps.take i).any fun y => ps[i].1 == y.1) = false) (fun n => ⟨lst [(1, .ref 1 0 0), (23, .d (.sl none (ps.map cPt))), (24, int ps.length), (25, int n)], hlst [(1, .box 25 [.d (.sl none (ss.map fun x => [.v (.int .i64 x)])), .d (.sl none (ps.map cPt))])]⟩) (fun n => ps.length - n) 0 ?_ (by simp) ?_
      · refine Imp.to' (fun _ _ => trivial) (by simp [dRt, cRt, dPts, dRow_eq]) (by simp [dRt, cRt, dPts, dRow_eq])
      · rintro n ⟨hn, hb⟩
        refine AW_rg (tyOf_good _) [1, 23, 24, 25, 26] [1] (fun _ _ => trivial) fun K' hK' => ?_
        repeat (refine sxf_next fun K2 hK2 => ?_; simp [dRt, cRt, dPts, dRow_eq]; (repeat (refine ⟨by omega, ?_⟩)); refine hK2 _ ?_; clear hK2 K2)
        refine sxf_nil (hK' _ ?_)
        refine AW.st (by simp [dRt, cRt, dPts, dRow_eq]; rfl) ?_
        clear hK' K'
        refine AW_then fun K5 hK5 => ?_
        refine AW_cond' (b := n < ps.length) (by simp [D.le, D.le.go, takeMap, dRt, cRt, dPts, dRow_eq]) (fun hc => ?_) (fun hc => ?_)
        · have hlt := hc
          refine AW_skip (hK5 _ ?_)
          refine AW_then fun K6 hK6 => ?_
          refine AW_block ?_
          refine AW_rg (tyOf_good _) [1, 5, 6, 23, 24, 25] [1, 6] (fun _ _ => trivial) fun K' hK' => ?_
          repeat (refine sxf_next fun K2 hK2 => ?_; simp [dRt, cRt, dPts, dRow_eq, hc, cPt]; (repeat (refine ⟨by omega, ?_⟩)); refine hK2 _ ?_; clear hK2 K2)
          refine sxf_nil (hK' _ ?_)
          refine AW.st (by simp [dRt, cRt, dPts, dRow_eq, hc, cPt]; rfl) ?_
          clear hK' K'
          refine AW.imp (Imp.freezeB 6 trivial) ?_
          refine AW.st (by simp [dRt, cRt, dPts, dRow_eq]; rfl) ?_
          have hcp := containsPt_spec G none (ps.take n) 155 [.ip (cPt ps[n])] (fun q => ps[n].1 == q.1) (by rw [List.length_take]; omega) fun q _ => twice1_spec G ps[n] q
          rw [List.map_take] at hcp
          simp only [cPt] at hcp
          refine AW_rg (tyOf_good _) [1, 23, 24, 25, 35] [1] (fun _ _ => trivial) fun K' hK' => ?_
          repeat (refine sxf_next fun K2 hK2 => ?_; simp [dRt, cRt, dPts, dRow_eq, hc, takeMap]; (repeat (refine ⟨by omega, ?_⟩)); refine hK2 _ ?_; clear hK2 K2)
          refine sxf_next fun K2 hK2 => ?_
          simp [dRt, cRt, dPts, dRow_eq, hc, takeMap]
          refine callK.data (hcp) (by simp; rfl) (by first | exact D.leGo_refl _ | simp [takeMap, List.map_map, Function.comp_def, D.le, D.le.go, D.le_refl, D.leGo_refl, dRt, cRt, dPts, dRow_eq, hc, takeMap]) ?_
          refine hK2 _ ?_
          clear hK2 K2
          simp only [putd, upd_lst]
          repeat (refine sxf_next fun K2 hK2 => ?_; simp [dRt, cRt, dPts, dRow_eq, hc, takeMap]; (repeat (refine ⟨by omega, ?_⟩)); refine hK2 _ ?_; clear hK2 K2)
          refine sxf_nil (hK' _ ?_)
          refine AW.st (by simp [dRt, cRt, dPts, dRow_eq, hc, takeMap]; rfl) ?_
          clear hK' K'
          refine AW_cond _ rfl (fun hc => ?_) (fun hc => ?_)
          · rw [twiceL_hit hlt hc] at hB
            refine AW_rg (tyOf_good _) [2] [1] (fun _ _ => trivial) fun K' hK' => ?_
            repeat (refine sxf_next fun K2 hK2 => ?_; simp [dRt, cRt, dPts, dRow_eq]; (repeat (refine ⟨by omega, ?_⟩)); refine hK2 _ ?_; clear hK2 K2)
            refine sxf_nil (hK' _ ?_)
            refine AW.st (by simp [dRt, cRt, dPts, dRow_eq]; rfl) ?_
            clear hK' K'
            refine AW_ret ?_
            simp [D.le, D.le.go, takeMap, dRt, cRt, dPts, dRow_eq, ← hB]
          · refine AW_skip (hK6 _ ?_)
            refine AW_re (tyOf_good _) fun K' hK' => ?_
            repeat (refine sxf_next fun K2 hK2 => ?_; simp [dRt, cRt, dPts, dRow_eq]; (repeat (refine ⟨by omega, ?_⟩)); refine hK2 _ ?_; clear hK2 K2)
            refine sxf_nil (hK' _ ?_)
            clear hK' K'
            try simp only [thn, inb]
            refine Again.mk (n + 1) ⟨by omega, fun i hi hin => ?_⟩ (by omega) ?_
            · by_cases h : i = n
              · subst h; exact hc
              · exact hb i hi (by omega)
            refine Imp.to' (fun _ _ => trivial) (by simp [dRt, cRt, dPts, dRow_eq]) (by simp [dRt, cRt, dPts, dRow_eq])
        · have hB0 : B = false := by rw [← hB]; exact twiceL_miss fun i hi => hb i hi (by omega)
          refine AW_exit (hK4 _ ?_)
          refine AW_rg (tyOf_good _) [2] [1] (fun _ _ => trivial) fun K' hK' => ?_
          repeat (refine sxf_next fun K2 hK2 => ?_; simp [dRt, cRt, dPts, dRow_eq]; (repeat (refine ⟨by omega, ?_⟩)); refine hK2 _ ?_; clear hK2 K2)
          refine sxf_nil (hK' _ ?_)
          refine AW.st (by simp [dRt, cRt, dPts, dRow_eq]; rfl) ?_
          clear hK' K'
          refine AW_ret ?_
          simp [D.le, D.le.go, takeMap, dRt, cRt, dPts, dRow_eq, hA0, hB0]
end Go.Proofs.YtnlhioeefmhklaaGreatDoor

/-
  Routes: which tables may be (Check).
-/
namespace Go.Proofs.YtnlhioeefmhklaaGreatDoor
set_option linter.unusedSimpArgs false
set_option linter.unusedVariables false
open Go.Av

/-- What is shown behind its first use. -/
structure LaterR (T : Prop) : Prop where
  out : T
theorem lateR {T U : Prop} (h : LaterR T → U) (t : T) : U := h ⟨t⟩
structure Tb where
  secs : Int
  pts : Int
  rts : List Rt
def cTb (t : Tb) : List D := [.v (.int .i64 t.secs), .v (.int .i64 t.pts), dRts t.rts]
def dTb (t : Tb) : D := .agg (cTb t)
/-- The first wrong one: what is wrong, and where. -/
def firstE {α : Type} (f : α → Int) : List α → Nat → Option (Int × Option Nat)
  | [], _ => none
  | x :: l, i => if f x = 0 then firstE f l (i + 1) else some (f x, some i)
theorem firstE_at {α : Type} {f : α → Int} : ∀ {l : List α} {i n : Nat} (hn : n < l.length), (∀ k (hk : k < l.length), k < n → f l[k] = 0) → f l[n] ≠ 0 → firstE f l i = some (f l[n], some (i + n))
  | x :: l, i, 0, _, _, hne => by rw [firstE, if_neg (show ¬ f x = 0 from hne)]; rfl
  | x :: l, i, n + 1, hn, hb, hne => by
    have h0 : f x = 0 := hb 0 (by simp) (by omega)
    rw [firstE, if_pos h0, firstE_at (l := l) (n := n) (by simpa using hn) (fun k hk hkn => hb (k + 1) (by simpa using hk) (by omega)) hne]
    simp [Nat.add_assoc, Nat.add_comm 1 n]
theorem firstE_none {α : Type} {f : α → Int} : ∀ {l : List α} {i : Nat}, (∀ k (hk : k < l.length), f l[k] = 0) → firstE f l i = none
  | [], _, _ => rfl
  | x :: l, i, hb => by
    rw [firstE, if_pos (show f x = 0 from hb 0 (by simp)), firstE_none fun k hk => hb (k + 1) (by simpa using hk)]
/-- What is wrong of a table. -/
def limT (S P : Int) (n : Nat) : Prop := S < 1 ∨ 3 < S ∨ P < 0 ∨ 2 < P ∨ n < 1 ∨ 3 < n
instance (S P : Int) (n : Nat) : Decidable (limT S P n) := inferInstanceAs (Decidable (_ ∨ _))
def checkT (t : Tb) : Option (Int × Option Nat) := if limT t.secs t.pts t.rts.length then some (4, none) else firstE (badR 8 2 9 t.secs t.pts) t.rts 0

set_option maxHeartbeats 1000000 in
theorem rcheck1_spec (G : Glob) (t : Tb) (s : Int) : PureC Tryz.prog G 108 [.v (.int .i64 s), .ip (cTb t)] (.v (.bool (decide (s < 0) || decide (s ≥ t.secs)))) := by
  refine PureC.of_body (tyOf_good _) Tryz.func108 rfl rfl (rs := [.tmp 3]) Tryz.results108 (by simp [Tryz.ntmps108]) fun X => ?_
  simp only [Tryz.ntmps108, List.map]
  by_cases h : s < 0
  · refine AW_rg (tyOf_good _) [0, 1] [] (fun _ _ => trivial) fun K' hK' => ?_
    repeat (refine sxf_next fun K2 hK2 => ?_; simp [cTb]; (repeat (refine ⟨by omega, ?_⟩)); refine hK2 _ ?_; clear hK2 K2)
    refine sxf_nil (hK' _ ?_)
    refine AW.st (by simp [cTb]; rfl) ?_
    clear hK' K'
    refine AW_rg (tyOf_good _) [3] [] (fun _ _ => trivial) fun K' hK' => ?_
    repeat (refine sxf_next fun K2 hK2 => ?_; simp [cTb, h]; (repeat (refine ⟨by omega, ?_⟩)); refine hK2 _ ?_; clear hK2 K2)
    refine sxf_nil (hK' _ ?_)
    refine AW.st (by simp [cTb, h]; rfl) ?_
    clear hK' K'
    refine AW_ret ?_
    simp [D.le, D.le.go, takeMap, cTb, h]
  · refine AW_rg (tyOf_good _) [0, 1] [] (fun _ _ => trivial) fun K' hK' => ?_
    repeat (refine sxf_next fun K2 hK2 => ?_; simp [cTb]; (repeat (refine ⟨by omega, ?_⟩)); refine hK2 _ ?_; clear hK2 K2)
    refine sxf_nil (hK' _ ?_)
    refine AW.st (by simp [cTb]; rfl) ?_
    clear hK' K'
    refine AW_rg (tyOf_good _) [3] [] (fun _ _ => trivial) fun K' hK' => ?_
    repeat (refine sxf_next fun K2 hK2 => ?_; simp [cTb, h]; (repeat (refine ⟨by omega, ?_⟩)); refine hK2 _ ?_; clear hK2 K2)
    refine sxf_nil (hK' _ ?_)
    refine AW.st (by simp [cTb, h]; rfl) ?_
    clear hK' K'
    refine AW_ret ?_
    simp [D.le, D.le.go, takeMap, cTb, h]
set_option maxHeartbeats 1000000 in
theorem rcheck2_spec (G : Glob) (t : Tb) (p : Int × Bool) : PureC Tryz.prog G 109 [dPt p, .ip (cTb t)] (.v (.bool (decide (p.1 < 0) || decide (p.1 ≥ t.pts)))) := by
  obtain ⟨n, o⟩ := p
  simp only [dPt, cPt]
  refine PureC.of_body (tyOf_good _) Tryz.func109 rfl rfl (rs := [.tmp 3]) Tryz.results109 (by simp [Tryz.ntmps109]) fun X => ?_
  simp only [Tryz.ntmps109, List.map]
  by_cases h : n < 0
  · refine AW_rg (tyOf_good _) [1, 2] [2] (fun _ _ => trivial) fun K' hK' => ?_
    repeat (refine sxf_next fun K2 hK2 => ?_; simp [cTb]; (repeat (refine ⟨by omega, ?_⟩)); refine hK2 _ ?_; clear hK2 K2)
    refine sxf_nil (hK' _ ?_)
    refine AW.st (by simp [cTb]; rfl) ?_
    clear hK' K'
    refine AW_rg (tyOf_good _) [3] [2] (fun _ _ => trivial) fun K' hK' => ?_
    repeat (refine sxf_next fun K2 hK2 => ?_; simp [cTb, h]; (repeat (refine ⟨by omega, ?_⟩)); refine hK2 _ ?_; clear hK2 K2)
    refine sxf_nil (hK' _ ?_)
    refine AW.st (by simp [cTb, h]; rfl) ?_
    clear hK' K'
    refine AW_ret ?_
    simp [D.le, D.le.go, takeMap, cTb, h]
  · refine AW_rg (tyOf_good _) [1, 2] [2] (fun _ _ => trivial) fun K' hK' => ?_
    repeat (refine sxf_next fun K2 hK2 => ?_; simp [cTb]; (repeat (refine ⟨by omega, ?_⟩)); refine hK2 _ ?_; clear hK2 K2)
    refine sxf_nil (hK' _ ?_)
    refine AW.st (by simp [cTb]; rfl) ?_
    clear hK' K'
    refine AW_rg (tyOf_good _) [3] [2] (fun _ _ => trivial) fun K' hK' => ?_
    repeat (refine sxf_next fun K2 hK2 => ?_; simp [cTb, h]; (repeat (refine ⟨by omega, ?_⟩)); refine hK2 _ ?_; clear hK2 K2)
    refine sxf_nil (hK' _ ?_)
    refine AW.st (by simp [cTb, h]; rfl) ?_
    clear hK' K'
    refine AW_ret ?_
    simp [D.le, D.le.go, takeMap, cTb, h]

/-- Small tables: no list is long. -/
def SmallT (t : Tb) : Prop := t.rts.length < 2^62 ∧ ∀ r ∈ t.rts, SmallR r
set_option maxHeartbeats 8000000 in
theorem rcheck_spec (G : Glob) (t : Tb) (ht : SmallT t) : PureC Tryz.prog G 64 [dTb t] (dErr (checkT t)) := by
  obtain ⟨S, P, rts⟩ := t
  obtain ⟨hl, hsr⟩ := ht
  dsimp only at hl hsr
  have hr2 : checkT ⟨S, P, rts⟩ = if limT S P rts.length then some (4, none) else firstE (badR 8 2 9 S P) rts 0 := rfl
  generalize hres : checkT ⟨S, P, rts⟩ = res
  rw [hr2] at hres
  have hk1 := fun s => rcheck1_spec G ⟨S, P, rts⟩ s
  have hk2 := fun p => rcheck2_spec G ⟨S, P, rts⟩ p
  simp only [cTb, dRts] at hk1 hk2
  refine PureC.of_body (tyOf_good _) Tryz.func64 rfl rfl (rs := [.tmp 2]) Tryz.results64 (by simp [Tryz.ntmps64]) fun X => ?_
  simp only [Tryz.ntmps64, List.map]
  refine AW_rg (tyOf_good _) [1] [1] (fun _ _ => trivial) fun K' hK' => ?_
  repeat (refine sxf_next fun K2 hK2 => ?_; simp [dTb, cTb, dRts]; (repeat (refine ⟨by omega, ?_⟩)); refine hK2 _ ?_; clear hK2 K2)
  refine sxf_nil (hK' _ ?_)
  refine AW.st (by simp [dTb, cTb, dRts]; rfl) ?_
  clear hK' K'
  refine AW.imp (Imp.freezeB 1 trivial) ?_
  refine AW.st (by simp [dTb, cTb, dRts]; rfl) ?_
  refine AW_then fun K1 hK1 => ?_
  by_cases g0 : S < 1
  · rw [if_pos (.inl (by omega))] at hres
    refine AW_rg (tyOf_good _) [1, 35] [] (fun _ _ => trivial) fun K' hK' => ?_
    repeat (refine sxf_next fun K2 hK2 => ?_; simp [dTb, cTb, dRts, g0]; (repeat (refine ⟨by omega, ?_⟩)); refine hK2 _ ?_; clear hK2 K2)
    refine sxf_nil (hK' _ ?_)
    refine AW.st (by simp [dTb, cTb, dRts, g0]; rfl) ?_
    clear hK' K'
    refine AW_cond true rfl (fun _ => ?_) (fun h => by cases h)
    refine AW_rg (tyOf_good _) [2] [] (fun _ _ => trivial) fun K' hK' => ?_
    repeat (refine sxf_next fun K2 hK2 => ?_; simp [dTb, cTb, dRts]; (repeat (refine ⟨by omega, ?_⟩)); refine hK2 _ ?_; clear hK2 K2)
    refine sxf_nil (hK' _ ?_)
    refine AW.st (by simp [dTb, cTb, dRts]; rfl) ?_
    clear hK' K'
    refine AW_ret ?_
    simp [D.le, D.le.go, takeMap, dTb, cTb, dRts]
    simp [← hres, dErr, D.le]
  by_cases g1 : S > 3
  · rw [if_pos (.inr (.inl (by omega)))] at hres
    refine AW_rg (tyOf_good _) [1, 35] [] (fun _ _ => trivial) fun K' hK' => ?_
    repeat (refine sxf_next fun K2 hK2 => ?_; simp [dTb, cTb, dRts, g0, g1]; (repeat (refine ⟨by omega, ?_⟩)); refine hK2 _ ?_; clear hK2 K2)
    refine sxf_nil (hK' _ ?_)
    refine AW.st (by simp [dTb, cTb, dRts, g0, g1]; rfl) ?_
    clear hK' K'
    refine AW_cond true rfl (fun _ => ?_) (fun h => by cases h)
    refine AW_rg (tyOf_good _) [2] [] (fun _ _ => trivial) fun K' hK' => ?_
    repeat (refine sxf_next fun K2 hK2 => ?_; simp [dTb, cTb, dRts]; (repeat (refine ⟨by omega, ?_⟩)); refine hK2 _ ?_; clear hK2 K2)
    refine sxf_nil (hK' _ ?_)
    refine AW.st (by simp [dTb, cTb, dRts]; rfl) ?_
    clear hK' K'
    refine AW_ret ?_
    simp [D.le, D.le.go, takeMap, dTb, cTb, dRts]
    simp [← hres, dErr, D.le]
  by_cases g2 : P < 0
  · rw [if_pos (.inr (.inr (.inl (by omega))))] at hres
    refine AW_rg (tyOf_good _) [1, 35] [] (fun _ _ => trivial) fun K' hK' => ?_
    repeat (refine sxf_next fun K2 hK2 => ?_; simp [dTb, cTb, dRts, g0, g1, g2]; (repeat (refine ⟨by omega, ?_⟩)); refine hK2 _ ?_; clear hK2 K2)
    refine sxf_nil (hK' _ ?_)
    refine AW.st (by simp [dTb, cTb, dRts, g0, g1, g2]; rfl) ?_
    clear hK' K'
    refine AW_cond true rfl (fun _ => ?_) (fun h => by cases h)
    refine AW_rg (tyOf_good _) [2] [] (fun _ _ => trivial) fun K' hK' => ?_
    repeat (refine sxf_next fun K2 hK2 => ?_; simp [dTb, cTb, dRts]; (repeat (refine ⟨by omega, ?_⟩)); refine hK2 _ ?_; clear hK2 K2)
    refine sxf_nil (hK' _ ?_)
    refine AW.st (by simp [dTb, cTb, dRts]; rfl) ?_
    clear hK' K'
    refine AW_ret ?_
    simp [D.le, D.le.go, takeMap, dTb, cTb, dRts]
    simp [← hres, dErr, D.le]
  by_cases g3 : P > 2
  · rw [if_pos (.inr (.inr (.inr (.inl (by omega)))))] at hres
    refine AW_rg (tyOf_good _) [1, 35] [] (fun _ _ => trivial) fun K' hK' => ?_
    repeat (refine sxf_next fun K2 hK2 => ?_; simp [dTb, cTb, dRts, g0, g1, g2, g3]; (repeat (refine ⟨by omega, ?_⟩)); refine hK2 _ ?_; clear hK2 K2)
    refine sxf_nil (hK' _ ?_)
    refine AW.st (by simp [dTb, cTb, dRts, g0, g1, g2, g3]; rfl) ?_
    clear hK' K'
    refine AW_cond true rfl (fun _ => ?_) (fun h => by cases h)
    refine AW_rg (tyOf_good _) [2] [] (fun _ _ => trivial) fun K' hK' => ?_
    repeat (refine sxf_next fun K2 hK2 => ?_; simp [dTb, cTb, dRts]; (repeat (refine ⟨by omega, ?_⟩)); refine hK2 _ ?_; clear hK2 K2)
    refine sxf_nil (hK' _ ?_)
    refine AW.st (by simp [dTb, cTb, dRts]; rfl) ?_
    clear hK' K'
    refine AW_ret ?_
    simp [D.le, D.le.go, takeMap, dTb, cTb, dRts]
    simp [← hres, dErr, D.le]
  by_cases g4 : (rts.length : Int) < 1
  · rw [if_pos (.inr (.inr (.inr (.inr (.inl (by omega))))))] at hres
    refine AW_rg (tyOf_good _) [1, 35] [] (fun _ _ => trivial) fun K' hK' => ?_
    repeat (refine sxf_next fun K2 hK2 => ?_; simp [dTb, cTb, dRts, g0, g1, g2, g3, g4]; (repeat (refine ⟨by omega, ?_⟩)); refine hK2 _ ?_; clear hK2 K2)
    refine sxf_nil (hK' _ ?_)
    refine AW.st (by simp [dTb, cTb, dRts, g0, g1, g2, g3, g4]; rfl) ?_
    clear hK' K'
    refine AW_cond true rfl (fun _ => ?_) (fun h => by cases h)
    refine AW_rg (tyOf_good _) [2] [] (fun _ _ => trivial) fun K' hK' => ?_
    repeat (refine sxf_next fun K2 hK2 => ?_; simp [dTb, cTb, dRts]; (repeat (refine ⟨by omega, ?_⟩)); refine hK2 _ ?_; clear hK2 K2)
    refine sxf_nil (hK' _ ?_)
    refine AW.st (by simp [dTb, cTb, dRts]; rfl) ?_
    clear hK' K'
    refine AW_ret ?_
    simp [D.le, D.le.go, takeMap, dTb, cTb, dRts]
    simp [← hres, dErr, D.le]
  by_cases g5 : (rts.length : Int) > 3
  · rw [if_pos (.inr (.inr (.inr (.inr (.inr (by omega))))))] at hres
    refine AW_rg (tyOf_good _) [1, 35] [] (fun _ _ => trivial) fun K' hK' => ?_
    repeat (refine sxf_next fun K2 hK2 => ?_; simp [dTb, cTb, dRts, g0, g1, g2, g3, g4, g5]; (repeat (refine ⟨by omega, ?_⟩)); refine hK2 _ ?_; clear hK2 K2)
    refine sxf_nil (hK' _ ?_)
    refine AW.st (by simp [dTb, cTb, dRts, g0, g1, g2, g3, g4, g5]; rfl) ?_
    clear hK' K'
    refine AW_cond true rfl (fun _ => ?_) (fun h => by cases h)
    refine AW_rg (tyOf_good _) [2] [] (fun _ _ => trivial) fun K' hK' => ?_
    repeat (refine sxf_next fun K2 hK2 => ?_; simp [dTb, cTb, dRts]; (repeat (refine ⟨by omega, ?_⟩)); refine hK2 _ ?_; clear hK2 K2)
    refine sxf_nil (hK' _ ?_)
    refine AW.st (by simp [dTb, cTb, dRts]; rfl) ?_
    clear hK' K'
    refine AW_ret ?_
    simp [D.le, D.le.go, takeMap, dTb, cTb, dRts]
    simp [← hres, dErr, D.le]
  rw [if_neg (by unfold limT; omega)] at hres
  refine AW_rg (tyOf_good _) [1, 35] [] (fun _ _ => trivial) fun K' hK' => ?_
  repeat (refine sxf_next fun K2 hK2 => ?_; simp [dTb, cTb, dRts, g0, g1, g2, g3, g4, g5]; (repeat (refine ⟨by omega, ?_⟩)); refine hK2 _ ?_; clear hK2 K2)
  refine sxf_nil (hK' _ ?_)
  refine AW.st (by simp [dTb, cTb, dRts, g0, g1, g2, g3, g4, g5]; rfl) ?_
  clear hK' K'
  refine AW_cond false rfl (fun h => by cases h) (fun _ => ?_)
  refine AW_skip (hK1 _ ?_)
  refine AW_then fun K2 hK2 => ?_
  refine AW_rg (tyOf_good _) [1, 38, 39, 40] [] (fun _ _ => trivial) fun K' hK' => ?_
  repeat (refine sxf_next fun K2 hK2 => ?_; simp [dTb, cTb, dRts]; (repeat (refine ⟨by omega, ?_⟩)); refine hK2 _ ?_; clear hK2 K2)
  refine sxf_nil (hK' _ ?_)
  refine AW.st (by simp [dTb, cTb, dRts]; rfl) ?_
  clear hK' K'
  refine AW_for (S := Nat) (fun n => n ≤ rts.length ∧ ∀ k (hk : k < rts.length), k < n → badR 8 2 9 S P rts[k] = 0) (fun n => ⟨lst [(1, .d (.ip [.v (.int .i64 S), .v (.int .i64 P), .sl none (rts.map cRt)])), (38, .d (.sl none (rts.map cRt))), (39, int rts.length), (40, int n)], hlst []⟩) (fun n => rts.length - n) 0 ?_ (by simp) ?_
  · refine Imp.to' (fun _ _ => trivial) (by simp [dTb, cTb, dRts]) (by simp [dTb, cTb, dRts])
  · rintro n ⟨hn, hb⟩
    refine AW_rg (tyOf_good _) [1, 38, 39, 40, 41] [] (fun _ _ => trivial) fun K' hK' => ?_
    repeat (refine sxf_next fun K2 hK2 => ?_; simp [dTb, cTb, dRts]; (repeat (refine ⟨by omega, ?_⟩)); refine hK2 _ ?_; clear hK2 K2)
    refine sxf_nil (hK' _ ?_)
    refine AW.st (by simp [dTb, cTb, dRts]; rfl) ?_
    clear hK' K'
    refine AW_then fun K3 hK3 => ?_
    refine AW_cond' (b := n < rts.length) (by simp [D.le, D.le.go, takeMap, dTb, cTb, dRts]) (fun hc => ?_) (fun hc => ?_)
    · have hlt := hc
      have hsm := hsr rts[n] (by simp)
      have hbad : badR 8 2 9 S P rts[n] = if rts[n].1 = [] then 8 else if (rts[n].1.any fun s => decide (s < 0) || decide (s ≥ S)) || (rts[n].2.any fun p => decide (p.1 < 0) || decide (p.1 ≥ P)) then 2 else if twiceF rts[n] then 9 else 0 := rfl
      have hgo : badR 8 2 9 S P rts[n] ≠ 0 → res = some (badR 8 2 9 S P rts[n], some n) := fun hne => by rw [← hres, firstE_at hlt (fun k hk hkn => hb k hk hkn) hne]; simp
      have h16 := containsInt_spec G none (fun x : Int => D.v (.int .i64 x)) rts[n].1 108 [.ip [.v (.int .i64 S), .v (.int .i64 P), .sl none (rts.map cRt)]] (fun s => decide (s < 0) || decide (s ≥ S)) (by have := hsm.1; omega) fun s _ => hk1 s
      have h18 := containsPt_spec G none rts[n].2 109 [.ip [.v (.int .i64 S), .v (.int .i64 P), .sl none (rts.map cRt)]] (fun p => decide (p.1 < 0) || decide (p.1 ≥ P)) hsm.2 fun p _ => hk2 p
      have h20 := twice_spec G rts[n] hsm
      simp only [dRt, cRt, dPts, dRow_eq] at h20
      refine AW_skip (hK3 _ ?_)
      refine AW_then fun K4 hK4 => ?_
      refine AW_block ?_
      refine AW_rg (tyOf_good _) [1, 3, 4, 38, 39, 40] [4] (fun _ _ => trivial) fun K' hK' => ?_
      repeat (refine sxf_next fun K2 hK2 => ?_; simp [dTb, cTb, dRts, hc, cRt, dPts, dRow_eq]; (repeat (refine ⟨by omega, ?_⟩)); refine hK2 _ ?_; clear hK2 K2)
      refine sxf_nil (hK' _ ?_)
      refine AW.st (by simp [dTb, cTb, dRts, hc, cRt, dPts, dRow_eq]; rfl) ?_
      clear hK' K'
      refine AW_rg (tyOf_good _) [1, 3, 4, 5, 38, 39, 40] [4] (fun _ _ => trivial) fun K' hK' => ?_
      repeat (refine sxf_next fun K2 hK2 => ?_; simp [dTb, cTb, dRts]; (repeat (refine ⟨by omega, ?_⟩)); refine hK2 _ ?_; clear hK2 K2)
      refine sxf_nil (hK' _ ?_)
      refine AW.st (by simp [dTb, cTb, dRts]; rfl) ?_
      clear hK' K'
      refine AW_then fun K5 hK5 => ?_
      generalize hv : badR 8 2 9 S P rts[n] = v at hbad hgo
      refine' lateR (fun hrest => ?_) ?_
      rotate_left
      · refine AW_block ?_
        by_cases c0 : rts[n].1 = []
        · rw [if_pos c0] at hbad
          refine AW_rg (tyOf_good _) [1, 3, 4, 5, 38, 39, 40, 45] [4] (fun _ _ => trivial) fun K' hK' => ?_
          repeat (refine sxf_next fun K2 hK2 => ?_; simp [dTb, cTb, dRts, c0]; (repeat (refine ⟨by omega, ?_⟩)); refine hK2 _ ?_; clear hK2 K2)
          refine sxf_nil (hK' _ ?_)
          refine AW.st (by simp [dTb, cTb, dRts, c0]; rfl) ?_
          clear hK' K'
          refine AW_cond true rfl (fun _ => ?_) (fun h => by cases h)
          refine AW_re (tyOf_good _) fun K' hK' => ?_
          repeat (refine sxf_next fun K2 hK2 => ?_; simp [dTb, cTb, dRts]; (repeat (refine ⟨by omega, ?_⟩)); refine hK2 _ ?_; clear hK2 K2)
          refine sxf_nil (hK' _ ?_)
          clear hK' K'
          refine hK5 _ (AW.norm [1, 3, 5, 38, 39, 40] [] (fun _ _ => trivial) (AW.st (by simp [dTb, cTb, dRts]; rfl) ?_))
          refine AW.st (show _ = (⟨lst [(1, .d (.ip [.v (.int .i64 S), .v (.int .i64 P), .sl none (rts.map cRt)])), (3, int n), (5, int v), (38, .d (.sl none (rts.map cRt))), (39, int rts.length), (40, int n)], hlst []⟩ : St) by rw [hbad] <;> rfl) ?_
          exact hrest.out
        · rw [if_neg c0] at hbad
          have c0' : ¬ ((rts[n].1.length : Int) = 0) := by simpa using c0
          refine AW_rg (tyOf_good _) [1, 3, 4, 5, 38, 39, 40, 45] [4] (fun _ _ => trivial) fun K' hK' => ?_
          repeat (refine sxf_next fun K2 hK2 => ?_; simp [dTb, cTb, dRts, c0', c0]; (repeat (refine ⟨by omega, ?_⟩)); refine hK2 _ ?_; clear hK2 K2)
          refine sxf_nil (hK' _ ?_)
          refine AW.st (by simp [dTb, cTb, dRts, c0', c0]; rfl) ?_
          clear hK' K'
          refine AW_cond false rfl (fun h => by cases h) (fun _ => ?_)
          refine AW_then fun K6 hK6 => ?_
          generalize (rts[n].1.any fun s => decide (s < 0) || decide (s ≥ S)) = b1 at h16 hbad
          generalize (rts[n].2.any fun p => decide (p.1 < 0) || decide (p.1 ≥ P)) = b2 at h18 hbad
          generalize hbo : (b1 || b2) = bo at hbad
          refine' lateR (fun hrest2 => ?_) ?_
          rotate_left
          · cases b1 with
            | true =>
              refine AW_rg (tyOf_good _) [1, 3, 4, 5, 38, 39, 40, 50] [4] (fun _ _ => trivial) fun K' hK' => ?_
              repeat (refine sxf_next fun K2 hK2 => ?_; simp [dTb, cTb, dRts]; (repeat (refine ⟨by omega, ?_⟩)); refine hK2 _ ?_; clear hK2 K2)
              refine sxf_next fun K2 hK2 => ?_
              simp [dTb, cTb, dRts]
              refine callK.data (h16) (by simp; rfl) (by first | exact D.leGo_refl _ | simp [takeMap, List.map_map, Function.comp_def, D.le, D.le.go, D.le_refl, D.leGo_refl, dTb, cTb, dRts]) ?_
              refine hK2 _ ?_
              clear hK2 K2
              simp only [putd, upd_lst]
              repeat (refine sxf_next fun K2 hK2 => ?_; simp [dTb, cTb, dRts]; (repeat (refine ⟨by omega, ?_⟩)); refine hK2 _ ?_; clear hK2 K2)
              refine sxf_nil (hK' _ ?_)
              refine AW.st (by simp [dTb, cTb, dRts]; rfl) ?_
              clear hK' K'
              refine AW_cond true rfl (fun _ => ?_) (fun h => by cases h)
              refine AW_skip ?_
              refine hK6 _ (AW.norm [1, 3, 4, 5, 38, 39, 40, 50] [4] (fun _ _ => trivial) (AW.st (by simp [dTb, cTb, dRts]; rfl) ?_))
              refine AW.st (show _ = (⟨lst [(1, .d (.ip [.v (.int .i64 S), .v (.int .i64 P), .sl none (rts.map cRt)])), (3, int n), (4, .ref 4 0 0), (5, int 0), (38, .d (.sl none (rts.map cRt))), (39, int rts.length), (40, int n), (50, .d (.v (.bool bo)))], hlst [(4, .box 25 [.d (.sl none (rts[n].1.map fun x => [.v (.int .i64 x)])), .d (.sl none (rts[n].2.map cPt))])]⟩ : St) by rw [← hbo] <;> rfl) ?_
              exact hrest2.out
            | false =>
              refine AW_rg (tyOf_good _) [1, 3, 4, 5, 38, 39, 40, 50] [4] (fun _ _ => trivial) fun K' hK' => ?_
              repeat (refine sxf_next fun K2 hK2 => ?_; simp [dTb, cTb, dRts]; (repeat (refine ⟨by omega, ?_⟩)); refine hK2 _ ?_; clear hK2 K2)
              refine sxf_next fun K2 hK2 => ?_
              simp [dTb, cTb, dRts]
              refine callK.data (h16) (by simp; rfl) (by first | exact D.leGo_refl _ | simp [takeMap, List.map_map, Function.comp_def, D.le, D.le.go, D.le_refl, D.leGo_refl, dTb, cTb, dRts]) ?_
              refine hK2 _ ?_
              clear hK2 K2
              simp only [putd, upd_lst]
              repeat (refine sxf_next fun K2 hK2 => ?_; simp [dTb, cTb, dRts]; (repeat (refine ⟨by omega, ?_⟩)); refine hK2 _ ?_; clear hK2 K2)
              refine sxf_nil (hK' _ ?_)
              refine AW.st (by simp [dTb, cTb, dRts]; rfl) ?_
              clear hK' K'
              refine AW_cond false rfl (fun h => by cases h) (fun _ => ?_)
              refine AW_re (tyOf_good _) fun K' hK' => ?_
              repeat (refine sxf_next fun K2 hK2 => ?_; simp [dTb, cTb, dRts]; (repeat (refine ⟨by omega, ?_⟩)); refine hK2 _ ?_; clear hK2 K2)
              refine sxf_next fun K2 hK2 => ?_
              simp [dTb, cTb, dRts]
              refine callK.data (h18) (by simp; rfl) (by first | exact D.leGo_refl _ | simp [takeMap, List.map_map, Function.comp_def, D.le, D.le.go, D.le_refl, D.leGo_refl, dTb, cTb, dRts]) ?_
              refine hK2 _ ?_
              clear hK2 K2
              simp only [putd, upd_lst]
              repeat (refine sxf_next fun K2 hK2 => ?_; simp [dTb, cTb, dRts]; (repeat (refine ⟨by omega, ?_⟩)); refine hK2 _ ?_; clear hK2 K2)
              refine sxf_nil (hK' _ ?_)
              clear hK' K'
              refine hK6 _ (AW.norm [1, 3, 4, 5, 38, 39, 40, 50] [4] (fun _ _ => trivial) (AW.st (by simp [dTb, cTb, dRts]; rfl) ?_))
              refine AW.st (show _ = (⟨lst [(1, .d (.ip [.v (.int .i64 S), .v (.int .i64 P), .sl none (rts.map cRt)])), (3, int n), (4, .ref 4 0 0), (5, int 0), (38, .d (.sl none (rts.map cRt))), (39, int rts.length), (40, int n), (50, .d (.v (.bool bo)))], hlst [(4, .box 25 [.d (.sl none (rts[n].1.map fun x => [.v (.int .i64 x)])), .d (.sl none (rts[n].2.map cPt))])]⟩ : St) by rw [← hbo] <;> rfl) ?_
              exact hrest2.out
          · cases bo with
            | true =>
              rw [if_pos rfl] at hbad
              refine AW_cond true rfl (fun _ => ?_) (fun h => by cases h)
              refine AW_re (tyOf_good _) fun K' hK' => ?_
              repeat (refine sxf_next fun K2 hK2 => ?_; simp [dTb, cTb, dRts]; (repeat (refine ⟨by omega, ?_⟩)); refine hK2 _ ?_; clear hK2 K2)
              refine sxf_nil (hK' _ ?_)
              clear hK' K'
              refine hK5 _ (AW.norm [1, 3, 5, 38, 39, 40] [] (fun _ _ => trivial) (AW.st (by simp [dTb, cTb, dRts]; rfl) ?_))
              refine AW.st (show _ = (⟨lst [(1, .d (.ip [.v (.int .i64 S), .v (.int .i64 P), .sl none (rts.map cRt)])), (3, int n), (5, int v), (38, .d (.sl none (rts.map cRt))), (39, int rts.length), (40, int n)], hlst []⟩ : St) by rw [hbad] <;> rfl) ?_
              exact hrest.out
            | false =>
              rw [if_neg (by decide)] at hbad
              refine AW_cond false rfl (fun h => by cases h) (fun _ => ?_)
              refine AW_rg (tyOf_good _) [1, 3, 5, 38, 39, 40, 59] [] (fun _ _ => trivial) fun K' hK' => ?_
              repeat (refine sxf_next fun K2 hK2 => ?_; simp [dTb, cTb, dRts]; (repeat (refine ⟨by omega, ?_⟩)); refine hK2 _ ?_; clear hK2 K2)
              refine sxf_next fun K2 hK2 => ?_
              simp [dTb, cTb, dRts]
              refine callK.data (h20) (by simp; rfl) (by first | exact D.leGo_refl _ | simp [takeMap, List.map_map, Function.comp_def, D.le, D.le.go, D.le_refl, D.leGo_refl, dTb, cTb, dRts]) ?_
              refine hK2 _ ?_
              clear hK2 K2
              simp only [putd, upd_lst]
              repeat (refine sxf_next fun K2 hK2 => ?_; simp [dTb, cTb, dRts]; (repeat (refine ⟨by omega, ?_⟩)); refine hK2 _ ?_; clear hK2 K2)
              refine sxf_nil (hK' _ ?_)
              refine AW.st (by simp [dTb, cTb, dRts]; rfl) ?_
              clear hK' K'
              generalize twiceF rts[n] = b3 at hbad
              cases b3 with
              | true =>
                rw [if_pos rfl] at hbad
                refine AW_cond true rfl (fun _ => ?_) (fun h => by cases h)
                refine AW_re (tyOf_good _) fun K' hK' => ?_
                repeat (refine sxf_next fun K2 hK2 => ?_; simp [dTb, cTb, dRts]; (repeat (refine ⟨by omega, ?_⟩)); refine hK2 _ ?_; clear hK2 K2)
                refine sxf_nil (hK' _ ?_)
                clear hK' K'
                refine hK5 _ (AW.norm [1, 3, 5, 38, 39, 40] [] (fun _ _ => trivial) (AW.st (by simp [dTb, cTb, dRts]; rfl) ?_))
                refine AW.st (show _ = (⟨lst [(1, .d (.ip [.v (.int .i64 S), .v (.int .i64 P), .sl none (rts.map cRt)])), (3, int n), (5, int v), (38, .d (.sl none (rts.map cRt))), (39, int rts.length), (40, int n)], hlst []⟩ : St) by rw [hbad] <;> rfl) ?_
                exact hrest.out
              | false =>
                rw [if_neg (by decide)] at hbad
                refine AW_cond false rfl (fun h => by cases h) (fun _ => ?_)
                refine AW_skip ?_
                refine hK5 _ (AW.norm [1, 3, 5, 38, 39, 40] [] (fun _ _ => trivial) (AW.st (by simp [dTb, cTb, dRts]; rfl) ?_))
                refine AW.st (show _ = (⟨lst [(1, .d (.ip [.v (.int .i64 S), .v (.int .i64 P), .sl none (rts.map cRt)])), (3, int n), (5, int v), (38, .d (.sl none (rts.map cRt))), (39, int rts.length), (40, int n)], hlst []⟩ : St) by rw [hbad] <;> rfl) ?_
                exact hrest.out
      · by_cases hv0 : v = 0
        · refine AW_rg (tyOf_good _) [1, 3, 5, 38, 39, 40, 63] [] (fun _ _ => trivial) fun K' hK' => ?_
          repeat (refine sxf_next fun K2 hK2 => ?_; simp [dTb, cTb, dRts, hv0]; (repeat (refine ⟨by omega, ?_⟩)); refine hK2 _ ?_; clear hK2 K2)
          refine sxf_nil (hK' _ ?_)
          refine AW.st (by simp [dTb, cTb, dRts, hv0]; rfl) ?_
          clear hK' K'
          refine AW_cond false rfl (fun h => by cases h) (fun _ => ?_)
          refine AW_skip ?_
          refine hK4 _ ?_
          refine AW_re (tyOf_good _) fun K' hK' => ?_
          repeat (refine sxf_next fun K2 hK2 => ?_; simp [dTb, cTb, dRts]; (repeat (refine ⟨by omega, ?_⟩)); refine hK2 _ ?_; clear hK2 K2)
          refine sxf_nil (hK' _ ?_)
          clear hK' K'
          try simp only [thn, inb]
          refine Again.mk (n + 1) ⟨by omega, fun k hk hkn => ?_⟩ (by omega) ?_
          · by_cases h : k = n
            · subst h; rw [hv, hv0]
            · exact hb k hk (by omega)
          refine Imp.to' (fun _ _ => trivial) (by simp [dTb, cTb, dRts]) (by simp [dTb, cTb, dRts])
        · refine AW_rg (tyOf_good _) [1, 3, 5, 38, 39, 40, 63] [] (fun _ _ => trivial) fun K' hK' => ?_
          repeat (refine sxf_next fun K2 hK2 => ?_; simp [dTb, cTb, dRts, hv0]; (repeat (refine ⟨by omega, ?_⟩)); refine hK2 _ ?_; clear hK2 K2)
          refine sxf_nil (hK' _ ?_)
          refine AW.st (by simp [dTb, cTb, dRts, hv0]; rfl) ?_
          clear hK' K'
          refine AW_cond true rfl (fun _ => ?_) (fun h => by cases h)
          refine AW_rg (tyOf_good _) [2] [67] (fun _ _ => trivial) fun K' hK' => ?_
          repeat (refine sxf_next fun K2 hK2 => ?_; simp [dTb, cTb, dRts]; (repeat (refine ⟨by omega, ?_⟩)); refine hK2 _ ?_; clear hK2 K2)
          refine sxf_nil (hK' _ ?_)
          refine AW.st (by simp [dTb, cTb, dRts]; rfl) ?_
          clear hK' K'
          refine AW_ret ?_
          simp [D.le, D.le.go, takeMap, dTb, cTb, dRts]
          simp [hgo hv0, dErr, D.le, D.le.go]
    · refine AW_exit (hK2 _ ?_)
      refine AW_rg (tyOf_good _) [2] [] (fun _ _ => trivial) fun K' hK' => ?_
      repeat (refine sxf_next fun K2 hK2 => ?_; simp [dTb, cTb, dRts]; (repeat (refine ⟨by omega, ?_⟩)); refine hK2 _ ?_; clear hK2 K2)
      refine sxf_nil (hK' _ ?_)
      refine AW.st (by simp [dTb, cTb, dRts]; rfl) ?_
      clear hK' K'
      refine AW_ret ?_
      simp [D.le, D.le.go, takeMap, dTb, cTb, dRts]
      rw [firstE_none fun k hk => hb k hk (by omega)] at hres
      simp [← hres, dErr]
end Go.Proofs.YtnlhioeefmhklaaGreatDoor
