/-
  Texts that belong together, in one file: Ty, F2.
-/
import Derived.Test.YtagfbbnlbncjlaaDoorEs7
import Derived.Test.YtagfbbnlbncjlaaDoorProg
/-
  What the types of this seat's translation are: closed facts, by program (wip/tools/gen_ty.py).
-/
namespace Go.Proofs.YtagfbbnlbncjlaaDoor
open Go.Av
@[simp] theorem ty0 : tyOf Tryd.prog 0 = some ⟨.tuple #[], 1, 0, .tuple #[], peOf Tryd.prog 0⟩ := by kernel_rfl
@[simp] theorem ty1 : tyOf Tryd.prog 1 = some ⟨.func #[] #[] false, 1, 8, .nilFunc, peOf Tryd.prog 1⟩ := by kernel_rfl
@[simp] theorem ty2 : tyOf Tryd.prog 2 = some ⟨.int .i64, 1, 8, .int .i64 0, peOf Tryd.prog 2⟩ := by kernel_rfl
@[simp] theorem ty3 : tyOf Tryd.prog 3 = some ⟨.int .i64, 1, 8, .int .i64 0, peOf Tryd.prog 3⟩ := by kernel_rfl
@[simp] theorem ty4 : tyOf Tryd.prog 4 = some ⟨.bool, 1, 1, .bool false, peOf Tryd.prog 4⟩ := by kernel_rfl
@[simp] theorem ty5 : tyOf Tryd.prog 5 = some ⟨.int .u8, 1, 1, .int .u8 0, peOf Tryd.prog 5⟩ := by kernel_rfl
@[simp] theorem ty7 : tyOf Tryd.prog 7 = some ⟨.struct #[{ name := "x", type := 2, offset := 0, embedded := false, tag := "", pkgPath := "runtime", byteOffset := 0 }, { name := "y", type := 3, offset := 1, embedded := false, tag := "", pkgPath := "runtime", byteOffset := 8 }, { name := "signed", type := 4, offset := 2, embedded := false, tag := "", pkgPath := "runtime", byteOffset := 16 }, { name := "code", type := 6, offset := 3, embedded := false, tag := "", pkgPath := "runtime", byteOffset := 17 }], 4, 24, .agg #[.int .i64 0, .int .i64 0, .bool false, .int .u8 0], peOf Tryd.prog 7⟩ := by kernel_rfl
@[simp] theorem ty9 : tyOf Tryd.prog 9 = some ⟨.string, 1, 16, .string ⟨#[]⟩, peOf Tryd.prog 9⟩ := by kernel_rfl
@[simp] theorem ty12 : tyOf Tryd.prog 12 = some ⟨.int .u64, 1, 8, .int .u64 0, peOf Tryd.prog 12⟩ := by kernel_rfl
@[simp] theorem ty13 : tyOf Tryd.prog 13 = some ⟨.struct #[{ name := "msg", type := 9, offset := 0, embedded := false, tag := "", pkgPath := "runtime", byteOffset := 0 }, { name := "addr", type := 12, offset := 1, embedded := false, tag := "", pkgPath := "runtime", byteOffset := 16 }], 2, 24, .agg #[.string ⟨#[]⟩, .int .u64 0], peOf Tryd.prog 13⟩ := by kernel_rfl
@[simp] theorem ty15 : tyOf Tryd.prog 15 = some ⟨.pointer 125, 1, 8, .pointer none, peOf Tryd.prog 15⟩ := by kernel_rfl
@[simp] theorem ty16 : tyOf Tryd.prog 16 = some ⟨.pointer 128, 1, 8, .pointer none, peOf Tryd.prog 16⟩ := by kernel_rfl
@[simp] theorem ty17 : tyOf Tryd.prog 17 = some ⟨.pointer 137, 1, 8, .pointer none, peOf Tryd.prog 17⟩ := by kernel_rfl
@[simp] theorem ty18 : tyOf Tryd.prog 18 = some ⟨.struct #[{ name := "typ", type := 17, offset := 0, embedded := false, tag := "", pkgPath := "internal/runtime/maps", byteOffset := 0 }], 1, 8, .agg #[.pointer none], peOf Tryd.prog 18⟩ := by kernel_rfl
@[simp] theorem ty20 : tyOf Tryd.prog 20 = some ⟨.interface #[], 1, 16, .nilIface, peOf Tryd.prog 20⟩ := by kernel_rfl
@[simp] theorem ty21 : tyOf Tryd.prog 21 = some ⟨.int .i32, 1, 4, .int .i32 0, peOf Tryd.prog 21⟩ := by kernel_rfl
@[simp] theorem ty22 : tyOf Tryd.prog 22 = some ⟨.int .u64, 1, 8, .int .u64 0, peOf Tryd.prog 22⟩ := by kernel_rfl
@[simp] theorem ty23 : tyOf Tryd.prog 23 = some ⟨.interface #[("Text", 123)], 1, 16, .nilIface, peOf Tryd.prog 23⟩ := by kernel_rfl
@[simp] theorem ty24 : tyOf Tryd.prog 24 = some ⟨.interface #[("Text", 123)], 1, 16, .nilIface, peOf Tryd.prog 24⟩ := by kernel_rfl
@[simp] theorem ty25 : tyOf Tryd.prog 25 = some ⟨.interface #[("Error", 123)], 1, 16, .nilIface, peOf Tryd.prog 25⟩ := by kernel_rfl
@[simp] theorem ty26 : tyOf Tryd.prog 26 = some ⟨.interface #[("Error", 123)], 1, 16, .nilIface, peOf Tryd.prog 26⟩ := by kernel_rfl
@[simp] theorem ty27 : tyOf Tryd.prog 27 = some ⟨.tuple #[24, 26], 1, 0, .tuple #[.nilIface, .nilIface], peOf Tryd.prog 27⟩ := by kernel_rfl
@[simp] theorem ty28 : tyOf Tryd.prog 28 = some ⟨.func #[9] #[24, 26] false, 1, 8, .nilFunc, peOf Tryd.prog 28⟩ := by kernel_rfl
@[simp] theorem ty29 : tyOf Tryd.prog 29 = some ⟨.func #[] #[4] false, 1, 8, .nilFunc, peOf Tryd.prog 29⟩ := by kernel_rfl
@[simp] theorem ty30 : tyOf Tryd.prog 30 = some ⟨.slice 41, 1, 24, .slice none 0 0, peOf Tryd.prog 30⟩ := by kernel_rfl
@[simp] theorem ty31 : tyOf Tryd.prog 31 = some ⟨.tuple #[30, 26], 1, 0, .tuple #[.slice none 0 0, .nilIface], peOf Tryd.prog 31⟩ := by kernel_rfl
@[simp] theorem ty32 : tyOf Tryd.prog 32 = some ⟨.func #[24] #[30, 26] false, 1, 8, .nilFunc, peOf Tryd.prog 32⟩ := by kernel_rfl
@[simp] theorem ty33 : tyOf Tryd.prog 33 = some ⟨.slice 9, 1, 24, .slice none 0 0, peOf Tryd.prog 33⟩ := by kernel_rfl
@[simp] theorem ty34 : tyOf Tryd.prog 34 = some ⟨.func #[24] #[33] false, 1, 8, .nilFunc, peOf Tryd.prog 34⟩ := by kernel_rfl
@[simp] theorem ty35 : tyOf Tryd.prog 35 = some ⟨.func #[24, 36, 36] #[4] false, 1, 8, .nilFunc, peOf Tryd.prog 35⟩ := by kernel_rfl
@[simp] theorem ty36 : tyOf Tryd.prog 36 = some ⟨.func #[9] #[4] false, 1, 8, .nilFunc, peOf Tryd.prog 36⟩ := by kernel_rfl
@[simp] theorem ty37 : tyOf Tryd.prog 37 = some ⟨.func #[33] #[36] false, 1, 8, .nilFunc, peOf Tryd.prog 37⟩ := by kernel_rfl
@[simp] theorem ty38 : tyOf Tryd.prog 38 = some ⟨.func #[22] #[4] false, 1, 8, .nilFunc, peOf Tryd.prog 38⟩ := by kernel_rfl
@[simp] theorem ty39 : tyOf Tryd.prog 39 = some ⟨.func #[3, 3] #[3] false, 1, 8, .nilFunc, peOf Tryd.prog 39⟩ := by kernel_rfl
@[simp] theorem ty40 : tyOf Tryd.prog 40 = some ⟨.struct #[{ name := "Name", type := 9, offset := 0, embedded := false, tag := "", pkgPath := "", byteOffset := 0 }, { name := "Off", type := 22, offset := 1, embedded := false, tag := "", pkgPath := "", byteOffset := 16 }, { name := "On", type := 22, offset := 2, embedded := false, tag := "", pkgPath := "", byteOffset := 24 }], 3, 32, .agg #[.string ⟨#[]⟩, .int .u64 0, .int .u64 0], peOf Tryd.prog 40⟩ := by kernel_rfl
@[simp] theorem ty41 : tyOf Tryd.prog 41 = some ⟨.struct #[{ name := "Name", type := 9, offset := 0, embedded := false, tag := "", pkgPath := "", byteOffset := 0 }, { name := "Off", type := 22, offset := 1, embedded := false, tag := "", pkgPath := "", byteOffset := 16 }, { name := "On", type := 22, offset := 2, embedded := false, tag := "", pkgPath := "", byteOffset := 24 }], 3, 32, .agg #[.string ⟨#[]⟩, .int .u64 0, .int .u64 0], true⟩ := by kernel_rfl
@[simp] theorem ty42 : tyOf Tryd.prog 42 = some ⟨.func #[9, 22, 3] #[4] false, 1, 8, .nilFunc, peOf Tryd.prog 42⟩ := by kernel_rfl
@[simp] theorem ty43 : tyOf Tryd.prog 43 = some ⟨.int .i64, 1, 8, .int .i64 0, peOf Tryd.prog 43⟩ := by kernel_rfl
@[simp] theorem ty44 : tyOf Tryd.prog 44 = some ⟨.pointer 46, 1, 8, .pointer none, peOf Tryd.prog 44⟩ := by kernel_rfl
@[simp] theorem ty45 : tyOf Tryd.prog 45 = some ⟨.struct #[{ name := "text", type := 9, offset := 0, embedded := false, tag := "", pkgPath := "signalcabin/expr", byteOffset := 0 }, { name := "at", type := 3, offset := 1, embedded := false, tag := "", pkgPath := "signalcabin/expr", byteOffset := 16 }], 2, 24, .agg #[.string ⟨#[]⟩, .int .i64 0], peOf Tryd.prog 45⟩ := by kernel_rfl
@[simp] theorem ty46 : tyOf Tryd.prog 46 = some ⟨.struct #[{ name := "text", type := 9, offset := 0, embedded := false, tag := "", pkgPath := "signalcabin/expr", byteOffset := 0 }, { name := "at", type := 3, offset := 1, embedded := false, tag := "", pkgPath := "signalcabin/expr", byteOffset := 16 }], 2, 24, .agg #[.string ⟨#[]⟩, .int .i64 0], true⟩ := by kernel_rfl
@[simp] theorem ty47 : tyOf Tryd.prog 47 = some ⟨.func #[3] #[24, 26] false, 1, 8, .nilFunc, peOf Tryd.prog 47⟩ := by kernel_rfl
@[simp] theorem ty48 : tyOf Tryd.prog 48 = some ⟨.func #[43] #[26] false, 1, 8, .nilFunc, peOf Tryd.prog 48⟩ := by kernel_rfl
@[simp] theorem ty49 : tyOf Tryd.prog 49 = some ⟨.func #[33, 9] #[3] false, 1, 8, .nilFunc, peOf Tryd.prog 49⟩ := by kernel_rfl
@[simp] theorem ty50 : tyOf Tryd.prog 50 = some ⟨.func #[24, 54] #[33] false, 1, 8, .nilFunc, peOf Tryd.prog 50⟩ := by kernel_rfl
@[simp] theorem ty51 : tyOf Tryd.prog 51 = some ⟨.string, 1, 16, .string ⟨#[]⟩, peOf Tryd.prog 51⟩ := by kernel_rfl
@[simp] theorem ty52 : tyOf Tryd.prog 52 = some ⟨.string, 1, 16, .string ⟨#[]⟩, peOf Tryd.prog 52⟩ := by kernel_rfl
@[simp] theorem ty53 : tyOf Tryd.prog 53 = some ⟨.string, 1, 16, .string ⟨#[]⟩, peOf Tryd.prog 53⟩ := by kernel_rfl
@[simp] theorem ty54 : tyOf Tryd.prog 54 = some ⟨.func #[24] #[9] false, 1, 8, .nilFunc, peOf Tryd.prog 54⟩ := by kernel_rfl
@[simp] theorem ty55 : tyOf Tryd.prog 55 = some ⟨.bool, 1, 1, .bool false, peOf Tryd.prog 55⟩ := by kernel_rfl
@[simp] theorem ty56 : tyOf Tryd.prog 56 = some ⟨.struct #[{ name := "Of", type := 24, offset := 0, embedded := false, tag := "", pkgPath := "", byteOffset := 0 }], 1, 16, .agg #[.nilIface], peOf Tryd.prog 56⟩ := by kernel_rfl
@[simp] theorem ty57 : tyOf Tryd.prog 57 = some ⟨.struct #[{ name := "Of", type := 24, offset := 0, embedded := false, tag := "", pkgPath := "", byteOffset := 0 }], 1, 16, .agg #[.nilIface], peOf Tryd.prog 57⟩ := by kernel_rfl
@[simp] theorem ty58 : tyOf Tryd.prog 58 = some ⟨.slice 24, 1, 24, .slice none 0 0, peOf Tryd.prog 58⟩ := by kernel_rfl
@[simp] theorem ty59 : tyOf Tryd.prog 59 = some ⟨.slice 24, 1, 24, .slice none 0 0, peOf Tryd.prog 59⟩ := by kernel_rfl
@[simp] theorem ty60 : tyOf Tryd.prog 60 = some ⟨.func #[59, 61] #[4] false, 1, 8, .nilFunc, peOf Tryd.prog 60⟩ := by kernel_rfl
@[simp] theorem ty61 : tyOf Tryd.prog 61 = some ⟨.func #[24] #[4] false, 1, 8, .nilFunc, peOf Tryd.prog 61⟩ := by kernel_rfl
@[simp] theorem ty62 : tyOf Tryd.prog 62 = some ⟨.slice 24, 1, 24, .slice none 0 0, peOf Tryd.prog 62⟩ := by kernel_rfl
@[simp] theorem ty63 : tyOf Tryd.prog 63 = some ⟨.func #[62, 61] #[4] false, 1, 8, .nilFunc, peOf Tryd.prog 63⟩ := by kernel_rfl
@[simp] theorem ty64 : tyOf Tryd.prog 64 = some ⟨.tuple #[58, 26], 1, 0, .tuple #[.slice none 0 0, .nilIface], peOf Tryd.prog 64⟩ := by kernel_rfl
@[simp] theorem ty65 : tyOf Tryd.prog 65 = some ⟨.func #[5, 3, 47] #[58, 26] false, 1, 8, .nilFunc, peOf Tryd.prog 65⟩ := by kernel_rfl
@[simp] theorem ty66 : tyOf Tryd.prog 66 = some ⟨.pointer 68, 1, 8, .pointer none, peOf Tryd.prog 66⟩ := by kernel_rfl
@[simp] theorem ty67 : tyOf Tryd.prog 67 = some ⟨.struct #[{ name := "Err", type := 43, offset := 0, embedded := false, tag := "", pkgPath := "", byteOffset := 0 }, { name := "Place", type := 3, offset := 1, embedded := false, tag := "", pkgPath := "", byteOffset := 8 }], 2, 16, .agg #[.int .i64 0, .int .i64 0], peOf Tryd.prog 67⟩ := by kernel_rfl
@[simp] theorem ty68 : tyOf Tryd.prog 68 = some ⟨.struct #[{ name := "Err", type := 43, offset := 0, embedded := false, tag := "", pkgPath := "", byteOffset := 0 }, { name := "Place", type := 3, offset := 1, embedded := false, tag := "", pkgPath := "", byteOffset := 8 }], 2, 16, .agg #[.int .i64 0, .int .i64 0], true⟩ := by kernel_rfl
@[simp] theorem ty69 : tyOf Tryd.prog 69 = some ⟨.func #[24, 70] #[] false, 1, 8, .nilFunc, peOf Tryd.prog 69⟩ := by kernel_rfl
@[simp] theorem ty70 : tyOf Tryd.prog 70 = some ⟨.func #[24] #[] false, 1, 8, .nilFunc, peOf Tryd.prog 70⟩ := by kernel_rfl
@[simp] theorem ty71 : tyOf Tryd.prog 71 = some ⟨.func #[33] #[] false, 1, 8, .nilFunc, peOf Tryd.prog 71⟩ := by kernel_rfl
@[simp] theorem ty72 : tyOf Tryd.prog 72 = some ⟨.func #[33] #[33] false, 1, 8, .nilFunc, peOf Tryd.prog 72⟩ := by kernel_rfl
@[simp] theorem ty73 : tyOf Tryd.prog 73 = some ⟨.func #[59, 61] #[3] false, 1, 8, .nilFunc, peOf Tryd.prog 73⟩ := by kernel_rfl
@[simp] theorem ty74 : tyOf Tryd.prog 74 = some ⟨.func #[62, 61] #[3] false, 1, 8, .nilFunc, peOf Tryd.prog 74⟩ := by kernel_rfl
@[simp] theorem ty75 : tyOf Tryd.prog 75 = some ⟨.func #[5] #[4] false, 1, 8, .nilFunc, peOf Tryd.prog 75⟩ := by kernel_rfl
@[simp] theorem ty76 : tyOf Tryd.prog 76 = some ⟨.func #[33, 3, 3, 3] #[] false, 1, 8, .nilFunc, peOf Tryd.prog 76⟩ := by kernel_rfl
@[simp] theorem ty77 : tyOf Tryd.prog 77 = some ⟨.func #[22] #[3] false, 1, 8, .nilFunc, peOf Tryd.prog 77⟩ := by kernel_rfl
@[simp] theorem ty78 : tyOf Tryd.prog 78 = some ⟨.tuple #[9, 26], 1, 0, .tuple #[.string ⟨#[]⟩, .nilIface], peOf Tryd.prog 78⟩ := by kernel_rfl
@[simp] theorem ty79 : tyOf Tryd.prog 79 = some ⟨.func #[] #[9, 26] false, 1, 8, .nilFunc, peOf Tryd.prog 79⟩ := by kernel_rfl
@[simp] theorem ty80 : tyOf Tryd.prog 80 = some ⟨.func #[33, 3, 3] #[] false, 1, 8, .nilFunc, peOf Tryd.prog 80⟩ := by kernel_rfl
@[simp] theorem ty81 : tyOf Tryd.prog 81 = some ⟨.int .i64, 1, 8, .int .i64 0, peOf Tryd.prog 81⟩ := by kernel_rfl
@[simp] theorem ty82 : tyOf Tryd.prog 82 = some ⟨.tuple #[3, 81], 1, 0, .tuple #[.int .i64 0, .int .i64 0], peOf Tryd.prog 82⟩ := by kernel_rfl
@[simp] theorem ty83 : tyOf Tryd.prog 83 = some ⟨.func #[33, 3, 3] #[3, 81] false, 1, 8, .nilFunc, peOf Tryd.prog 83⟩ := by kernel_rfl
@[simp] theorem ty84 : tyOf Tryd.prog 84 = some ⟨.func #[33, 3, 3] #[4] false, 1, 8, .nilFunc, peOf Tryd.prog 84⟩ := by kernel_rfl
@[simp] theorem ty85 : tyOf Tryd.prog 85 = some ⟨.func #[9, 9] #[4] false, 1, 8, .nilFunc, peOf Tryd.prog 85⟩ := by kernel_rfl
@[simp] theorem ty86 : tyOf Tryd.prog 86 = some ⟨.func #[33, 3, 3, 3] #[3] false, 1, 8, .nilFunc, peOf Tryd.prog 86⟩ := by kernel_rfl
@[simp] theorem ty87 : tyOf Tryd.prog 87 = some ⟨.tuple #[3, 4], 1, 0, .tuple #[.int .i64 0, .bool false], peOf Tryd.prog 87⟩ := by kernel_rfl
@[simp] theorem ty88 : tyOf Tryd.prog 88 = some ⟨.func #[33, 3, 3, 3] #[3, 4] false, 1, 8, .nilFunc, peOf Tryd.prog 88⟩ := by kernel_rfl
@[simp] theorem ty89 : tyOf Tryd.prog 89 = some ⟨.func #[90] #[3] false, 1, 8, .nilFunc, peOf Tryd.prog 89⟩ := by kernel_rfl
@[simp] theorem ty90 : tyOf Tryd.prog 90 = some ⟨.int .u32, 1, 4, .int .u32 0, peOf Tryd.prog 90⟩ := by kernel_rfl
@[simp] theorem ty91 : tyOf Tryd.prog 91 = some ⟨.func #[92] #[3] false, 1, 8, .nilFunc, peOf Tryd.prog 91⟩ := by kernel_rfl
@[simp] theorem ty92 : tyOf Tryd.prog 92 = some ⟨.int .u64, 1, 8, .int .u64 0, peOf Tryd.prog 92⟩ := by kernel_rfl
@[simp] theorem ty93 : tyOf Tryd.prog 93 = some ⟨.func #[9, 5] #[3] false, 1, 8, .nilFunc, peOf Tryd.prog 93⟩ := by kernel_rfl
@[simp] theorem ty94 : tyOf Tryd.prog 94 = some ⟨.int .u64, 1, 8, .int .u64 0, peOf Tryd.prog 94⟩ := by kernel_rfl
@[simp] theorem ty95 : tyOf Tryd.prog 95 = some ⟨.func #[3] #[22] false, 1, 8, .nilFunc, peOf Tryd.prog 95⟩ := by kernel_rfl
@[simp] theorem ty96 : tyOf Tryd.prog 96 = some ⟨.func #[] #[92] false, 1, 8, .nilFunc, peOf Tryd.prog 96⟩ := by kernel_rfl
@[simp] theorem ty97 : tyOf Tryd.prog 97 = some ⟨.func #[33, 3, 98] #[3] false, 1, 8, .nilFunc, peOf Tryd.prog 97⟩ := by kernel_rfl
@[simp] theorem ty98 : tyOf Tryd.prog 98 = some ⟨.pointer 3, 1, 8, .pointer none, peOf Tryd.prog 98⟩ := by kernel_rfl
@[simp] theorem ty99 : tyOf Tryd.prog 99 = some ⟨.func #[33, 3, 3, 3, 98] #[3] false, 1, 8, .nilFunc, peOf Tryd.prog 99⟩ := by kernel_rfl
@[simp] theorem ty100 : tyOf Tryd.prog 100 = some ⟨.func #[9, 9] #[9] false, 1, 8, .nilFunc, peOf Tryd.prog 100⟩ := by kernel_rfl
@[simp] theorem ty101 : tyOf Tryd.prog 101 = some ⟨.func #[33, 9] #[4] false, 1, 8, .nilFunc, peOf Tryd.prog 101⟩ := by kernel_rfl
@[simp] theorem ty102 : tyOf Tryd.prog 102 = some ⟨.pointer 94, 1, 8, .pointer none, peOf Tryd.prog 102⟩ := by kernel_rfl
@[simp] theorem ty103 : tyOf Tryd.prog 103 = some ⟨.tuple #[3, 3], 1, 0, .tuple #[.int .i64 0, .int .i64 0], peOf Tryd.prog 103⟩ := by kernel_rfl
@[simp] theorem ty104 : tyOf Tryd.prog 104 = some ⟨.func #[33, 3, 3, 98] #[3, 3] false, 1, 8, .nilFunc, peOf Tryd.prog 104⟩ := by kernel_rfl
@[simp] theorem ty105 : tyOf Tryd.prog 105 = some ⟨.func #[9, 5] #[9] false, 1, 8, .nilFunc, peOf Tryd.prog 105⟩ := by kernel_rfl
@[simp] theorem ty108 : tyOf Tryd.prog 108 = some ⟨.tuple #[107, 4], 1, 0, .tuple #[.agg #[.bool false, .bool false, .bool false, .bool false, .bool false, .bool false, .bool false, .bool false, .bool false, .bool false, .bool false, .bool false, .bool false, .bool false, .bool false, .bool false, .bool false, .bool false, .bool false, .bool false, .bool false, .bool false, .bool false, .bool false, .bool false, .bool false, .bool false, .bool false, .bool false, .bool false, .bool false, .bool false, .bool false, .bool false, .bool false, .bool false, .bool false, .bool false, .bool false, .bool false, .bool false, .bool false, .bool false, .bool false, .bool false, .bool false, .bool false, .bool false, .bool false, .bool false, .bool false, .bool false, .bool false, .bool false, .bool false, .bool false, .bool false, .bool false, .bool false, .bool false, .bool false, .bool false, .bool false, .bool false, .bool false, .bool false, .bool false, .bool false, .bool false, .bool false, .bool false, .bool false, .bool false, .bool false, .bool false, .bool false, .bool false, .bool false, .bool false, .bool false, .bool false, .bool false, .bool false, .bool false, .bool false, .bool false, .bool false, .bool false, .bool false, .bool false, .bool false, .bool false, .bool false, .bool false, .bool false, .bool false, .bool false, .bool false, .bool false, .bool false, .bool false, .bool false, .bool false, .bool false, .bool false, .bool false, .bool false, .bool false, .bool false, .bool false, .bool false, .bool false, .bool false, .bool false, .bool false, .bool false, .bool false, .bool false, .bool false, .bool false, .bool false, .bool false, .bool false, .bool false, .bool false, .bool false, .bool false, .bool false, .bool false, .bool false, .bool false, .bool false, .bool false, .bool false, .bool false, .bool false, .bool false, .bool false, .bool false, .bool false, .bool false, .bool false, .bool false, .bool false, .bool false, .bool false, .bool false, .bool false, .bool false, .bool false, .bool false, .bool false, .bool false, .bool false, .bool false, .bool false, .bool false, .bool false, .bool false, .bool false, .bool false, .bool false, .bool false, .bool false, .bool false, .bool false, .bool false, .bool false, .bool false, .bool false, .bool false, .bool false, .bool false, .bool false, .bool false, .bool false, .bool false, .bool false, .bool false, .bool false, .bool false, .bool false, .bool false, .bool false, .bool false, .bool false, .bool false, .bool false, .bool false, .bool false, .bool false, .bool false, .bool false, .bool false, .bool false, .bool false, .bool false, .bool false, .bool false, .bool false, .bool false, .bool false, .bool false, .bool false, .bool false, .bool false, .bool false, .bool false, .bool false, .bool false, .bool false, .bool false, .bool false, .bool false, .bool false, .bool false, .bool false, .bool false, .bool false, .bool false, .bool false, .bool false, .bool false, .bool false, .bool false, .bool false, .bool false, .bool false, .bool false, .bool false, .bool false, .bool false, .bool false, .bool false, .bool false, .bool false, .bool false, .bool false, .bool false, .bool false, .bool false, .bool false, .bool false, .bool false, .bool false, .bool false, .bool false, .bool false, .bool false, .bool false, .bool false, .bool false, .bool false, .bool false, .bool false, .bool false], .bool false], peOf Tryd.prog 108⟩ := by kernel_rfl
@[simp] theorem ty109 : tyOf Tryd.prog 109 = some ⟨.func #[9] #[107, 4] false, 1, 8, .nilFunc, peOf Tryd.prog 109⟩ := by kernel_rfl
@[simp] theorem ty110 : tyOf Tryd.prog 110 = some ⟨.func #[9, 111] #[9] false, 1, 8, .nilFunc, peOf Tryd.prog 110⟩ := by kernel_rfl
@[simp] theorem ty111 : tyOf Tryd.prog 111 = some ⟨.pointer 107, 1, 8, .pointer none, peOf Tryd.prog 111⟩ := by kernel_rfl
@[simp] theorem ty112 : tyOf Tryd.prog 112 = some ⟨.tuple #[21, 3], 1, 0, .tuple #[.int .i32 0, .int .i64 0], peOf Tryd.prog 112⟩ := by kernel_rfl
@[simp] theorem ty113 : tyOf Tryd.prog 113 = some ⟨.func #[9] #[21, 3] false, 1, 8, .nilFunc, peOf Tryd.prog 113⟩ := by kernel_rfl
@[simp] theorem ty114 : tyOf Tryd.prog 114 = some ⟨.func #[9, 21] #[4] false, 1, 8, .nilFunc, peOf Tryd.prog 114⟩ := by kernel_rfl
@[simp] theorem ty115 : tyOf Tryd.prog 115 = some ⟨.func #[9, 21] #[3] false, 1, 8, .nilFunc, peOf Tryd.prog 115⟩ := by kernel_rfl
@[simp] theorem ty117 : tyOf Tryd.prog 117 = some ⟨.struct #[{ name := "lo", type := 5, offset := 0, embedded := false, tag := "", pkgPath := "unicode/utf8", byteOffset := 0 }, { name := "hi", type := 5, offset := 1, embedded := false, tag := "", pkgPath := "unicode/utf8", byteOffset := 1 }], 2, 2, .agg #[.int .u8 0, .int .u8 0], peOf Tryd.prog 117⟩ := by kernel_rfl
@[simp] theorem ty118 : tyOf Tryd.prog 118 = some ⟨.struct #[{ name := "lo", type := 5, offset := 0, embedded := false, tag := "", pkgPath := "unicode/utf8", byteOffset := 0 }, { name := "hi", type := 5, offset := 1, embedded := false, tag := "", pkgPath := "unicode/utf8", byteOffset := 1 }], 2, 2, .agg #[.int .u8 0, .int .u8 0], peOf Tryd.prog 118⟩ := by kernel_rfl
@[simp] theorem ty119 : tyOf Tryd.prog 119 = some ⟨.array 16 118, 32, 32, .agg #[.int .u8 0, .int .u8 0, .int .u8 0, .int .u8 0, .int .u8 0, .int .u8 0, .int .u8 0, .int .u8 0, .int .u8 0, .int .u8 0, .int .u8 0, .int .u8 0, .int .u8 0, .int .u8 0, .int .u8 0, .int .u8 0, .int .u8 0, .int .u8 0, .int .u8 0, .int .u8 0, .int .u8 0, .int .u8 0, .int .u8 0, .int .u8 0, .int .u8 0, .int .u8 0, .int .u8 0, .int .u8 0, .int .u8 0, .int .u8 0, .int .u8 0, .int .u8 0], peOf Tryd.prog 119⟩ := by kernel_rfl
@[simp] theorem ty120 : tyOf Tryd.prog 120 = some ⟨.func #[21] #[4] false, 1, 8, .nilFunc, peOf Tryd.prog 120⟩ := by kernel_rfl
@[simp] theorem ty121 : tyOf Tryd.prog 121 = some ⟨.func #[3] #[3] false, 1, 8, .nilFunc, peOf Tryd.prog 121⟩ := by kernel_rfl
@[simp] theorem ty122 : tyOf Tryd.prog 122 = some ⟨.func #[9, 9] #[3] false, 1, 8, .nilFunc, peOf Tryd.prog 122⟩ := by kernel_rfl
@[simp] theorem ty123 : tyOf Tryd.prog 123 = some ⟨.func #[] #[9] false, 1, 8, .nilFunc, peOf Tryd.prog 123⟩ := by kernel_rfl
@[simp] theorem ty124 : tyOf Tryd.prog 124 = some ⟨.struct #[{ name := "_interface", type := 17, offset := 0, embedded := false, tag := "", pkgPath := "runtime", byteOffset := 0 }, { name := "concrete", type := 17, offset := 1, embedded := false, tag := "", pkgPath := "runtime", byteOffset := 8 }, { name := "asserted", type := 17, offset := 2, embedded := false, tag := "", pkgPath := "runtime", byteOffset := 16 }, { name := "missingMethod", type := 9, offset := 3, embedded := false, tag := "", pkgPath := "runtime", byteOffset := 24 }], 4, 40, .agg #[.pointer none, .pointer none, .pointer none, .string ⟨#[]⟩], peOf Tryd.prog 124⟩ := by kernel_rfl
@[simp] theorem ty126 : tyOf Tryd.prog 126 = some ⟨.array 0 16, 0, 0, .agg #[], peOf Tryd.prog 126⟩ := by kernel_rfl
@[simp] theorem ty127 : tyOf Tryd.prog 127 = some ⟨.struct #[{ name := "_", type := 126, offset := 0, embedded := false, tag := "", pkgPath := "runtime", byteOffset := 0 }], 0, 0, .agg #[], peOf Tryd.prog 127⟩ := by kernel_rfl
@[simp] theorem ty129 : tyOf Tryd.prog 129 = some ⟨.func #[] #[3] false, 1, 8, .nilFunc, peOf Tryd.prog 129⟩ := by kernel_rfl
@[simp] theorem ty132 : tyOf Tryd.prog 132 = some ⟨.func #[138, 138] #[4] false, 1, 8, .nilFunc, peOf Tryd.prog 132⟩ := by kernel_rfl
@[simp] theorem ty133 : tyOf Tryd.prog 133 = some ⟨.pointer 5, 1, 8, .pointer none, peOf Tryd.prog 133⟩ := by kernel_rfl
@[simp] theorem ty136 : tyOf Tryd.prog 136 = some ⟨.struct #[{ name := "Size_", type := 12, offset := 0, embedded := false, tag := "", pkgPath := "", byteOffset := 0 }, { name := "PtrBytes", type := 12, offset := 1, embedded := false, tag := "", pkgPath := "", byteOffset := 8 }, { name := "Hash", type := 90, offset := 2, embedded := false, tag := "", pkgPath := "", byteOffset := 16 }, { name := "TFlag", type := 130, offset := 3, embedded := false, tag := "", pkgPath := "", byteOffset := 20 }, { name := "Align_", type := 5, offset := 4, embedded := false, tag := "", pkgPath := "", byteOffset := 21 }, { name := "FieldAlign_", type := 5, offset := 5, embedded := false, tag := "", pkgPath := "", byteOffset := 22 }, { name := "Kind_", type := 131, offset := 6, embedded := false, tag := "", pkgPath := "", byteOffset := 23 }, { name := "Equal", type := 132, offset := 7, embedded := false, tag := "", pkgPath := "", byteOffset := 24 }, { name := "GCData", type := 133, offset := 8, embedded := false, tag := "", pkgPath := "", byteOffset := 32 }, { name := "Str", type := 134, offset := 9, embedded := false, tag := "", pkgPath := "", byteOffset := 40 }, { name := "PtrToThis", type := 135, offset := 10, embedded := false, tag := "", pkgPath := "", byteOffset := 44 }], 11, 48, .agg #[.int .u64 0, .int .u64 0, .int .u32 0, .int .u8 0, .int .u8 0, .int .u8 0, .int .u8 0, .nilFunc, .pointer none, .int .i32 0, .int .i32 0], peOf Tryd.prog 136⟩ := by kernel_rfl
end Go.Proofs.YtagfbbnlbncjlaaDoor

/-
  Searching by a function.
-/
namespace Go.Proofs.YtagfbbnlbncjlaaDoor
set_option linter.unusedSimpArgs false
set_option linter.unusedVariables false
open Go.Av

/-- Where the first one is that fits, or -1. -/
def idx {α : Type} (p : α → Bool) (l : List α) : Int := match l.findIdx? p with
  | some i => i
  | none => -1

theorem idx_hit {α : Type} {p : α → Bool} {l : List α} {n : Nat} (hn : n < l.length) (h : p l[n] = true) (hb : ∀ i (hi : i < n), p (l[i]'(by omega)) = false) : idx p l = n := by
  unfold idx
  have : l.findIdx? p = some n := by
    rw [List.findIdx?_eq_some_iff_getElem]
    exact ⟨hn, h, fun j hj => by simpa using hb j hj⟩
  rw [this]
theorem idx_miss {α : Type} {p : α → Bool} {l : List α} (hb : ∀ i (hi : i < l.length), p l[i] = false) : idx p l = -1 := by
  unfold idx
  have : l.findIdx? p = none := by
    rw [List.findIdx?_eq_none_iff]
    intro x hx
    obtain ⟨i, hi, rfl⟩ := List.mem_iff_getElem.1 hx
    exact hb i hi
  rw [this]

theorem idx_any {α : Type} (p : α → Bool) (l : List α) : decide (0 ≤ idx p l) = l.any p := by
  unfold idx
  split
  · rename_i i hi
    rw [List.findIdx?_eq_some_iff_getElem] at hi
    obtain ⟨h1, h2, _⟩ := hi
    have : l.any p = true := List.any_eq_true.2 ⟨_, List.getElem_mem h1, h2⟩
    rw [this]; simp
  · rename_i h
    rw [List.findIdx?_eq_none_iff] at h
    have : l.any p = false := by
      rw [List.any_eq_false]
      intro x hx
      simpa using h x hx
    rw [this]; simp

end Go.Proofs.YtagfbbnlbncjlaaDoor
