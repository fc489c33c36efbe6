/-
  Texts that belong together, in one file: Ty, F1, F2.
-/
import Derived.Test.YtagfbbnlbncjlaaGreatDoorGd6
import Derived.Test.YtagfbbnlbncjlaaGreatDoorProg
set_option linter.unusedSimpArgs false
set_option linter.unusedVariables false
namespace Go.Proofs.YtagfbbnlbncjlaaGreatDoor
open Go.Av
@[simp] theorem ty0 : tyOf Tryz.prog 0 = some ⟨.tuple #[], 1, 0, .tuple #[]⟩ := by kernel_rfl
@[simp] theorem ty1 : tyOf Tryz.prog 1 = some ⟨.func #[] #[] false, 1, 8, .nilFunc⟩ := by kernel_rfl
@[simp] theorem ty2 : tyOf Tryz.prog 2 = some ⟨.int .i64, 1, 8, .int .i64 0⟩ := by kernel_rfl
@[simp] theorem ty3 : tyOf Tryz.prog 3 = some ⟨.int .i64, 1, 8, .int .i64 0⟩ := by kernel_rfl
@[simp] theorem ty4 : tyOf Tryz.prog 4 = some ⟨.bool, 1, 1, .bool false⟩ := by kernel_rfl
@[simp] theorem ty5 : tyOf Tryz.prog 5 = some ⟨.int .u8, 1, 1, .int .u8 0⟩ := by kernel_rfl
@[simp] theorem ty7 : tyOf Tryz.prog 7 = some ⟨.struct #[{ name := "x", type := 2, offset := 0, embedded := false, tag := "", pkgPath := "runtime", byteOffset := 0 }, { name := "y", type := 3, offset := 1, embedded := false, tag := "", pkgPath := "runtime", byteOffset := 8 }, { name := "signed", type := 4, offset := 2, embedded := false, tag := "", pkgPath := "runtime", byteOffset := 16 }, { name := "code", type := 6, offset := 3, embedded := false, tag := "", pkgPath := "runtime", byteOffset := 17 }], 4, 24, .agg #[.int .i64 0, .int .i64 0, .bool false, .int .u8 0]⟩ := by kernel_rfl
@[simp] theorem ty9 : tyOf Tryz.prog 9 = some ⟨.string, 1, 16, .string ⟨#[]⟩⟩ := by kernel_rfl
@[simp] theorem ty12 : tyOf Tryz.prog 12 = some ⟨.int .u64, 1, 8, .int .u64 0⟩ := by kernel_rfl
@[simp] theorem ty13 : tyOf Tryz.prog 13 = some ⟨.struct #[{ name := "msg", type := 9, offset := 0, embedded := false, tag := "", pkgPath := "runtime", byteOffset := 0 }, { name := "addr", type := 12, offset := 1, embedded := false, tag := "", pkgPath := "runtime", byteOffset := 16 }], 2, 24, .agg #[.string ⟨#[]⟩, .int .u64 0]⟩ := by kernel_rfl
@[simp] theorem ty15 : tyOf Tryz.prog 15 = some ⟨.pointer 232, 1, 8, .pointer none⟩ := by kernel_rfl
@[simp] theorem ty16 : tyOf Tryz.prog 16 = some ⟨.pointer 235, 1, 8, .pointer none⟩ := by kernel_rfl
@[simp] theorem ty17 : tyOf Tryz.prog 17 = some ⟨.pointer 243, 1, 8, .pointer none⟩ := by kernel_rfl
@[simp] theorem ty18 : tyOf Tryz.prog 18 = some ⟨.struct #[{ name := "typ", type := 17, offset := 0, embedded := false, tag := "", pkgPath := "internal/runtime/maps", byteOffset := 0 }], 1, 8, .agg #[.pointer none]⟩ := by kernel_rfl
@[simp] theorem ty20 : tyOf Tryz.prog 20 = some ⟨.interface #[], 1, 16, .nilIface⟩ := by kernel_rfl
@[simp] theorem ty21 : tyOf Tryz.prog 21 = some ⟨.int .i32, 1, 4, .int .i32 0⟩ := by kernel_rfl
@[simp] theorem ty22 : tyOf Tryz.prog 22 = some ⟨.interface #[("Text", 186)], 1, 16, .nilIface⟩ := by kernel_rfl
@[simp] theorem ty23 : tyOf Tryz.prog 23 = some ⟨.interface #[("Text", 186)], 1, 16, .nilIface⟩ := by kernel_rfl
@[simp] theorem ty24 : tyOf Tryz.prog 24 = some ⟨.pointer 88, 1, 8, .pointer none⟩ := by kernel_rfl
@[simp] theorem ty25 : tyOf Tryz.prog 25 = some ⟨.tuple #[23, 24, 4], 1, 0, .tuple #[.nilIface, .pointer none, .bool false]⟩ := by kernel_rfl
@[simp] theorem ty26 : tyOf Tryz.prog 26 = some ⟨.func #[9] #[23, 24, 4] false, 1, 8, .nilFunc⟩ := by kernel_rfl
@[simp] theorem ty27 : tyOf Tryz.prog 27 = some ⟨.slice 40, 1, 24, .slice none 0 0⟩ := by kernel_rfl
@[simp] theorem ty28 : tyOf Tryz.prog 28 = some ⟨.interface #[("Error", 186)], 1, 16, .nilIface⟩ := by kernel_rfl
@[simp] theorem ty29 : tyOf Tryz.prog 29 = some ⟨.interface #[("Error", 186)], 1, 16, .nilIface⟩ := by kernel_rfl
@[simp] theorem ty30 : tyOf Tryz.prog 30 = some ⟨.tuple #[27, 29], 1, 0, .tuple #[.slice none 0 0, .nilIface]⟩ := by kernel_rfl
@[simp] theorem ty31 : tyOf Tryz.prog 31 = some ⟨.func #[23] #[27, 29] false, 1, 8, .nilFunc⟩ := by kernel_rfl
@[simp] theorem ty32 : tyOf Tryz.prog 32 = some ⟨.func #[29, 33] #[4] false, 1, 8, .nilFunc⟩ := by kernel_rfl
@[simp] theorem ty33 : tyOf Tryz.prog 33 = some ⟨.int .i64, 1, 8, .int .i64 0⟩ := by kernel_rfl
@[simp] theorem ty34 : tyOf Tryz.prog 34 = some ⟨.slice 9, 1, 24, .slice none 0 0⟩ := by kernel_rfl
@[simp] theorem ty35 : tyOf Tryz.prog 35 = some ⟨.func #[] #[34] false, 1, 8, .nilFunc⟩ := by kernel_rfl
@[simp] theorem ty36 : tyOf Tryz.prog 36 = some ⟨.slice 41, 1, 24, .slice none 0 0⟩ := by kernel_rfl
@[simp] theorem ty37 : tyOf Tryz.prog 37 = some ⟨.func #[24] #[36] false, 1, 8, .nilFunc⟩ := by kernel_rfl
@[simp] theorem ty38 : tyOf Tryz.prog 38 = some ⟨.int .u64, 1, 8, .int .u64 0⟩ := by kernel_rfl
@[simp] theorem ty39 : tyOf Tryz.prog 39 = some ⟨.struct #[{ name := "Name", type := 9, offset := 0, embedded := false, tag := "", pkgPath := "", byteOffset := 0 }, { name := "Off", type := 38, offset := 1, embedded := false, tag := "", pkgPath := "", byteOffset := 16 }, { name := "On", type := 38, offset := 2, embedded := false, tag := "", pkgPath := "", byteOffset := 24 }], 3, 32, .agg #[.string ⟨#[]⟩, .int .u64 0, .int .u64 0]⟩ := by kernel_rfl
@[simp] theorem ty40 : tyOf Tryz.prog 40 = some ⟨.struct #[{ name := "Name", type := 9, offset := 0, embedded := false, tag := "", pkgPath := "", byteOffset := 0 }, { name := "Off", type := 38, offset := 1, embedded := false, tag := "", pkgPath := "", byteOffset := 16 }, { name := "On", type := 38, offset := 2, embedded := false, tag := "", pkgPath := "", byteOffset := 24 }], 3, 32, .agg #[.string ⟨#[]⟩, .int .u64 0, .int .u64 0]⟩ := by kernel_rfl
@[simp] theorem ty41 : tyOf Tryz.prog 41 = some ⟨.struct #[{ name := "Name", type := 9, offset := 0, embedded := false, tag := "", pkgPath := "", byteOffset := 0 }, { name := "Off", type := 38, offset := 1, embedded := false, tag := "", pkgPath := "", byteOffset := 16 }, { name := "On", type := 38, offset := 2, embedded := false, tag := "", pkgPath := "", byteOffset := 24 }], 3, 32, .agg #[.string ⟨#[]⟩, .int .u64 0, .int .u64 0]⟩ := by kernel_rfl
@[simp] theorem ty42 : tyOf Tryz.prog 42 = some ⟨.func #[9] #[4] false, 1, 8, .nilFunc⟩ := by kernel_rfl
@[simp] theorem ty43 : tyOf Tryz.prog 43 = some ⟨.slice 58, 1, 24, .slice none 0 0⟩ := by kernel_rfl
@[simp] theorem ty44 : tyOf Tryz.prog 44 = some ⟨.struct #[{ name := "Vars", type := 3, offset := 0, embedded := false, tag := "", pkgPath := "", byteOffset := 0 }, { name := "All", type := 43, offset := 1, embedded := false, tag := "", pkgPath := "", byteOffset := 8 }], 2, 32, .agg #[.int .i64 0, .slice none 0 0]⟩ := by kernel_rfl
@[simp] theorem ty45 : tyOf Tryz.prog 45 = some ⟨.struct #[{ name := "Vars", type := 3, offset := 0, embedded := false, tag := "", pkgPath := "", byteOffset := 0 }, { name := "All", type := 43, offset := 1, embedded := false, tag := "", pkgPath := "", byteOffset := 8 }], 2, 32, .agg #[.int .i64 0, .slice none 0 0]⟩ := by kernel_rfl
@[simp] theorem ty46 : tyOf Tryz.prog 46 = some ⟨.tuple #[45, 3, 29], 1, 0, .tuple #[.agg #[.int .i64 0, .slice none 0 0], .int .i64 0, .nilIface]⟩ := by kernel_rfl
@[simp] theorem ty47 : tyOf Tryz.prog 47 = some ⟨.func #[23] #[45, 3, 29] false, 1, 8, .nilFunc⟩ := by kernel_rfl
@[simp] theorem ty48 : tyOf Tryz.prog 48 = some ⟨.func #[] #[3] false, 1, 8, .nilFunc⟩ := by kernel_rfl
@[simp] theorem ty49 : tyOf Tryz.prog 49 = some ⟨.struct #[{ name := "Vars", type := 3, offset := 0, embedded := false, tag := "", pkgPath := "", byteOffset := 0 }, { name := "All", type := 43, offset := 1, embedded := false, tag := "", pkgPath := "", byteOffset := 8 }], 2, 32, .agg #[.int .i64 0, .slice none 0 0]⟩ := by kernel_rfl
@[simp] theorem ty50 : tyOf Tryz.prog 50 = some ⟨.tuple #[49, 3], 1, 0, .tuple #[.agg #[.int .i64 0, .slice none 0 0], .int .i64 0]⟩ := by kernel_rfl
@[simp] theorem ty51 : tyOf Tryz.prog 51 = some ⟨.func #[24] #[49, 3] false, 1, 8, .nilFunc⟩ := by kernel_rfl
@[simp] theorem ty52 : tyOf Tryz.prog 52 = some ⟨.func #[43, 43] #[4] false, 1, 8, .nilFunc⟩ := by kernel_rfl
@[simp] theorem ty53 : tyOf Tryz.prog 53 = some ⟨.tuple #[23, 29], 1, 0, .tuple #[.nilIface, .nilIface]⟩ := by kernel_rfl
@[simp] theorem ty54 : tyOf Tryz.prog 54 = some ⟨.func #[9] #[23, 29] false, 1, 8, .nilFunc⟩ := by kernel_rfl
@[simp] theorem ty55 : tyOf Tryz.prog 55 = some ⟨.func #[] #[4] false, 1, 8, .nilFunc⟩ := by kernel_rfl
@[simp] theorem ty56 : tyOf Tryz.prog 56 = some ⟨.func #[23] #[34] false, 1, 8, .nilFunc⟩ := by kernel_rfl
@[simp] theorem ty57 : tyOf Tryz.prog 57 = some ⟨.func #[29] #[33] false, 1, 8, .nilFunc⟩ := by kernel_rfl
@[simp] theorem ty58 : tyOf Tryz.prog 58 = some ⟨.slice 3, 1, 24, .slice none 0 0⟩ := by kernel_rfl
@[simp] theorem ty59 : tyOf Tryz.prog 59 = some ⟨.slice 4, 1, 24, .slice none 0 0⟩ := by kernel_rfl
@[simp] theorem ty60 : tyOf Tryz.prog 60 = some ⟨.tuple #[59, 29], 1, 0, .tuple #[.slice none 0 0, .nilIface]⟩ := by kernel_rfl
@[simp] theorem ty61 : tyOf Tryz.prog 61 = some ⟨.func #[45] #[59, 29] false, 1, 8, .nilFunc⟩ := by kernel_rfl
@[simp] theorem ty62 : tyOf Tryz.prog 62 = some ⟨.func #[23, 42, 42] #[4] false, 1, 8, .nilFunc⟩ := by kernel_rfl
@[simp] theorem ty63 : tyOf Tryz.prog 63 = some ⟨.func #[34] #[42] false, 1, 8, .nilFunc⟩ := by kernel_rfl
@[simp] theorem ty64 : tyOf Tryz.prog 64 = some ⟨.func #[9, 34, 34] #[4] false, 1, 8, .nilFunc⟩ := by kernel_rfl
@[simp] theorem ty65 : tyOf Tryz.prog 65 = some ⟨.tuple #[4, 29], 1, 0, .tuple #[.bool false, .nilIface]⟩ := by kernel_rfl
@[simp] theorem ty66 : tyOf Tryz.prog 66 = some ⟨.func #[23, 23] #[4, 29] false, 1, 8, .nilFunc⟩ := by kernel_rfl
@[simp] theorem ty67 : tyOf Tryz.prog 67 = some ⟨.func #[24, 24] #[4] false, 1, 8, .nilFunc⟩ := by kernel_rfl
@[simp] theorem ty68 : tyOf Tryz.prog 68 = some ⟨.func #[9, 9] #[4] false, 1, 8, .nilFunc⟩ := by kernel_rfl
@[simp] theorem ty69 : tyOf Tryz.prog 69 = some ⟨.func #[23] #[3] false, 1, 8, .nilFunc⟩ := by kernel_rfl
@[simp] theorem ty70 : tyOf Tryz.prog 70 = some ⟨.func #[23] #[23] false, 1, 8, .nilFunc⟩ := by kernel_rfl
@[simp] theorem ty71 : tyOf Tryz.prog 71 = some ⟨.func #[9, 9, 34, 34] #[4] false, 1, 8, .nilFunc⟩ := by kernel_rfl
@[simp] theorem ty72 : tyOf Tryz.prog 72 = some ⟨.struct #[{ name := "Err", type := 33, offset := 0, embedded := false, tag := "", pkgPath := "", byteOffset := 0 }, { name := "Place", type := 3, offset := 1, embedded := false, tag := "", pkgPath := "", byteOffset := 8 }], 2, 16, .agg #[.int .i64 0, .int .i64 0]⟩ := by kernel_rfl
@[simp] theorem ty73 : tyOf Tryz.prog 73 = some ⟨.struct #[{ name := "Err", type := 33, offset := 0, embedded := false, tag := "", pkgPath := "", byteOffset := 0 }, { name := "Place", type := 3, offset := 1, embedded := false, tag := "", pkgPath := "", byteOffset := 8 }], 2, 16, .agg #[.int .i64 0, .int .i64 0]⟩ := by kernel_rfl
@[simp] theorem ty74 : tyOf Tryz.prog 74 = some ⟨.tuple #[24, 73], 1, 0, .tuple #[.pointer none, .agg #[.int .i64 0, .int .i64 0]]⟩ := by kernel_rfl
@[simp] theorem ty75 : tyOf Tryz.prog 75 = some ⟨.func #[9] #[24, 73] false, 1, 8, .nilFunc⟩ := by kernel_rfl
@[simp] theorem ty76 : tyOf Tryz.prog 76 = some ⟨.func #[34, 9] #[3] false, 1, 8, .nilFunc⟩ := by kernel_rfl
@[simp] theorem ty77 : tyOf Tryz.prog 77 = some ⟨.func #[38] #[4] false, 1, 8, .nilFunc⟩ := by kernel_rfl
@[simp] theorem ty78 : tyOf Tryz.prog 78 = some ⟨.func #[29, 73] #[4] false, 1, 8, .nilFunc⟩ := by kernel_rfl
@[simp] theorem ty79 : tyOf Tryz.prog 79 = some ⟨.func #[33] #[73] false, 1, 8, .nilFunc⟩ := by kernel_rfl
@[simp] theorem ty80 : tyOf Tryz.prog 80 = some ⟨.func #[9] #[34] false, 1, 8, .nilFunc⟩ := by kernel_rfl
@[simp] theorem ty81 : tyOf Tryz.prog 81 = some ⟨.func #[42, 42] #[4] false, 1, 8, .nilFunc⟩ := by kernel_rfl
@[simp] theorem ty82 : tyOf Tryz.prog 82 = some ⟨.pointer 85, 1, 8, .pointer none⟩ := by kernel_rfl
@[simp] theorem ty83 : tyOf Tryz.prog 83 = some ⟨.map 9 3, 1, 8, .map none⟩ := by kernel_rfl
@[simp] theorem ty84 : tyOf Tryz.prog 84 = some ⟨.struct #[{ name := "Clauses", type := 45, offset := 0, embedded := true, tag := "", pkgPath := "", byteOffset := 0 }, { name := "names", type := 83, offset := 2, embedded := false, tag := "", pkgPath := "signalcabin/gate", byteOffset := 32 }], 3, 40, .agg #[.int .i64 0, .slice none 0 0, .map none]⟩ := by kernel_rfl
@[simp] theorem ty85 : tyOf Tryz.prog 85 = some ⟨.struct #[{ name := "Clauses", type := 45, offset := 0, embedded := true, tag := "", pkgPath := "", byteOffset := 0 }, { name := "names", type := 83, offset := 2, embedded := false, tag := "", pkgPath := "signalcabin/gate", byteOffset := 32 }], 3, 40, .agg #[.int .i64 0, .slice none 0 0, .map none]⟩ := by kernel_rfl
@[simp] theorem ty86 : tyOf Tryz.prog 86 = some ⟨.slice 24, 1, 24, .slice none 0 0⟩ := by kernel_rfl
@[simp] theorem ty87 : tyOf Tryz.prog 87 = some ⟨.struct #[{ name := "Kind", type := 9, offset := 0, embedded := false, tag := "", pkgPath := "", byteOffset := 0 }, { name := "Name", type := 9, offset := 1, embedded := false, tag := "", pkgPath := "", byteOffset := 16 }, { name := "Of", type := 86, offset := 2, embedded := false, tag := "", pkgPath := "", byteOffset := 32 }], 3, 56, .agg #[.string ⟨#[]⟩, .string ⟨#[]⟩, .slice none 0 0]⟩ := by kernel_rfl
@[simp] theorem ty88 : tyOf Tryz.prog 88 = some ⟨.struct #[{ name := "Kind", type := 9, offset := 0, embedded := false, tag := "", pkgPath := "", byteOffset := 0 }, { name := "Name", type := 9, offset := 1, embedded := false, tag := "", pkgPath := "", byteOffset := 16 }, { name := "Of", type := 86, offset := 2, embedded := false, tag := "", pkgPath := "", byteOffset := 32 }], 3, 56, .agg #[.string ⟨#[]⟩, .string ⟨#[]⟩, .slice none 0 0]⟩ := by kernel_rfl
@[simp] theorem ty89 : tyOf Tryz.prog 89 = some ⟨.func #[24] #[3] false, 1, 8, .nilFunc⟩ := by kernel_rfl
@[simp] theorem ty90 : tyOf Tryz.prog 90 = some ⟨.func #[58] #[3] false, 1, 8, .nilFunc⟩ := by kernel_rfl
@[simp] theorem ty91 : tyOf Tryz.prog 91 = some ⟨.func #[58, 58] #[4] false, 1, 8, .nilFunc⟩ := by kernel_rfl
@[simp] theorem ty92 : tyOf Tryz.prog 92 = some ⟨.pointer 94, 1, 8, .pointer none⟩ := by kernel_rfl
@[simp] theorem ty93 : tyOf Tryz.prog 93 = some ⟨.struct #[{ name := "text", type := 9, offset := 0, embedded := false, tag := "", pkgPath := "signalcabin/expr", byteOffset := 0 }, { name := "at", type := 3, offset := 1, embedded := false, tag := "", pkgPath := "signalcabin/expr", byteOffset := 16 }], 2, 24, .agg #[.string ⟨#[]⟩, .int .i64 0]⟩ := by kernel_rfl
@[simp] theorem ty94 : tyOf Tryz.prog 94 = some ⟨.struct #[{ name := "text", type := 9, offset := 0, embedded := false, tag := "", pkgPath := "signalcabin/expr", byteOffset := 0 }, { name := "at", type := 3, offset := 1, embedded := false, tag := "", pkgPath := "signalcabin/expr", byteOffset := 16 }], 2, 24, .agg #[.string ⟨#[]⟩, .int .i64 0]⟩ := by kernel_rfl
@[simp] theorem ty95 : tyOf Tryz.prog 95 = some ⟨.func #[3] #[23, 29] false, 1, 8, .nilFunc⟩ := by kernel_rfl
@[simp] theorem ty96 : tyOf Tryz.prog 96 = some ⟨.func #[33] #[29] false, 1, 8, .nilFunc⟩ := by kernel_rfl
@[simp] theorem ty97 : tyOf Tryz.prog 97 = some ⟨.func #[23, 101] #[34] false, 1, 8, .nilFunc⟩ := by kernel_rfl
@[simp] theorem ty98 : tyOf Tryz.prog 98 = some ⟨.string, 1, 16, .string ⟨#[]⟩⟩ := by kernel_rfl
@[simp] theorem ty99 : tyOf Tryz.prog 99 = some ⟨.string, 1, 16, .string ⟨#[]⟩⟩ := by kernel_rfl
@[simp] theorem ty100 : tyOf Tryz.prog 100 = some ⟨.string, 1, 16, .string ⟨#[]⟩⟩ := by kernel_rfl
@[simp] theorem ty101 : tyOf Tryz.prog 101 = some ⟨.func #[23] #[9] false, 1, 8, .nilFunc⟩ := by kernel_rfl
@[simp] theorem ty102 : tyOf Tryz.prog 102 = some ⟨.func #[29, 20] #[4] false, 1, 8, .nilFunc⟩ := by kernel_rfl
@[simp] theorem ty103 : tyOf Tryz.prog 103 = some ⟨.pointer 33, 1, 8, .pointer none⟩ := by kernel_rfl
@[simp] theorem ty104 : tyOf Tryz.prog 104 = some ⟨.func #[45] #[29] false, 1, 8, .nilFunc⟩ := by kernel_rfl
@[simp] theorem ty105 : tyOf Tryz.prog 105 = some ⟨.pointer 107, 1, 8, .pointer none⟩ := by kernel_rfl
@[simp] theorem ty106 : tyOf Tryz.prog 106 = some ⟨.struct #[{ name := "Clauses", type := 45, offset := 0, embedded := true, tag := "", pkgPath := "", byteOffset := 0 }, { name := "of", type := 58, offset := 2, embedded := false, tag := "", pkgPath := "signalcabin/gate", byteOffset := 32 }, { name := "trail", type := 58, offset := 3, embedded := false, tag := "", pkgPath := "signalcabin/gate", byteOffset := 56 }, { name := "steps", type := 3, offset := 4, embedded := false, tag := "", pkgPath := "signalcabin/gate", byteOffset := 80 }], 5, 88, .agg #[.int .i64 0, .slice none 0 0, .slice none 0 0, .slice none 0 0, .int .i64 0]⟩ := by kernel_rfl
@[simp] theorem ty107 : tyOf Tryz.prog 107 = some ⟨.struct #[{ name := "Clauses", type := 45, offset := 0, embedded := true, tag := "", pkgPath := "", byteOffset := 0 }, { name := "of", type := 58, offset := 2, embedded := false, tag := "", pkgPath := "signalcabin/gate", byteOffset := 32 }, { name := "trail", type := 58, offset := 3, embedded := false, tag := "", pkgPath := "signalcabin/gate", byteOffset := 56 }, { name := "steps", type := 3, offset := 4, embedded := false, tag := "", pkgPath := "signalcabin/gate", byteOffset := 80 }], 5, 88, .agg #[.int .i64 0, .slice none 0 0, .slice none 0 0, .slice none 0 0, .int .i64 0]⟩ := by kernel_rfl
@[simp] theorem ty108 : tyOf Tryz.prog 108 = some ⟨.func #[] #[4, 29] false, 1, 8, .nilFunc⟩ := by kernel_rfl
@[simp] theorem ty109 : tyOf Tryz.prog 109 = some ⟨.bool, 1, 1, .bool false⟩ := by kernel_rfl
@[simp] theorem ty110 : tyOf Tryz.prog 110 = some ⟨.struct #[{ name := "Of", type := 23, offset := 0, embedded := false, tag := "", pkgPath := "", byteOffset := 0 }], 1, 16, .agg #[.nilIface]⟩ := by kernel_rfl
@[simp] theorem ty111 : tyOf Tryz.prog 111 = some ⟨.struct #[{ name := "Of", type := 23, offset := 0, embedded := false, tag := "", pkgPath := "", byteOffset := 0 }], 1, 16, .agg #[.nilIface]⟩ := by kernel_rfl
@[simp] theorem ty112 : tyOf Tryz.prog 112 = some ⟨.slice 23, 1, 24, .slice none 0 0⟩ := by kernel_rfl
@[simp] theorem ty113 : tyOf Tryz.prog 113 = some ⟨.slice 23, 1, 24, .slice none 0 0⟩ := by kernel_rfl
@[simp] theorem ty114 : tyOf Tryz.prog 114 = some ⟨.func #[113, 115] #[4] false, 1, 8, .nilFunc⟩ := by kernel_rfl
@[simp] theorem ty115 : tyOf Tryz.prog 115 = some ⟨.func #[23] #[4] false, 1, 8, .nilFunc⟩ := by kernel_rfl
@[simp] theorem ty116 : tyOf Tryz.prog 116 = some ⟨.slice 23, 1, 24, .slice none 0 0⟩ := by kernel_rfl
@[simp] theorem ty117 : tyOf Tryz.prog 117 = some ⟨.func #[116, 115] #[4] false, 1, 8, .nilFunc⟩ := by kernel_rfl
@[simp] theorem ty118 : tyOf Tryz.prog 118 = some ⟨.func #[34, 34, 81] #[] false, 1, 8, .nilFunc⟩ := by kernel_rfl
@[simp] theorem ty119 : tyOf Tryz.prog 119 = some ⟨.func #[34, 34] #[34] false, 1, 8, .nilFunc⟩ := by kernel_rfl
@[simp] theorem ty120 : tyOf Tryz.prog 120 = some ⟨.func #[23, 121] #[] false, 1, 8, .nilFunc⟩ := by kernel_rfl
@[simp] theorem ty121 : tyOf Tryz.prog 121 = some ⟨.func #[23] #[] false, 1, 8, .nilFunc⟩ := by kernel_rfl
@[simp] theorem ty122 : tyOf Tryz.prog 122 = some ⟨.tuple #[112, 4], 1, 0, .tuple #[.slice none 0 0, .bool false]⟩ := by kernel_rfl
@[simp] theorem ty123 : tyOf Tryz.prog 123 = some ⟨.func #[112, 4] #[112, 4] false, 1, 8, .nilFunc⟩ := by kernel_rfl
@[simp] theorem ty124 : tyOf Tryz.prog 124 = some ⟨.pointer 126, 1, 8, .pointer none⟩ := by kernel_rfl
@[simp] theorem ty125 : tyOf Tryz.prog 125 = some ⟨.struct #[{ name := "s", type := 9, offset := 0, embedded := false, tag := "", pkgPath := "signalcabin/signalcabinref", byteOffset := 0 }, { name := "i", type := 3, offset := 1, embedded := false, tag := "", pkgPath := "signalcabin/signalcabinref", byteOffset := 16 }, { name := "f", type := 73, offset := 2, embedded := false, tag := "", pkgPath := "signalcabin/signalcabinref", byteOffset := 24 }], 4, 40, .agg #[.string ⟨#[]⟩, .int .i64 0, .int .i64 0, .int .i64 0]⟩ := by kernel_rfl
@[simp] theorem ty126 : tyOf Tryz.prog 126 = some ⟨.struct #[{ name := "s", type := 9, offset := 0, embedded := false, tag := "", pkgPath := "signalcabin/signalcabinref", byteOffset := 0 }, { name := "i", type := 3, offset := 1, embedded := false, tag := "", pkgPath := "signalcabin/signalcabinref", byteOffset := 16 }, { name := "f", type := 73, offset := 2, embedded := false, tag := "", pkgPath := "signalcabin/signalcabinref", byteOffset := 24 }], 4, 40, .agg #[.string ⟨#[]⟩, .int .i64 0, .int .i64 0, .int .i64 0]⟩ := by kernel_rfl
@[simp] theorem ty127 : tyOf Tryz.prog 127 = some ⟨.func #[3] #[24] false, 1, 8, .nilFunc⟩ := by kernel_rfl
@[simp] theorem ty128 : tyOf Tryz.prog 128 = some ⟨.func #[] #[5] false, 1, 8, .nilFunc⟩ := by kernel_rfl
@[simp] theorem ty129 : tyOf Tryz.prog 129 = some ⟨.func #[33] #[24] false, 1, 8, .nilFunc⟩ := by kernel_rfl
@[simp] theorem ty130 : tyOf Tryz.prog 130 = some ⟨.tuple #[33, 3], 1, 0, .tuple #[.int .i64 0, .int .i64 0]⟩ := by kernel_rfl
@[simp] theorem ty131 : tyOf Tryz.prog 131 = some ⟨.func #[29] #[33, 3] false, 1, 8, .nilFunc⟩ := by kernel_rfl
@[simp] theorem ty132 : tyOf Tryz.prog 132 = some ⟨.func #[24] #[] false, 1, 8, .nilFunc⟩ := by kernel_rfl
@[simp] theorem ty133 : tyOf Tryz.prog 133 = some ⟨.tuple #[109, 4], 1, 0, .tuple #[.bool false, .bool false]⟩ := by kernel_rfl
@[simp] theorem ty134 : tyOf Tryz.prog 134 = some ⟨.func #[58] #[] true, 1, 8, .nilFunc⟩ := by kernel_rfl
@[simp] theorem ty135 : tyOf Tryz.prog 135 = some ⟨.tuple #[112, 29], 1, 0, .tuple #[.slice none 0 0, .nilIface]⟩ := by kernel_rfl
@[simp] theorem ty136 : tyOf Tryz.prog 136 = some ⟨.func #[5, 3, 95] #[112, 29] false, 1, 8, .nilFunc⟩ := by kernel_rfl
@[simp] theorem ty137 : tyOf Tryz.prog 137 = some ⟨.pointer 138, 1, 8, .pointer none⟩ := by kernel_rfl
@[simp] theorem ty138 : tyOf Tryz.prog 138 = some ⟨.struct #[{ name := "Err", type := 33, offset := 0, embedded := false, tag := "", pkgPath := "", byteOffset := 0 }, { name := "Place", type := 3, offset := 1, embedded := false, tag := "", pkgPath := "", byteOffset := 8 }], 2, 16, .agg #[.int .i64 0, .int .i64 0]⟩ := by kernel_rfl
@[simp] theorem ty139 : tyOf Tryz.prog 139 = some ⟨.func #[34] #[] false, 1, 8, .nilFunc⟩ := by kernel_rfl
@[simp] theorem ty140 : tyOf Tryz.prog 140 = some ⟨.func #[34] #[34] false, 1, 8, .nilFunc⟩ := by kernel_rfl
@[simp] theorem ty143 : tyOf Tryz.prog 143 = some ⟨.struct #[{ name := "typ_", type := 17, offset := 0, embedded := false, tag := "", pkgPath := "internal/reflectlite", byteOffset := 0 }, { name := "ptr", type := 141, offset := 1, embedded := false, tag := "", pkgPath := "internal/reflectlite", byteOffset := 8 }, { name := "flag", type := 142, offset := 2, embedded := true, tag := "", pkgPath := "internal/reflectlite", byteOffset := 16 }], 3, 24, .agg #[.pointer none, .pointer none, .int .u64 0]⟩ := by kernel_rfl
@[simp] theorem ty145 : tyOf Tryz.prog 145 = some ⟨.func #[20] #[144] false, 1, 8, .nilFunc⟩ := by kernel_rfl
@[simp] theorem ty146 : tyOf Tryz.prog 146 = some ⟨.interface #[("AssignableTo", 151), ("Comparable", 55), ("Elem", 148), ("Implements", 151), ("Kind", 150), ("Name", 186), ("PkgPath", 186), ("Size", 255), ("String", 186), ("internal/reflectlite.common", 236), ("internal/reflectlite.uncommon", 256)], 1, 16, .nilIface⟩ := by kernel_rfl
@[simp] theorem ty148 : tyOf Tryz.prog 148 = some ⟨.func #[] #[147] false, 1, 8, .nilFunc⟩ := by kernel_rfl
@[simp] theorem ty150 : tyOf Tryz.prog 150 = some ⟨.func #[] #[149] false, 1, 8, .nilFunc⟩ := by kernel_rfl
@[simp] theorem ty151 : tyOf Tryz.prog 151 = some ⟨.func #[147] #[4] false, 1, 8, .nilFunc⟩ := by kernel_rfl
@[simp] theorem ty152 : tyOf Tryz.prog 152 = some ⟨.func #[29, 20, 144, 147] #[4] false, 1, 8, .nilFunc⟩ := by kernel_rfl
@[simp] theorem ty153 : tyOf Tryz.prog 153 = some ⟨.func #[58, 154] #[4] false, 1, 8, .nilFunc⟩ := by kernel_rfl
@[simp] theorem ty154 : tyOf Tryz.prog 154 = some ⟨.func #[3] #[4] false, 1, 8, .nilFunc⟩ := by kernel_rfl
@[simp] theorem ty155 : tyOf Tryz.prog 155 = some ⟨.func #[3] #[] false, 1, 8, .nilFunc⟩ := by kernel_rfl
@[simp] theorem ty156 : tyOf Tryz.prog 156 = some ⟨.func #[58, 3] #[3] false, 1, 8, .nilFunc⟩ := by kernel_rfl
@[simp] theorem ty157 : tyOf Tryz.prog 157 = some ⟨.func #[113, 115] #[3] false, 1, 8, .nilFunc⟩ := by kernel_rfl
@[simp] theorem ty158 : tyOf Tryz.prog 158 = some ⟨.func #[116, 115] #[3] false, 1, 8, .nilFunc⟩ := by kernel_rfl
@[simp] theorem ty159 : tyOf Tryz.prog 159 = some ⟨.func #[34, 3] #[42] false, 1, 8, .nilFunc⟩ := by kernel_rfl
@[simp] theorem ty160 : tyOf Tryz.prog 160 = some ⟨.func #[34, 9] #[4] false, 1, 8, .nilFunc⟩ := by kernel_rfl
@[simp] theorem ty161 : tyOf Tryz.prog 161 = some ⟨.tuple #[111, 4], 1, 0, .tuple #[.agg #[.nilIface], .bool false]⟩ := by kernel_rfl
@[simp] theorem ty162 : tyOf Tryz.prog 162 = some ⟨.func #[112, 115] #[4] false, 1, 8, .nilFunc⟩ := by kernel_rfl
@[simp] theorem ty163 : tyOf Tryz.prog 163 = some ⟨.func #[5, 3, 127] #[24] false, 1, 8, .nilFunc⟩ := by kernel_rfl
@[simp] theorem ty164 : tyOf Tryz.prog 164 = some ⟨.tuple #[137, 4], 1, 0, .tuple #[.pointer none, .bool false]⟩ := by kernel_rfl
@[simp] theorem ty165 : tyOf Tryz.prog 165 = some ⟨.interface #[("Unwrap", 167)], 1, 16, .nilIface⟩ := by kernel_rfl
@[simp] theorem ty166 : tyOf Tryz.prog 166 = some ⟨.tuple #[165, 4], 1, 0, .tuple #[.nilIface, .bool false]⟩ := by kernel_rfl
@[simp] theorem ty167 : tyOf Tryz.prog 167 = some ⟨.func #[] #[29] false, 1, 8, .nilFunc⟩ := by kernel_rfl
@[simp] theorem ty168 : tyOf Tryz.prog 168 = some ⟨.func #[9, 9] #[3] false, 1, 8, .nilFunc⟩ := by kernel_rfl
@[simp] theorem ty169 : tyOf Tryz.prog 169 = some ⟨.func #[5] #[4] false, 1, 8, .nilFunc⟩ := by kernel_rfl
@[simp] theorem ty170 : tyOf Tryz.prog 170 = some ⟨.func #[34, 3, 3, 3] #[] false, 1, 8, .nilFunc⟩ := by kernel_rfl
@[simp] theorem ty171 : tyOf Tryz.prog 171 = some ⟨.func #[38] #[3] false, 1, 8, .nilFunc⟩ := by kernel_rfl
@[simp] theorem ty172 : tyOf Tryz.prog 172 = some ⟨.struct #[{ name := "Type", type := 17, offset := 0, embedded := true, tag := "", pkgPath := "", byteOffset := 0 }], 1, 8, .agg #[.pointer none]⟩ := by kernel_rfl
@[simp] theorem ty174 : tyOf Tryz.prog 174 = some ⟨.pointer 258, 1, 8, .pointer none⟩ := by kernel_rfl
@[simp] theorem ty175 : tyOf Tryz.prog 175 = some ⟨.func #[20] #[147] false, 1, 8, .nilFunc⟩ := by kernel_rfl
@[simp] theorem ty176 : tyOf Tryz.prog 176 = some ⟨.func #[] #[144] false, 1, 8, .nilFunc⟩ := by kernel_rfl
@[simp] theorem ty177 : tyOf Tryz.prog 177 = some ⟨.func #[144] #[] false, 1, 8, .nilFunc⟩ := by kernel_rfl
@[simp] theorem ty178 : tyOf Tryz.prog 178 = some ⟨.interface #[("As", 180)], 1, 16, .nilIface⟩ := by kernel_rfl
@[simp] theorem ty179 : tyOf Tryz.prog 179 = some ⟨.tuple #[178, 4], 1, 0, .tuple #[.nilIface, .bool false]⟩ := by kernel_rfl
@[simp] theorem ty180 : tyOf Tryz.prog 180 = some ⟨.func #[20] #[4] false, 1, 8, .nilFunc⟩ := by kernel_rfl
@[simp] theorem ty181 : tyOf Tryz.prog 181 = some ⟨.interface #[("Unwrap", 183)], 1, 16, .nilIface⟩ := by kernel_rfl
@[simp] theorem ty182 : tyOf Tryz.prog 182 = some ⟨.slice 29, 1, 24, .slice none 0 0⟩ := by kernel_rfl
@[simp] theorem ty183 : tyOf Tryz.prog 183 = some ⟨.func #[] #[182] false, 1, 8, .nilFunc⟩ := by kernel_rfl
@[simp] theorem ty184 : tyOf Tryz.prog 184 = some ⟨.func #[58, 154] #[3] false, 1, 8, .nilFunc⟩ := by kernel_rfl
@[simp] theorem ty185 : tyOf Tryz.prog 185 = some ⟨.func #[3] #[3] false, 1, 8, .nilFunc⟩ := by kernel_rfl
@[simp] theorem ty186 : tyOf Tryz.prog 186 = some ⟨.func #[] #[9] false, 1, 8, .nilFunc⟩ := by kernel_rfl
@[simp] theorem ty187 : tyOf Tryz.prog 187 = some ⟨.func #[112, 115] #[3] false, 1, 8, .nilFunc⟩ := by kernel_rfl
@[simp] theorem ty188 : tyOf Tryz.prog 188 = some ⟨.tuple #[9, 29], 1, 0, .tuple #[.string ⟨#[]⟩, .nilIface]⟩ := by kernel_rfl
@[simp] theorem ty189 : tyOf Tryz.prog 189 = some ⟨.func #[] #[9, 29] false, 1, 8, .nilFunc⟩ := by kernel_rfl
@[simp] theorem ty190 : tyOf Tryz.prog 190 = some ⟨.func #[34, 3, 3] #[] false, 1, 8, .nilFunc⟩ := by kernel_rfl
@[simp] theorem ty191 : tyOf Tryz.prog 191 = some ⟨.int .i64, 1, 8, .int .i64 0⟩ := by kernel_rfl
@[simp] theorem ty192 : tyOf Tryz.prog 192 = some ⟨.tuple #[3, 191], 1, 0, .tuple #[.int .i64 0, .int .i64 0]⟩ := by kernel_rfl
@[simp] theorem ty193 : tyOf Tryz.prog 193 = some ⟨.func #[34, 3, 3] #[3, 191] false, 1, 8, .nilFunc⟩ := by kernel_rfl
@[simp] theorem ty194 : tyOf Tryz.prog 194 = some ⟨.func #[34, 3, 3] #[4] false, 1, 8, .nilFunc⟩ := by kernel_rfl
@[simp] theorem ty195 : tyOf Tryz.prog 195 = some ⟨.func #[34, 3, 3, 3] #[3] false, 1, 8, .nilFunc⟩ := by kernel_rfl
@[simp] theorem ty196 : tyOf Tryz.prog 196 = some ⟨.tuple #[3, 4], 1, 0, .tuple #[.int .i64 0, .bool false]⟩ := by kernel_rfl
@[simp] theorem ty197 : tyOf Tryz.prog 197 = some ⟨.func #[34, 3, 3, 3] #[3, 4] false, 1, 8, .nilFunc⟩ := by kernel_rfl
@[simp] theorem ty198 : tyOf Tryz.prog 198 = some ⟨.func #[199] #[3] false, 1, 8, .nilFunc⟩ := by kernel_rfl
@[simp] theorem ty199 : tyOf Tryz.prog 199 = some ⟨.int .u32, 1, 4, .int .u32 0⟩ := by kernel_rfl
@[simp] theorem ty200 : tyOf Tryz.prog 200 = some ⟨.func #[201] #[3] false, 1, 8, .nilFunc⟩ := by kernel_rfl
@[simp] theorem ty201 : tyOf Tryz.prog 201 = some ⟨.int .u64, 1, 8, .int .u64 0⟩ := by kernel_rfl
@[simp] theorem ty202 : tyOf Tryz.prog 202 = some ⟨.func #[9, 21] #[4] false, 1, 8, .nilFunc⟩ := by kernel_rfl
@[simp] theorem ty203 : tyOf Tryz.prog 203 = some ⟨.func #[9, 5] #[3] false, 1, 8, .nilFunc⟩ := by kernel_rfl
@[simp] theorem ty204 : tyOf Tryz.prog 204 = some ⟨.int .u64, 1, 8, .int .u64 0⟩ := by kernel_rfl
@[simp] theorem ty205 : tyOf Tryz.prog 205 = some ⟨.func #[3] #[38] false, 1, 8, .nilFunc⟩ := by kernel_rfl
@[simp] theorem ty206 : tyOf Tryz.prog 206 = some ⟨.func #[] #[201] false, 1, 8, .nilFunc⟩ := by kernel_rfl
@[simp] theorem ty207 : tyOf Tryz.prog 207 = some ⟨.func #[34, 3, 208] #[3] false, 1, 8, .nilFunc⟩ := by kernel_rfl
@[simp] theorem ty208 : tyOf Tryz.prog 208 = some ⟨.pointer 3, 1, 8, .pointer none⟩ := by kernel_rfl
@[simp] theorem ty209 : tyOf Tryz.prog 209 = some ⟨.func #[34, 3, 3, 3, 208] #[3] false, 1, 8, .nilFunc⟩ := by kernel_rfl
@[simp] theorem ty210 : tyOf Tryz.prog 210 = some ⟨.func #[9, 21] #[3] false, 1, 8, .nilFunc⟩ := by kernel_rfl
@[simp] theorem ty211 : tyOf Tryz.prog 211 = some ⟨.tuple #[199, 199], 1, 0, .tuple #[.int .u32 0, .int .u32 0]⟩ := by kernel_rfl
@[simp] theorem ty212 : tyOf Tryz.prog 212 = some ⟨.func #[9] #[199, 199] false, 1, 8, .nilFunc⟩ := by kernel_rfl
@[simp] theorem ty213 : tyOf Tryz.prog 213 = some ⟨.func #[9, 9] #[9] false, 1, 8, .nilFunc⟩ := by kernel_rfl
@[simp] theorem ty214 : tyOf Tryz.prog 214 = some ⟨.pointer 204, 1, 8, .pointer none⟩ := by kernel_rfl
@[simp] theorem ty215 : tyOf Tryz.prog 215 = some ⟨.tuple #[3, 3], 1, 0, .tuple #[.int .i64 0, .int .i64 0]⟩ := by kernel_rfl
@[simp] theorem ty216 : tyOf Tryz.prog 216 = some ⟨.func #[34, 3, 3, 208] #[3, 3] false, 1, 8, .nilFunc⟩ := by kernel_rfl
@[simp] theorem ty217 : tyOf Tryz.prog 217 = some ⟨.func #[21] #[4] false, 1, 8, .nilFunc⟩ := by kernel_rfl
@[simp] theorem ty218 : tyOf Tryz.prog 218 = some ⟨.func #[9, 5] #[9] false, 1, 8, .nilFunc⟩ := by kernel_rfl
@[simp] theorem ty221 : tyOf Tryz.prog 221 = some ⟨.tuple #[220, 4], 1, 0, .tuple #[.agg #[.bool false, .bool false, .bool false, .bool false, .bool false, .bool false, .bool false, .bool false, .bool false, .bool false, .bool false, .bool false, .bool false, .bool false, .bool false, .bool false, .bool false, .bool false, .bool false, .bool false, .bool false, .bool false, .bool false, .bool false, .bool false, .bool false, .bool false, .bool false, .bool false, .bool false, .bool false, .bool false, .bool false, .bool false, .bool false, .bool false, .bool false, .bool false, .bool false, .bool false, .bool false, .bool false, .bool false, .bool false, .bool false, .bool false, .bool false, .bool false, .bool false, .bool false, .bool false, .bool false, .bool false, .bool false, .bool false, .bool false, .bool false, .bool false, .bool false, .bool false, .bool false, .bool false, .bool false, .bool false, .bool false, .bool false, .bool false, .bool false, .bool false, .bool false, .bool false, .bool false, .bool false, .bool false, .bool false, .bool false, .bool false, .bool false, .bool false, .bool false, .bool false, .bool false, .bool false, .bool false, .bool false, .bool false, .bool false, .bool false, .bool false, .bool false, .bool false, .bool false, .bool false, .bool false, .bool false, .bool false, .bool false, .bool false, .bool false, .bool false, .bool false, .bool false, .bool false, .bool false, .bool false, .bool false, .bool false, .bool false, .bool false, .bool false, .bool false, .bool false, .bool false, .bool false, .bool false, .bool false, .bool false, .bool false, .bool false, .bool false, .bool false, .bool false, .bool false, .bool false, .bool false, .bool false, .bool false, .bool false, .bool false, .bool false, .bool false, .bool false, .bool false, .bool false, .bool false, .bool false, .bool false, .bool false, .bool false, .bool false, .bool false, .bool false, .bool false, .bool false, .bool false, .bool false, .bool false, .bool false, .bool false, .bool false, .bool false, .bool false, .bool false, .bool false, .bool false, .bool false, .bool false, .bool false, .bool false, .bool false, .bool false, .bool false, .bool false, .bool false, .bool false, .bool false, .bool false, .bool false, .bool false, .bool false, .bool false, .bool false, .bool false, .bool false, .bool false, .bool false, .bool false, .bool false, .bool false, .bool false, .bool false, .bool false, .bool false, .bool false, .bool false, .bool false, .bool false, .bool false, .bool false, .bool false, .bool false, .bool false, .bool false, .bool false, .bool false, .bool false, .bool false, .bool false, .bool false, .bool false, .bool false, .bool false, .bool false, .bool false, .bool false, .bool false, .bool false, .bool false, .bool false, .bool false, .bool false, .bool false, .bool false, .bool false, .bool false, .bool false, .bool false, .bool false, .bool false, .bool false, .bool false, .bool false, .bool false, .bool false, .bool false, .bool false, .bool false, .bool false, .bool false, .bool false, .bool false, .bool false, .bool false, .bool false, .bool false, .bool false, .bool false, .bool false, .bool false, .bool false, .bool false, .bool false, .bool false, .bool false, .bool false, .bool false, .bool false, .bool false, .bool false, .bool false, .bool false, .bool false, .bool false, .bool false, .bool false, .bool false], .bool false]⟩ := by kernel_rfl
@[simp] theorem ty222 : tyOf Tryz.prog 222 = some ⟨.func #[9] #[220, 4] false, 1, 8, .nilFunc⟩ := by kernel_rfl
@[simp] theorem ty223 : tyOf Tryz.prog 223 = some ⟨.func #[9, 224] #[9] false, 1, 8, .nilFunc⟩ := by kernel_rfl
@[simp] theorem ty224 : tyOf Tryz.prog 224 = some ⟨.pointer 220, 1, 8, .pointer none⟩ := by kernel_rfl
@[simp] theorem ty225 : tyOf Tryz.prog 225 = some ⟨.tuple #[21, 3], 1, 0, .tuple #[.int .i32 0, .int .i64 0]⟩ := by kernel_rfl
@[simp] theorem ty226 : tyOf Tryz.prog 226 = some ⟨.func #[9] #[21, 3] false, 1, 8, .nilFunc⟩ := by kernel_rfl
@[simp] theorem ty228 : tyOf Tryz.prog 228 = some ⟨.struct #[{ name := "lo", type := 5, offset := 0, embedded := false, tag := "", pkgPath := "unicode/utf8", byteOffset := 0 }, { name := "hi", type := 5, offset := 1, embedded := false, tag := "", pkgPath := "unicode/utf8", byteOffset := 1 }], 2, 2, .agg #[.int .u8 0, .int .u8 0]⟩ := by kernel_rfl
@[simp] theorem ty229 : tyOf Tryz.prog 229 = some ⟨.struct #[{ name := "lo", type := 5, offset := 0, embedded := false, tag := "", pkgPath := "unicode/utf8", byteOffset := 0 }, { name := "hi", type := 5, offset := 1, embedded := false, tag := "", pkgPath := "unicode/utf8", byteOffset := 1 }], 2, 2, .agg #[.int .u8 0, .int .u8 0]⟩ := by kernel_rfl
@[simp] theorem ty230 : tyOf Tryz.prog 230 = some ⟨.array 16 229, 32, 32, .agg #[.int .u8 0, .int .u8 0, .int .u8 0, .int .u8 0, .int .u8 0, .int .u8 0, .int .u8 0, .int .u8 0, .int .u8 0, .int .u8 0, .int .u8 0, .int .u8 0, .int .u8 0, .int .u8 0, .int .u8 0, .int .u8 0, .int .u8 0, .int .u8 0, .int .u8 0, .int .u8 0, .int .u8 0, .int .u8 0, .int .u8 0, .int .u8 0, .int .u8 0, .int .u8 0, .int .u8 0, .int .u8 0, .int .u8 0, .int .u8 0, .int .u8 0, .int .u8 0]⟩ := by kernel_rfl
@[simp] theorem ty231 : tyOf Tryz.prog 231 = some ⟨.struct #[{ name := "_interface", type := 17, offset := 0, embedded := false, tag := "", pkgPath := "runtime", byteOffset := 0 }, { name := "concrete", type := 17, offset := 1, embedded := false, tag := "", pkgPath := "runtime", byteOffset := 8 }, { name := "asserted", type := 17, offset := 2, embedded := false, tag := "", pkgPath := "runtime", byteOffset := 16 }, { name := "missingMethod", type := 9, offset := 3, embedded := false, tag := "", pkgPath := "runtime", byteOffset := 24 }], 4, 40, .agg #[.pointer none, .pointer none, .pointer none, .string ⟨#[]⟩]⟩ := by kernel_rfl
@[simp] theorem ty233 : tyOf Tryz.prog 233 = some ⟨.array 0 16, 0, 0, .agg #[]⟩ := by kernel_rfl
@[simp] theorem ty234 : tyOf Tryz.prog 234 = some ⟨.struct #[{ name := "_", type := 233, offset := 0, embedded := false, tag := "", pkgPath := "runtime", byteOffset := 0 }], 0, 0, .agg #[]⟩ := by kernel_rfl
@[simp] theorem ty236 : tyOf Tryz.prog 236 = some ⟨.func #[] #[17] false, 1, 8, .nilFunc⟩ := by kernel_rfl
@[simp] theorem ty238 : tyOf Tryz.prog 238 = some ⟨.func #[141, 141] #[4] false, 1, 8, .nilFunc⟩ := by kernel_rfl
@[simp] theorem ty239 : tyOf Tryz.prog 239 = some ⟨.pointer 5, 1, 8, .pointer none⟩ := by kernel_rfl
@[simp] theorem ty242 : tyOf Tryz.prog 242 = some ⟨.struct #[{ name := "Size_", type := 12, offset := 0, embedded := false, tag := "", pkgPath := "", byteOffset := 0 }, { name := "PtrBytes", type := 12, offset := 1, embedded := false, tag := "", pkgPath := "", byteOffset := 8 }, { name := "Hash", type := 199, offset := 2, embedded := false, tag := "", pkgPath := "", byteOffset := 16 }, { name := "TFlag", type := 237, offset := 3, embedded := false, tag := "", pkgPath := "", byteOffset := 20 }, { name := "Align_", type := 5, offset := 4, embedded := false, tag := "", pkgPath := "", byteOffset := 21 }, { name := "FieldAlign_", type := 5, offset := 5, embedded := false, tag := "", pkgPath := "", byteOffset := 22 }, { name := "Kind_", type := 149, offset := 6, embedded := false, tag := "", pkgPath := "", byteOffset := 23 }, { name := "Equal", type := 238, offset := 7, embedded := false, tag := "", pkgPath := "", byteOffset := 24 }, { name := "GCData", type := 239, offset := 8, embedded := false, tag := "", pkgPath := "", byteOffset := 32 }, { name := "Str", type := 240, offset := 9, embedded := false, tag := "", pkgPath := "", byteOffset := 40 }, { name := "PtrToThis", type := 241, offset := 10, embedded := false, tag := "", pkgPath := "", byteOffset := 44 }], 11, 48, .agg #[.int .u64 0, .int .u64 0, .int .u32 0, .int .u8 0, .int .u8 0, .int .u8 0, .int .u8 0, .nilFunc, .pointer none, .int .i32 0, .int .i32 0]⟩ := by kernel_rfl
@[simp] theorem ty244 : tyOf Tryz.prog 244 = some ⟨.func #[34, 9] #[9] false, 1, 8, .nilFunc⟩ := by kernel_rfl
@[simp] theorem ty245 : tyOf Tryz.prog 245 = some ⟨.pointer 248, 1, 8, .pointer none⟩ := by kernel_rfl
@[simp] theorem ty246 : tyOf Tryz.prog 246 = some ⟨.slice 5, 1, 24, .slice none 0 0⟩ := by kernel_rfl
@[simp] theorem ty247 : tyOf Tryz.prog 247 = some ⟨.struct #[{ name := "addr", type := 245, offset := 0, embedded := false, tag := "", pkgPath := "strings", byteOffset := 0 }, { name := "buf", type := 246, offset := 1, embedded := false, tag := "", pkgPath := "strings", byteOffset := 8 }], 2, 32, .agg #[.pointer none, .slice none 0 0]⟩ := by kernel_rfl
@[simp] theorem ty248 : tyOf Tryz.prog 248 = some ⟨.struct #[{ name := "addr", type := 245, offset := 0, embedded := false, tag := "", pkgPath := "strings", byteOffset := 0 }, { name := "buf", type := 246, offset := 1, embedded := false, tag := "", pkgPath := "strings", byteOffset := 8 }], 2, 32, .agg #[.pointer none, .slice none 0 0]⟩ := by kernel_rfl
@[simp] theorem ty249 : tyOf Tryz.prog 249 = some ⟨.tuple #[3, 29], 1, 0, .tuple #[.int .i64 0, .nilIface]⟩ := by kernel_rfl
@[simp] theorem ty250 : tyOf Tryz.prog 250 = some ⟨.func #[9] #[3, 29] false, 1, 8, .nilFunc⟩ := by kernel_rfl
@[simp] theorem ty251 : tyOf Tryz.prog 251 = some ⟨.func #[141] #[141] false, 1, 8, .nilFunc⟩ := by kernel_rfl
@[simp] theorem ty252 : tyOf Tryz.prog 252 = some ⟨.func #[3] #[246] false, 1, 8, .nilFunc⟩ := by kernel_rfl
@[simp] theorem ty253 : tyOf Tryz.prog 253 = some ⟨.func #[23, 3] #[9] false, 1, 8, .nilFunc⟩ := by kernel_rfl
@[simp] theorem ty254 : tyOf Tryz.prog 254 = some ⟨.func #[112, 9, 3, 4] #[9] false, 1, 8, .nilFunc⟩ := by kernel_rfl
@[simp] theorem ty255 : tyOf Tryz.prog 255 = some ⟨.func #[] #[12] false, 1, 8, .nilFunc⟩ := by kernel_rfl
@[simp] theorem ty256 : tyOf Tryz.prog 256 = some ⟨.func #[] #[259] false, 1, 8, .nilFunc⟩ := by kernel_rfl
@[simp] theorem ty257 : tyOf Tryz.prog 257 = some ⟨.struct #[{ name := "Method", type := 9, offset := 0, embedded := false, tag := "", pkgPath := "", byteOffset := 0 }, { name := "Kind", type := 149, offset := 1, embedded := false, tag := "", pkgPath := "", byteOffset := 16 }], 2, 24, .agg #[.string ⟨#[]⟩, .int .u8 0]⟩ := by kernel_rfl
@[simp] theorem ty259 : tyOf Tryz.prog 259 = some ⟨.pointer 263, 1, 8, .pointer none⟩ := by kernel_rfl
@[simp] theorem ty260 : tyOf Tryz.prog 260 = some ⟨.func #[] #[264] false, 1, 8, .nilFunc⟩ := by kernel_rfl
@[simp] theorem ty261 : tyOf Tryz.prog 261 = some ⟨.int .u16, 1, 2, .int .u16 0⟩ := by kernel_rfl
@[simp] theorem ty262 : tyOf Tryz.prog 262 = some ⟨.struct #[{ name := "PkgPath", type := 240, offset := 0, embedded := false, tag := "", pkgPath := "", byteOffset := 0 }, { name := "Mcount", type := 261, offset := 1, embedded := false, tag := "", pkgPath := "", byteOffset := 4 }, { name := "Xcount", type := 261, offset := 2, embedded := false, tag := "", pkgPath := "", byteOffset := 6 }, { name := "Moff", type := 199, offset := 3, embedded := false, tag := "", pkgPath := "", byteOffset := 8 }, { name := "_", type := 199, offset := 4, embedded := false, tag := "", pkgPath := "internal/abi", byteOffset := 12 }], 5, 16, .agg #[.int .i32 0, .int .u16 0, .int .u16 0, .int .u32 0, .int .u32 0]⟩ := by kernel_rfl
@[simp] theorem ty264 : tyOf Tryz.prog 264 = some ⟨.slice 267, 1, 24, .slice none 0 0⟩ := by kernel_rfl
@[simp] theorem ty266 : tyOf Tryz.prog 266 = some ⟨.struct #[{ name := "Name", type := 240, offset := 0, embedded := false, tag := "", pkgPath := "", byteOffset := 0 }, { name := "Mtyp", type := 241, offset := 1, embedded := false, tag := "", pkgPath := "", byteOffset := 4 }, { name := "Ifn", type := 265, offset := 2, embedded := false, tag := "", pkgPath := "", byteOffset := 8 }, { name := "Tfn", type := 265, offset := 3, embedded := false, tag := "", pkgPath := "", byteOffset := 12 }], 4, 16, .agg #[.int .i32 0, .int .i32 0, .int .i32 0, .int .i32 0]⟩ := by kernel_rfl
@[simp] theorem ty268 : tyOf Tryz.prog 268 = some ⟨.pointer 29, 1, 8, .pointer none⟩ := by kernel_rfl
end Go.Proofs.YtagfbbnlbncjlaaGreatDoor
namespace Go.Proofs.YtagfbbnlbncjlaaGreatDoor
open Go.Av
def dInts (k : Option Bool) (l : List Int) : D := .sl k (l.map fun n => [.v (.int .i64 n)])
end Go.Proofs.YtagfbbnlbncjlaaGreatDoor
namespace Go.Proofs.YtagfbbnlbncjlaaGreatDoor
open Go.Av
def idx {α : Type} (p : α → Bool) (l : List α) : Int := match l.findIdx? p with
 | some i => i
 | none => -1
theorem idx_hit {α : Type} {p : α → Bool} {l : List α} {n : Nat} (hn : n < l.length) (h : p l[n] = true) (hb : ∀ i (hi : i < n), p (l[i]'(by omega)) = false) : idx p l = n := by
 unfold idx
 have : l.findIdx? p = some n := by
  rw [List.findIdx?_eq_some_iff_getElem]; exact ⟨hn, h, fun j hj => by simpa using hb j hj⟩
 rw [this]
theorem idx_miss {α : Type} {p : α → Bool} {l : List α} (hb : ∀ i (hi : i < l.length), p l[i] = false) : idx p l = -1 := by
 unfold idx
 have : l.findIdx? p = none := by
  rw [List.findIdx?_eq_none_iff]
  intro x hx
  obtain ⟨i, hi, rfl⟩ := List.mem_iff_getElem.1 hx
  exact hb i hi
 rw [this]
def Answers {α : Type} (G : Glob) (g : FuncId) (caps : List D) (enc : α → D) (p : α → Bool) (xs : List α) : Prop := ∀ x ∈ xs, PureC Tryz.prog G g (enc x :: caps) (.v (.bool (p x)))
set_option maxHeartbeats 1000000 in
theorem indexInt_spec {α : Type} (G : Glob) (k : Option Bool) (enc : α → D) (xs : List α) (g : FuncId) (caps : List D) (p : α → Bool) (hl : xs.length < 2^63) (ha : Answers G g caps enc p xs) :
  PureC Tryz.prog G 109 [.sl k (xs.map fun x => [enc x]), .fn (.func g) caps] (.v (.int .i64 (idx p xs))) := by
 refine PureC.of_body (tyOf_good _) Tryz.func109 rfl rfl (rs := [.tmp 4]) Tryz.results109 (by simp [Tryz.ntmps109]) fun X => ?_; simp only [Tryz.ntmps109, List.map]; refine rg [0, 1] [] (fun _ _ => trivial) fun K' hK' => ?_; (repeat (refine sxn fun K2 hK2 => ?_; simp; (repeat (refine ⟨by omega, ?_⟩)); refine hK2 _ ?_; clear hK2 K2)); refine sxz (hK' _ (AW.st (by simp; rfl) ?_)); clear hK' K'; refine AW_then fun K1 hK1 => ?_; refine rg [0, 1, 7, 8] [] (fun _ _ => trivial) fun K' hK' => ?_; (repeat (refine sxn fun K2 hK2 => ?_; simp; (repeat (refine ⟨by omega, ?_⟩)); refine hK2 _ ?_; clear hK2 K2)); refine sxz (hK' _ (AW.st (by simp; rfl) ?_)); clear hK' K'; refine AW_for (S := Nat) (fun n => n ≤ xs.length ∧ ∀ i (hi : i < xs.length), i < n → p xs[i] = false) (fun n => ⟨lst [(0, .d (.sl k (xs.map fun x => [enc x]))), (1, .d (.fn (.func g) caps)), (7, int xs.length), (8, int n)], hlst []⟩) (fun n => xs.length - n) 0 ?_ (by simp) ?_
 ·refine Imp.to' (fun _ _ => trivial) (by simp) (by simp)
 ·rintro n ⟨hn, hp⟩
  refine rg [0, 1, 7, 8, 9] [] (fun _ _ => trivial) fun K' hK' => ?_; (repeat (refine sxn fun K2 hK2 => ?_; simp; (repeat (refine ⟨by omega, ?_⟩)); refine hK2 _ ?_; clear hK2 K2)); refine sxz (hK' _ (AW.st (by simp; rfl) ?_)); clear hK' K'; refine AW_then fun K2 hK2 => ?_; refine AW_cond' (b := n < xs.length) (by simp [D.le, D.le.go, takeMap]) (fun hc => ?_) (fun hc => ?_)
  ·refine AW_skip (hK2 _ ?_); refine AW_then fun K3 hK3 => ?_; refine AW_block ?_; refine rg [0, 1, 5, 7, 8] [] (fun _ _ => trivial) fun K' hK' => ?_; (repeat (refine sxn fun K2 hK2 => ?_; simp; (repeat (refine ⟨by omega, ?_⟩)); refine hK2 _ ?_; clear hK2 K2)); refine sxz (hK' _ (AW.st (by simp; rfl) ?_)); clear hK' K'; refine rg [0, 1, 5, 7, 8, 16] [] (fun _ _ => trivial) fun K' hK' => ?_; (repeat (refine sxn fun K2 hK2 => ?_; simp [hc]; (repeat (refine ⟨by omega, ?_⟩)); refine hK2 _ ?_; clear hK2 K2)); refine sxn fun K2 hK2 => ?_; simp [hc]; refine callK.data (ha xs[n] (by simp)) (by simp; rfl) (by first | exact D.leGo_refl _ | simp [takeMap, List.map_map, Function.comp_def, D.le, D.le.go, D.le_refl, D.leGo_refl, hc]) ?_; refine hK2 _ ?_; clear hK2 K2; simp only [putd, upd_lst]; (repeat (refine sxn fun K2 hK2 => ?_; simp [hc]; (repeat (refine ⟨by omega, ?_⟩)); refine hK2 _ ?_; clear hK2 K2)); refine sxz (hK' _ (AW.st (by simp [hc]; rfl) ?_)); clear hK' K'; refine AW_cond _ rfl (fun hp2 => ?_) (fun hp2 => ?_)
   ·refine rg [4] [] (fun _ _ => trivial) fun K' hK' => ?_; (repeat (refine sxn fun K2 hK2 => ?_; simp; (repeat (refine ⟨by omega, ?_⟩)); refine hK2 _ ?_; clear hK2 K2)); refine sxz (hK' _ (AW.st (by simp; rfl) ?_)); clear hK' K'; refine AW_ret ?_; simp [D.le, D.le.go, takeMap]; exact (idx_hit hc hp2 fun i hi => hp i (by omega) hi).symm
   ·refine AW_skip (hK3 _ ?_); refine AW_re (tyOf_good _) fun K' hK' => ?_; (repeat (refine sxn fun K2 hK2 => ?_; simp; (repeat (refine ⟨by omega, ?_⟩)); refine hK2 _ ?_; clear hK2 K2)); refine sxz (hK' _ ?_); clear hK' K'; (try simp only [thn, inb]); refine Again.mk (n + 1) ⟨by omega, fun i hi hin => ?_⟩ (by omega) ?_
    ·by_cases h : i = n
     ·subst h; exact hp2
     ·exact hp i hi (by omega)
    refine Imp.to' (fun _ _ => trivial) (by simp) (by simp)
  ·refine AW_exit (hK1 _ ?_); refine rg [4] [] (fun _ _ => trivial) fun K' hK' => ?_; (repeat (refine sxn fun K2 hK2 => ?_; simp; (repeat (refine ⟨by omega, ?_⟩)); refine hK2 _ ?_; clear hK2 K2)); refine sxz (hK' _ (AW.st (by simp; rfl) ?_)); clear hK' K'; refine AW_ret ?_; simp [D.le, D.le.go, takeMap]; exact (idx_miss fun i hi => hp i hi (by omega)).symm
theorem idx_any {α : Type} (p : α → Bool) (l : List α) : decide (0 ≤ idx p l) = l.any p := by
 unfold idx
 split
 ·rename_i i hi
  rw [List.findIdx?_eq_some_iff_getElem] at hi
  obtain ⟨h1, h2, _⟩ := hi
  have : l.any p = true := List.any_eq_true.2 ⟨_, List.getElem_mem h1, h2⟩
  rw [this]; simp
 ·rename_i h
  rw [List.findIdx?_eq_none_iff] at h
  have : l.any p = false := by
   rw [List.any_eq_false]
   intro x hx
   simpa using h x hx
  rw [this]; simp
set_option maxHeartbeats 1000000 in
theorem containsInt_spec {α : Type} (G : Glob) (k : Option Bool) (enc : α → D) (xs : List α) (g : FuncId) (caps : List D) (p : α → Bool) (hl : xs.length < 2^63) (ha : Answers G g caps enc p xs) :
  PureC Tryz.prog G 83 [.sl k (xs.map fun x => [enc x]), .fn (.func g) caps] (.v (.bool (xs.any p))) := by
 refine PureC.of_body (tyOf_good _) Tryz.func83 rfl rfl (rs := [.tmp 4]) Tryz.results83 (by simp [Tryz.ntmps83]) fun X => ?_; simp only [Tryz.ntmps83, List.map]; refine rg [0, 1] [] (fun _ _ => trivial) fun K' hK' => ?_; (repeat (refine sxn fun K2 hK2 => ?_; simp; (repeat (refine ⟨by omega, ?_⟩)); refine hK2 _ ?_; clear hK2 K2)); refine sxz (hK' _ (AW.st (by simp; rfl) ?_)); clear hK' K'; refine rg [4] [] (fun _ _ => trivial) fun K' hK' => ?_; (repeat (refine sxn fun K2 hK2 => ?_; simp; (repeat (refine ⟨by omega, ?_⟩)); refine hK2 _ ?_; clear hK2 K2)); refine sxn fun K2 hK2 => ?_; simp; refine callK.data (indexInt_spec G k enc xs g caps p hl ha) (by simp; rfl) (by first | exact D.leGo_refl _ | simp [takeMap, List.map_map, Function.comp_def, D.le, D.le.go, D.le_refl, D.leGo_refl]) ?_; refine hK2 _ ?_; clear hK2 K2; simp only [putd, upd_lst]; (repeat (refine sxn fun K2 hK2 => ?_; simp; (repeat (refine ⟨by omega, ?_⟩)); refine hK2 _ ?_; clear hK2 K2)); refine sxz (hK' _ (AW.st (by simp; rfl) ?_)); clear hK' K'; refine AW_ret ?_; simp [D.le, D.le.go, takeMap]; exact idx_any p xs
end Go.Proofs.YtagfbbnlbncjlaaGreatDoor
