/-
  Texts that belong together, in one file: Ty, F2.
-/
import Derived.Test.YtfehigldhedkgaaDoorEh4
import Derived.Test.YtfehigldhedkgaaDoorProg
/-
  What the types of this seat's translation are: closed facts, by program (wip/tools/gen_ty.py).
-/
namespace Go.Proofs.YtfehigldhedkgaaDoor
open Go.Av
@[simp] theorem ty0 : tyOf Tryd.prog 0 = some ⟨.tuple #[], 1, 0, .tuple #[]⟩ := by kernel_rfl
@[simp] theorem ty1 : tyOf Tryd.prog 1 = some ⟨.func #[] #[] false, 1, 8, .nilFunc⟩ := by kernel_rfl
@[simp] theorem ty2 : tyOf Tryd.prog 2 = some ⟨.int .i64, 1, 8, .int .i64 0⟩ := by kernel_rfl
@[simp] theorem ty3 : tyOf Tryd.prog 3 = some ⟨.int .i64, 1, 8, .int .i64 0⟩ := by kernel_rfl
@[simp] theorem ty4 : tyOf Tryd.prog 4 = some ⟨.bool, 1, 1, .bool false⟩ := by kernel_rfl
@[simp] theorem ty5 : tyOf Tryd.prog 5 = some ⟨.int .u8, 1, 1, .int .u8 0⟩ := by kernel_rfl
@[simp] theorem ty7 : tyOf Tryd.prog 7 = some ⟨.struct #[{ name := "x", type := 2, offset := 0, embedded := false, tag := "", pkgPath := "runtime", byteOffset := 0 }, { name := "y", type := 3, offset := 1, embedded := false, tag := "", pkgPath := "runtime", byteOffset := 8 }, { name := "signed", type := 4, offset := 2, embedded := false, tag := "", pkgPath := "runtime", byteOffset := 16 }, { name := "code", type := 6, offset := 3, embedded := false, tag := "", pkgPath := "runtime", byteOffset := 17 }], 4, 24, .agg #[.int .i64 0, .int .i64 0, .bool false, .int .u8 0]⟩ := by kernel_rfl
@[simp] theorem ty9 : tyOf Tryd.prog 9 = some ⟨.string, 1, 16, .string ⟨#[]⟩⟩ := by kernel_rfl
@[simp] theorem ty12 : tyOf Tryd.prog 12 = some ⟨.int .u64, 1, 8, .int .u64 0⟩ := by kernel_rfl
@[simp] theorem ty13 : tyOf Tryd.prog 13 = some ⟨.struct #[{ name := "msg", type := 9, offset := 0, embedded := false, tag := "", pkgPath := "runtime", byteOffset := 0 }, { name := "addr", type := 12, offset := 1, embedded := false, tag := "", pkgPath := "runtime", byteOffset := 16 }], 2, 24, .agg #[.string ⟨#[]⟩, .int .u64 0]⟩ := by kernel_rfl
@[simp] theorem ty15 : tyOf Tryd.prog 15 = some ⟨.pointer 238, 1, 8, .pointer none⟩ := by kernel_rfl
@[simp] theorem ty16 : tyOf Tryd.prog 16 = some ⟨.pointer 241, 1, 8, .pointer none⟩ := by kernel_rfl
@[simp] theorem ty17 : tyOf Tryd.prog 17 = some ⟨.pointer 249, 1, 8, .pointer none⟩ := by kernel_rfl
@[simp] theorem ty18 : tyOf Tryd.prog 18 = some ⟨.struct #[{ name := "typ", type := 17, offset := 0, embedded := false, tag := "", pkgPath := "internal/runtime/maps", byteOffset := 0 }], 1, 8, .agg #[.pointer none]⟩ := by kernel_rfl
@[simp] theorem ty20 : tyOf Tryd.prog 20 = some ⟨.interface #[], 1, 16, .nilIface⟩ := by kernel_rfl
@[simp] theorem ty21 : tyOf Tryd.prog 21 = some ⟨.int .i32, 1, 4, .int .i32 0⟩ := by kernel_rfl
@[simp] theorem ty22 : tyOf Tryd.prog 22 = some ⟨.slice 42, 1, 24, .slice none 0 0⟩ := by kernel_rfl
@[simp] theorem ty23 : tyOf Tryd.prog 23 = some ⟨.struct #[{ name := "Sections", type := 3, offset := 0, embedded := false, tag := "", pkgPath := "", byteOffset := 0 }, { name := "Points", type := 3, offset := 1, embedded := false, tag := "", pkgPath := "", byteOffset := 8 }, { name := "Routes", type := 22, offset := 2, embedded := false, tag := "", pkgPath := "", byteOffset := 16 }], 3, 40, .agg #[.int .i64 0, .int .i64 0, .slice none 0 0]⟩ := by kernel_rfl
@[simp] theorem ty24 : tyOf Tryd.prog 24 = some ⟨.struct #[{ name := "Sections", type := 3, offset := 0, embedded := false, tag := "", pkgPath := "", byteOffset := 0 }, { name := "Points", type := 3, offset := 1, embedded := false, tag := "", pkgPath := "", byteOffset := 8 }, { name := "Routes", type := 22, offset := 2, embedded := false, tag := "", pkgPath := "", byteOffset := 16 }], 3, 40, .agg #[.int .i64 0, .int .i64 0, .slice none 0 0]⟩ := by kernel_rfl
@[simp] theorem ty25 : tyOf Tryd.prog 25 = some ⟨.slice 45, 1, 24, .slice none 0 0⟩ := by kernel_rfl
@[simp] theorem ty26 : tyOf Tryd.prog 26 = some ⟨.struct #[{ name := "Sections", type := 3, offset := 0, embedded := false, tag := "", pkgPath := "", byteOffset := 0 }, { name := "Points", type := 3, offset := 1, embedded := false, tag := "", pkgPath := "", byteOffset := 8 }, { name := "Routes", type := 25, offset := 2, embedded := false, tag := "", pkgPath := "", byteOffset := 16 }], 3, 40, .agg #[.int .i64 0, .int .i64 0, .slice none 0 0]⟩ := by kernel_rfl
@[simp] theorem ty27 : tyOf Tryd.prog 27 = some ⟨.struct #[{ name := "Sections", type := 3, offset := 0, embedded := false, tag := "", pkgPath := "", byteOffset := 0 }, { name := "Points", type := 3, offset := 1, embedded := false, tag := "", pkgPath := "", byteOffset := 8 }, { name := "Routes", type := 25, offset := 2, embedded := false, tag := "", pkgPath := "", byteOffset := 16 }], 3, 40, .agg #[.int .i64 0, .int .i64 0, .slice none 0 0]⟩ := by kernel_rfl
@[simp] theorem ty28 : tyOf Tryd.prog 28 = some ⟨.tuple #[27, 4], 1, 0, .tuple #[.agg #[.int .i64 0, .int .i64 0, .slice none 0 0], .bool false]⟩ := by kernel_rfl
@[simp] theorem ty29 : tyOf Tryd.prog 29 = some ⟨.func #[24] #[27, 4] false, 1, 8, .nilFunc⟩ := by kernel_rfl
@[simp] theorem ty30 : tyOf Tryd.prog 30 = some ⟨.int .i64, 1, 8, .int .i64 0⟩ := by kernel_rfl
@[simp] theorem ty31 : tyOf Tryd.prog 31 = some ⟨.struct #[{ name := "Err", type := 30, offset := 0, embedded := false, tag := "", pkgPath := "", byteOffset := 0 }, { name := "Place", type := 3, offset := 1, embedded := false, tag := "", pkgPath := "", byteOffset := 8 }], 2, 16, .agg #[.int .i64 0, .int .i64 0]⟩ := by kernel_rfl
@[simp] theorem ty32 : tyOf Tryd.prog 32 = some ⟨.struct #[{ name := "Err", type := 30, offset := 0, embedded := false, tag := "", pkgPath := "", byteOffset := 0 }, { name := "Place", type := 3, offset := 1, embedded := false, tag := "", pkgPath := "", byteOffset := 8 }], 2, 16, .agg #[.int .i64 0, .int .i64 0]⟩ := by kernel_rfl
@[simp] theorem ty33 : tyOf Tryd.prog 33 = some ⟨.func #[27] #[32] false, 1, 8, .nilFunc⟩ := by kernel_rfl
@[simp] theorem ty34 : tyOf Tryd.prog 34 = some ⟨.func #[36, 32] #[4] false, 1, 8, .nilFunc⟩ := by kernel_rfl
@[simp] theorem ty35 : tyOf Tryd.prog 35 = some ⟨.interface #[("Error", 66)], 1, 16, .nilIface⟩ := by kernel_rfl
@[simp] theorem ty36 : tyOf Tryd.prog 36 = some ⟨.interface #[("Error", 66)], 1, 16, .nilIface⟩ := by kernel_rfl
@[simp] theorem ty37 : tyOf Tryd.prog 37 = some ⟨.func #[24] #[36] false, 1, 8, .nilFunc⟩ := by kernel_rfl
@[simp] theorem ty38 : tyOf Tryd.prog 38 = some ⟨.func #[42, 42] #[4] false, 1, 8, .nilFunc⟩ := by kernel_rfl
@[simp] theorem ty39 : tyOf Tryd.prog 39 = some ⟨.slice 3, 1, 24, .slice none 0 0⟩ := by kernel_rfl
@[simp] theorem ty40 : tyOf Tryd.prog 40 = some ⟨.slice 72, 1, 24, .slice none 0 0⟩ := by kernel_rfl
@[simp] theorem ty41 : tyOf Tryd.prog 41 = some ⟨.struct #[{ name := "Sections", type := 39, offset := 0, embedded := false, tag := "", pkgPath := "", byteOffset := 0 }, { name := "Points", type := 40, offset := 1, embedded := false, tag := "", pkgPath := "", byteOffset := 24 }], 2, 48, .agg #[.slice none 0 0, .slice none 0 0]⟩ := by kernel_rfl
@[simp] theorem ty42 : tyOf Tryd.prog 42 = some ⟨.struct #[{ name := "Sections", type := 39, offset := 0, embedded := false, tag := "", pkgPath := "", byteOffset := 0 }, { name := "Points", type := 40, offset := 1, embedded := false, tag := "", pkgPath := "", byteOffset := 24 }], 2, 48, .agg #[.slice none 0 0, .slice none 0 0]⟩ := by kernel_rfl
@[simp] theorem ty43 : tyOf Tryd.prog 43 = some ⟨.func #[45, 45] #[4] false, 1, 8, .nilFunc⟩ := by kernel_rfl
@[simp] theorem ty44 : tyOf Tryd.prog 44 = some ⟨.struct #[{ name := "Sections", type := 39, offset := 0, embedded := false, tag := "", pkgPath := "", byteOffset := 0 }, { name := "Points", type := 39, offset := 1, embedded := false, tag := "", pkgPath := "", byteOffset := 24 }], 2, 48, .agg #[.slice none 0 0, .slice none 0 0]⟩ := by kernel_rfl
@[simp] theorem ty45 : tyOf Tryd.prog 45 = some ⟨.struct #[{ name := "Sections", type := 39, offset := 0, embedded := false, tag := "", pkgPath := "", byteOffset := 0 }, { name := "Points", type := 39, offset := 1, embedded := false, tag := "", pkgPath := "", byteOffset := 24 }], 2, 48, .agg #[.slice none 0 0, .slice none 0 0]⟩ := by kernel_rfl
@[simp] theorem ty46 : tyOf Tryd.prog 46 = some ⟨.func #[24] #[9] false, 1, 8, .nilFunc⟩ := by kernel_rfl
@[simp] theorem ty47 : tyOf Tryd.prog 47 = some ⟨.func #[27] #[9] false, 1, 8, .nilFunc⟩ := by kernel_rfl
@[simp] theorem ty48 : tyOf Tryd.prog 48 = some ⟨.func #[24] #[4] false, 1, 8, .nilFunc⟩ := by kernel_rfl
@[simp] theorem ty49 : tyOf Tryd.prog 49 = some ⟨.slice 9, 1, 24, .slice none 0 0⟩ := by kernel_rfl
@[simp] theorem ty50 : tyOf Tryd.prog 50 = some ⟨.interface #[("Text", 66)], 1, 16, .nilIface⟩ := by kernel_rfl
@[simp] theorem ty51 : tyOf Tryd.prog 51 = some ⟨.interface #[("Text", 66)], 1, 16, .nilIface⟩ := by kernel_rfl
@[simp] theorem ty52 : tyOf Tryd.prog 52 = some ⟨.tuple #[51, 36], 1, 0, .tuple #[.nilIface, .nilIface]⟩ := by kernel_rfl
@[simp] theorem ty53 : tyOf Tryd.prog 53 = some ⟨.func #[9] #[51, 36] false, 1, 8, .nilFunc⟩ := by kernel_rfl
@[simp] theorem ty54 : tyOf Tryd.prog 54 = some ⟨.func #[] #[4] false, 1, 8, .nilFunc⟩ := by kernel_rfl
@[simp] theorem ty55 : tyOf Tryd.prog 55 = some ⟨.func #[51] #[9] false, 1, 8, .nilFunc⟩ := by kernel_rfl
@[simp] theorem ty56 : tyOf Tryd.prog 56 = some ⟨.func #[51] #[3] false, 1, 8, .nilFunc⟩ := by kernel_rfl
@[simp] theorem ty57 : tyOf Tryd.prog 57 = some ⟨.func #[51, 58, 58] #[4] false, 1, 8, .nilFunc⟩ := by kernel_rfl
@[simp] theorem ty58 : tyOf Tryd.prog 58 = some ⟨.func #[9] #[4] false, 1, 8, .nilFunc⟩ := by kernel_rfl
@[simp] theorem ty59 : tyOf Tryd.prog 59 = some ⟨.func #[49] #[58] false, 1, 8, .nilFunc⟩ := by kernel_rfl
@[simp] theorem ty60 : tyOf Tryd.prog 60 = some ⟨.func #[9, 49, 49] #[4] false, 1, 8, .nilFunc⟩ := by kernel_rfl
@[simp] theorem ty61 : tyOf Tryd.prog 61 = some ⟨.pointer 120, 1, 8, .pointer none⟩ := by kernel_rfl
@[simp] theorem ty62 : tyOf Tryd.prog 62 = some ⟨.tuple #[51, 61, 4], 1, 0, .tuple #[.nilIface, .pointer none, .bool false]⟩ := by kernel_rfl
@[simp] theorem ty63 : tyOf Tryd.prog 63 = some ⟨.func #[9] #[51, 61, 4] false, 1, 8, .nilFunc⟩ := by kernel_rfl
@[simp] theorem ty64 : tyOf Tryd.prog 64 = some ⟨.func #[51] #[51] false, 1, 8, .nilFunc⟩ := by kernel_rfl
@[simp] theorem ty65 : tyOf Tryd.prog 65 = some ⟨.func #[] #[61] false, 1, 8, .nilFunc⟩ := by kernel_rfl
@[simp] theorem ty66 : tyOf Tryd.prog 66 = some ⟨.func #[] #[9] false, 1, 8, .nilFunc⟩ := by kernel_rfl
@[simp] theorem ty67 : tyOf Tryd.prog 67 = some ⟨.tuple #[61, 32], 1, 0, .tuple #[.pointer none, .agg #[.int .i64 0, .int .i64 0]]⟩ := by kernel_rfl
@[simp] theorem ty68 : tyOf Tryd.prog 68 = some ⟨.func #[9] #[61, 32] false, 1, 8, .nilFunc⟩ := by kernel_rfl
@[simp] theorem ty69 : tyOf Tryd.prog 69 = some ⟨.func #[51] #[49] false, 1, 8, .nilFunc⟩ := by kernel_rfl
@[simp] theorem ty70 : tyOf Tryd.prog 70 = some ⟨.func #[9, 49, 49, 49] #[4] false, 1, 8, .nilFunc⟩ := by kernel_rfl
@[simp] theorem ty71 : tyOf Tryd.prog 71 = some ⟨.struct #[{ name := "Number", type := 3, offset := 0, embedded := false, tag := "", pkgPath := "", byteOffset := 0 }, { name := "Over", type := 4, offset := 1, embedded := false, tag := "", pkgPath := "", byteOffset := 8 }], 2, 16, .agg #[.int .i64 0, .bool false]⟩ := by kernel_rfl
@[simp] theorem ty72 : tyOf Tryd.prog 72 = some ⟨.struct #[{ name := "Number", type := 3, offset := 0, embedded := false, tag := "", pkgPath := "", byteOffset := 0 }, { name := "Over", type := 4, offset := 1, embedded := false, tag := "", pkgPath := "", byteOffset := 8 }], 2, 16, .agg #[.int .i64 0, .bool false]⟩ := by kernel_rfl
@[simp] theorem ty73 : tyOf Tryd.prog 73 = some ⟨.func #[3, 3, 3] #[4] false, 1, 8, .nilFunc⟩ := by kernel_rfl
@[simp] theorem ty74 : tyOf Tryd.prog 74 = some ⟨.func #[30] #[32] false, 1, 8, .nilFunc⟩ := by kernel_rfl
@[simp] theorem ty75 : tyOf Tryd.prog 75 = some ⟨.func #[3] #[3] false, 1, 8, .nilFunc⟩ := by kernel_rfl
@[simp] theorem ty76 : tyOf Tryd.prog 76 = some ⟨.tuple #[30, 3], 1, 0, .tuple #[.int .i64 0, .int .i64 0]⟩ := by kernel_rfl
@[simp] theorem ty77 : tyOf Tryd.prog 77 = some ⟨.func #[36] #[30, 3] false, 1, 8, .nilFunc⟩ := by kernel_rfl
@[simp] theorem ty78 : tyOf Tryd.prog 78 = some ⟨.func #[39, 79] #[4] false, 1, 8, .nilFunc⟩ := by kernel_rfl
@[simp] theorem ty79 : tyOf Tryd.prog 79 = some ⟨.func #[3] #[4] false, 1, 8, .nilFunc⟩ := by kernel_rfl
@[simp] theorem ty80 : tyOf Tryd.prog 80 = some ⟨.func #[40, 81] #[4] false, 1, 8, .nilFunc⟩ := by kernel_rfl
@[simp] theorem ty81 : tyOf Tryd.prog 81 = some ⟨.func #[72] #[4] false, 1, 8, .nilFunc⟩ := by kernel_rfl
@[simp] theorem ty82 : tyOf Tryd.prog 82 = some ⟨.func #[42] #[4] false, 1, 8, .nilFunc⟩ := by kernel_rfl
@[simp] theorem ty83 : tyOf Tryd.prog 83 = some ⟨.pointer 84, 1, 8, .pointer none⟩ := by kernel_rfl
@[simp] theorem ty84 : tyOf Tryd.prog 84 = some ⟨.struct #[{ name := "Err", type := 30, offset := 0, embedded := false, tag := "", pkgPath := "", byteOffset := 0 }, { name := "Place", type := 3, offset := 1, embedded := false, tag := "", pkgPath := "", byteOffset := 8 }], 2, 16, .agg #[.int .i64 0, .int .i64 0]⟩ := by kernel_rfl
@[simp] theorem ty85 : tyOf Tryd.prog 85 = some ⟨.func #[39, 3] #[4] false, 1, 8, .nilFunc⟩ := by kernel_rfl
@[simp] theorem ty86 : tyOf Tryd.prog 86 = some ⟨.func #[40, 72] #[4] false, 1, 8, .nilFunc⟩ := by kernel_rfl
@[simp] theorem ty87 : tyOf Tryd.prog 87 = some ⟨.pointer 90, 1, 8, .pointer none⟩ := by kernel_rfl
@[simp] theorem ty88 : tyOf Tryd.prog 88 = some ⟨.slice 5, 1, 24, .slice none 0 0⟩ := by kernel_rfl
@[simp] theorem ty89 : tyOf Tryd.prog 89 = some ⟨.struct #[{ name := "addr", type := 87, offset := 0, embedded := false, tag := "", pkgPath := "strings", byteOffset := 0 }, { name := "buf", type := 88, offset := 1, embedded := false, tag := "", pkgPath := "strings", byteOffset := 8 }], 2, 32, .agg #[.pointer none, .slice none 0 0]⟩ := by kernel_rfl
@[simp] theorem ty90 : tyOf Tryd.prog 90 = some ⟨.struct #[{ name := "addr", type := 87, offset := 0, embedded := false, tag := "", pkgPath := "strings", byteOffset := 0 }, { name := "buf", type := 88, offset := 1, embedded := false, tag := "", pkgPath := "strings", byteOffset := 8 }], 2, 32, .agg #[.pointer none, .slice none 0 0]⟩ := by kernel_rfl
@[simp] theorem ty91 : tyOf Tryd.prog 91 = some ⟨.tuple #[3, 36], 1, 0, .tuple #[.int .i64 0, .nilIface]⟩ := by kernel_rfl
@[simp] theorem ty92 : tyOf Tryd.prog 92 = some ⟨.func #[9] #[3, 36] false, 1, 8, .nilFunc⟩ := by kernel_rfl
@[simp] theorem ty93 : tyOf Tryd.prog 93 = some ⟨.func #[3] #[9] false, 1, 8, .nilFunc⟩ := by kernel_rfl
@[simp] theorem ty94 : tyOf Tryd.prog 94 = some ⟨.map 4 9, 1, 8, .map none⟩ := by kernel_rfl
@[simp] theorem ty95 : tyOf Tryd.prog 95 = some ⟨.func #[5] #[36] false, 1, 8, .nilFunc⟩ := by kernel_rfl
@[simp] theorem ty96 : tyOf Tryd.prog 96 = some ⟨.func #[39] #[9] true, 1, 8, .nilFunc⟩ := by kernel_rfl
@[simp] theorem ty97 : tyOf Tryd.prog 97 = some ⟨.pointer 99, 1, 8, .pointer none⟩ := by kernel_rfl
@[simp] theorem ty98 : tyOf Tryd.prog 98 = some ⟨.struct #[{ name := "text", type := 9, offset := 0, embedded := false, tag := "", pkgPath := "signalcabin/expr", byteOffset := 0 }, { name := "at", type := 3, offset := 1, embedded := false, tag := "", pkgPath := "signalcabin/expr", byteOffset := 16 }], 2, 24, .agg #[.string ⟨#[]⟩, .int .i64 0]⟩ := by kernel_rfl
@[simp] theorem ty99 : tyOf Tryd.prog 99 = some ⟨.struct #[{ name := "text", type := 9, offset := 0, embedded := false, tag := "", pkgPath := "signalcabin/expr", byteOffset := 0 }, { name := "at", type := 3, offset := 1, embedded := false, tag := "", pkgPath := "signalcabin/expr", byteOffset := 16 }], 2, 24, .agg #[.string ⟨#[]⟩, .int .i64 0]⟩ := by kernel_rfl
@[simp] theorem ty100 : tyOf Tryd.prog 100 = some ⟨.func #[3] #[51, 36] false, 1, 8, .nilFunc⟩ := by kernel_rfl
@[simp] theorem ty101 : tyOf Tryd.prog 101 = some ⟨.func #[30] #[36] false, 1, 8, .nilFunc⟩ := by kernel_rfl
@[simp] theorem ty102 : tyOf Tryd.prog 102 = some ⟨.func #[51, 103] #[] false, 1, 8, .nilFunc⟩ := by kernel_rfl
@[simp] theorem ty103 : tyOf Tryd.prog 103 = some ⟨.func #[51] #[] false, 1, 8, .nilFunc⟩ := by kernel_rfl
@[simp] theorem ty104 : tyOf Tryd.prog 104 = some ⟨.bool, 1, 1, .bool false⟩ := by kernel_rfl
@[simp] theorem ty105 : tyOf Tryd.prog 105 = some ⟨.string, 1, 16, .string ⟨#[]⟩⟩ := by kernel_rfl
@[simp] theorem ty106 : tyOf Tryd.prog 106 = some ⟨.string, 1, 16, .string ⟨#[]⟩⟩ := by kernel_rfl
@[simp] theorem ty107 : tyOf Tryd.prog 107 = some ⟨.string, 1, 16, .string ⟨#[]⟩⟩ := by kernel_rfl
@[simp] theorem ty108 : tyOf Tryd.prog 108 = some ⟨.struct #[{ name := "Of", type := 51, offset := 0, embedded := false, tag := "", pkgPath := "", byteOffset := 0 }], 1, 16, .agg #[.nilIface]⟩ := by kernel_rfl
@[simp] theorem ty109 : tyOf Tryd.prog 109 = some ⟨.struct #[{ name := "Of", type := 51, offset := 0, embedded := false, tag := "", pkgPath := "", byteOffset := 0 }], 1, 16, .agg #[.nilIface]⟩ := by kernel_rfl
@[simp] theorem ty110 : tyOf Tryd.prog 110 = some ⟨.slice 51, 1, 24, .slice none 0 0⟩ := by kernel_rfl
@[simp] theorem ty111 : tyOf Tryd.prog 111 = some ⟨.slice 51, 1, 24, .slice none 0 0⟩ := by kernel_rfl
@[simp] theorem ty112 : tyOf Tryd.prog 112 = some ⟨.func #[111, 113] #[4] false, 1, 8, .nilFunc⟩ := by kernel_rfl
@[simp] theorem ty113 : tyOf Tryd.prog 113 = some ⟨.func #[51] #[4] false, 1, 8, .nilFunc⟩ := by kernel_rfl
@[simp] theorem ty114 : tyOf Tryd.prog 114 = some ⟨.slice 51, 1, 24, .slice none 0 0⟩ := by kernel_rfl
@[simp] theorem ty115 : tyOf Tryd.prog 115 = some ⟨.func #[114, 113] #[4] false, 1, 8, .nilFunc⟩ := by kernel_rfl
@[simp] theorem ty116 : tyOf Tryd.prog 116 = some ⟨.tuple #[110, 4], 1, 0, .tuple #[.slice none 0 0, .bool false]⟩ := by kernel_rfl
@[simp] theorem ty117 : tyOf Tryd.prog 117 = some ⟨.func #[110, 4] #[110, 4] false, 1, 8, .nilFunc⟩ := by kernel_rfl
@[simp] theorem ty118 : tyOf Tryd.prog 118 = some ⟨.slice 61, 1, 24, .slice none 0 0⟩ := by kernel_rfl
@[simp] theorem ty119 : tyOf Tryd.prog 119 = some ⟨.struct #[{ name := "Kind", type := 9, offset := 0, embedded := false, tag := "", pkgPath := "", byteOffset := 0 }, { name := "Name", type := 9, offset := 1, embedded := false, tag := "", pkgPath := "", byteOffset := 16 }, { name := "Of", type := 118, offset := 2, embedded := false, tag := "", pkgPath := "", byteOffset := 32 }], 3, 56, .agg #[.string ⟨#[]⟩, .string ⟨#[]⟩, .slice none 0 0]⟩ := by kernel_rfl
@[simp] theorem ty120 : tyOf Tryd.prog 120 = some ⟨.struct #[{ name := "Kind", type := 9, offset := 0, embedded := false, tag := "", pkgPath := "", byteOffset := 0 }, { name := "Name", type := 9, offset := 1, embedded := false, tag := "", pkgPath := "", byteOffset := 16 }, { name := "Of", type := 118, offset := 2, embedded := false, tag := "", pkgPath := "", byteOffset := 32 }], 3, 56, .agg #[.string ⟨#[]⟩, .string ⟨#[]⟩, .slice none 0 0]⟩ := by kernel_rfl
@[simp] theorem ty121 : tyOf Tryd.prog 121 = some ⟨.func #[49, 9] #[9] false, 1, 8, .nilFunc⟩ := by kernel_rfl
@[simp] theorem ty122 : tyOf Tryd.prog 122 = some ⟨.pointer 124, 1, 8, .pointer none⟩ := by kernel_rfl
@[simp] theorem ty123 : tyOf Tryd.prog 123 = some ⟨.struct #[{ name := "s", type := 9, offset := 0, embedded := false, tag := "", pkgPath := "signalcabin/signalcabinref", byteOffset := 0 }, { name := "i", type := 3, offset := 1, embedded := false, tag := "", pkgPath := "signalcabin/signalcabinref", byteOffset := 16 }, { name := "f", type := 32, offset := 2, embedded := false, tag := "", pkgPath := "signalcabin/signalcabinref", byteOffset := 24 }], 4, 40, .agg #[.string ⟨#[]⟩, .int .i64 0, .int .i64 0, .int .i64 0]⟩ := by kernel_rfl
@[simp] theorem ty124 : tyOf Tryd.prog 124 = some ⟨.struct #[{ name := "s", type := 9, offset := 0, embedded := false, tag := "", pkgPath := "signalcabin/signalcabinref", byteOffset := 0 }, { name := "i", type := 3, offset := 1, embedded := false, tag := "", pkgPath := "signalcabin/signalcabinref", byteOffset := 16 }, { name := "f", type := 32, offset := 2, embedded := false, tag := "", pkgPath := "signalcabin/signalcabinref", byteOffset := 24 }], 4, 40, .agg #[.string ⟨#[]⟩, .int .i64 0, .int .i64 0, .int .i64 0]⟩ := by kernel_rfl
@[simp] theorem ty125 : tyOf Tryd.prog 125 = some ⟨.func #[3] #[61] false, 1, 8, .nilFunc⟩ := by kernel_rfl
@[simp] theorem ty126 : tyOf Tryd.prog 126 = some ⟨.func #[] #[5] false, 1, 8, .nilFunc⟩ := by kernel_rfl
@[simp] theorem ty127 : tyOf Tryd.prog 127 = some ⟨.func #[30] #[61] false, 1, 8, .nilFunc⟩ := by kernel_rfl
@[simp] theorem ty128 : tyOf Tryd.prog 128 = some ⟨.func #[51, 55] #[49] false, 1, 8, .nilFunc⟩ := by kernel_rfl
@[simp] theorem ty129 : tyOf Tryd.prog 129 = some ⟨.func #[36] #[30] false, 1, 8, .nilFunc⟩ := by kernel_rfl
@[simp] theorem ty130 : tyOf Tryd.prog 130 = some ⟨.tuple #[83, 4], 1, 0, .tuple #[.pointer none, .bool false]⟩ := by kernel_rfl
@[simp] theorem ty131 : tyOf Tryd.prog 131 = some ⟨.interface #[("Unwrap", 133)], 1, 16, .nilIface⟩ := by kernel_rfl
@[simp] theorem ty132 : tyOf Tryd.prog 132 = some ⟨.tuple #[131, 4], 1, 0, .tuple #[.nilIface, .bool false]⟩ := by kernel_rfl
@[simp] theorem ty133 : tyOf Tryd.prog 133 = some ⟨.func #[] #[36] false, 1, 8, .nilFunc⟩ := by kernel_rfl
@[simp] theorem ty134 : tyOf Tryd.prog 134 = some ⟨.func #[39, 79] #[3] false, 1, 8, .nilFunc⟩ := by kernel_rfl
@[simp] theorem ty135 : tyOf Tryd.prog 135 = some ⟨.func #[40, 81] #[3] false, 1, 8, .nilFunc⟩ := by kernel_rfl
@[simp] theorem ty136 : tyOf Tryd.prog 136 = some ⟨.func #[39, 3] #[3] false, 1, 8, .nilFunc⟩ := by kernel_rfl
@[simp] theorem ty137 : tyOf Tryd.prog 137 = some ⟨.func #[40, 72] #[3] false, 1, 8, .nilFunc⟩ := by kernel_rfl
@[simp] theorem ty138 : tyOf Tryd.prog 138 = some ⟨.pointer 5, 1, 8, .pointer none⟩ := by kernel_rfl
@[simp] theorem ty139 : tyOf Tryd.prog 139 = some ⟨.tuple #[110, 36], 1, 0, .tuple #[.slice none 0 0, .nilIface]⟩ := by kernel_rfl
@[simp] theorem ty140 : tyOf Tryd.prog 140 = some ⟨.func #[5, 3, 100] #[110, 36] false, 1, 8, .nilFunc⟩ := by kernel_rfl
@[simp] theorem ty141 : tyOf Tryd.prog 141 = some ⟨.func #[111, 113] #[3] false, 1, 8, .nilFunc⟩ := by kernel_rfl
@[simp] theorem ty142 : tyOf Tryd.prog 142 = some ⟨.func #[114, 113] #[3] false, 1, 8, .nilFunc⟩ := by kernel_rfl
@[simp] theorem ty143 : tyOf Tryd.prog 143 = some ⟨.func #[49, 9] #[4] false, 1, 8, .nilFunc⟩ := by kernel_rfl
@[simp] theorem ty144 : tyOf Tryd.prog 144 = some ⟨.tuple #[109, 4], 1, 0, .tuple #[.agg #[.nilIface], .bool false]⟩ := by kernel_rfl
@[simp] theorem ty145 : tyOf Tryd.prog 145 = some ⟨.func #[110, 113] #[4] false, 1, 8, .nilFunc⟩ := by kernel_rfl
@[simp] theorem ty146 : tyOf Tryd.prog 146 = some ⟨.func #[3] #[] false, 1, 8, .nilFunc⟩ := by kernel_rfl
@[simp] theorem ty147 : tyOf Tryd.prog 147 = some ⟨.func #[5, 3, 125] #[61] false, 1, 8, .nilFunc⟩ := by kernel_rfl
@[simp] theorem ty148 : tyOf Tryd.prog 148 = some ⟨.func #[49] #[] false, 1, 8, .nilFunc⟩ := by kernel_rfl
@[simp] theorem ty149 : tyOf Tryd.prog 149 = some ⟨.func #[49] #[49] false, 1, 8, .nilFunc⟩ := by kernel_rfl
@[simp] theorem ty150 : tyOf Tryd.prog 150 = some ⟨.func #[36, 20] #[4] false, 1, 8, .nilFunc⟩ := by kernel_rfl
@[simp] theorem ty151 : tyOf Tryd.prog 151 = some ⟨.pointer 30, 1, 8, .pointer none⟩ := by kernel_rfl
@[simp] theorem ty153 : tyOf Tryd.prog 153 = some ⟨.func #[152] #[152] false, 1, 8, .nilFunc⟩ := by kernel_rfl
@[simp] theorem ty154 : tyOf Tryd.prog 154 = some ⟨.func #[2, 3] #[9] false, 1, 8, .nilFunc⟩ := by kernel_rfl
@[simp] theorem ty155 : tyOf Tryd.prog 155 = some ⟨.func #[5] #[4] false, 1, 8, .nilFunc⟩ := by kernel_rfl
@[simp] theorem ty156 : tyOf Tryd.prog 156 = some ⟨.func #[49, 9] #[3] false, 1, 8, .nilFunc⟩ := by kernel_rfl
@[simp] theorem ty157 : tyOf Tryd.prog 157 = some ⟨.func #[110, 113] #[3] false, 1, 8, .nilFunc⟩ := by kernel_rfl
@[simp] theorem ty158 : tyOf Tryd.prog 158 = some ⟨.func #[49, 3, 3, 3] #[] false, 1, 8, .nilFunc⟩ := by kernel_rfl
@[simp] theorem ty159 : tyOf Tryd.prog 159 = some ⟨.func #[160] #[3] false, 1, 8, .nilFunc⟩ := by kernel_rfl
@[simp] theorem ty160 : tyOf Tryd.prog 160 = some ⟨.int .u64, 1, 8, .int .u64 0⟩ := by kernel_rfl
@[simp] theorem ty162 : tyOf Tryd.prog 162 = some ⟨.struct #[{ name := "typ_", type := 17, offset := 0, embedded := false, tag := "", pkgPath := "internal/reflectlite", byteOffset := 0 }, { name := "ptr", type := 152, offset := 1, embedded := false, tag := "", pkgPath := "internal/reflectlite", byteOffset := 8 }, { name := "flag", type := 161, offset := 2, embedded := true, tag := "", pkgPath := "internal/reflectlite", byteOffset := 16 }], 3, 24, .agg #[.pointer none, .pointer none, .int .u64 0]⟩ := by kernel_rfl
@[simp] theorem ty164 : tyOf Tryd.prog 164 = some ⟨.func #[20] #[163] false, 1, 8, .nilFunc⟩ := by kernel_rfl
@[simp] theorem ty165 : tyOf Tryd.prog 165 = some ⟨.interface #[("AssignableTo", 170), ("Comparable", 54), ("Elem", 167), ("Implements", 170), ("Kind", 169), ("Name", 66), ("PkgPath", 66), ("Size", 252), ("String", 66), ("internal/reflectlite.common", 243), ("internal/reflectlite.uncommon", 253)], 1, 16, .nilIface⟩ := by kernel_rfl
@[simp] theorem ty167 : tyOf Tryd.prog 167 = some ⟨.func #[] #[166] false, 1, 8, .nilFunc⟩ := by kernel_rfl
@[simp] theorem ty169 : tyOf Tryd.prog 169 = some ⟨.func #[] #[168] false, 1, 8, .nilFunc⟩ := by kernel_rfl
@[simp] theorem ty170 : tyOf Tryd.prog 170 = some ⟨.func #[166] #[4] false, 1, 8, .nilFunc⟩ := by kernel_rfl
@[simp] theorem ty171 : tyOf Tryd.prog 171 = some ⟨.func #[36, 20, 163, 166] #[4] false, 1, 8, .nilFunc⟩ := by kernel_rfl
@[simp] theorem ty172 : tyOf Tryd.prog 172 = some ⟨.array 24 5, 24, 24, .agg #[.int .u8 0, .int .u8 0, .int .u8 0, .int .u8 0, .int .u8 0, .int .u8 0, .int .u8 0, .int .u8 0, .int .u8 0, .int .u8 0, .int .u8 0, .int .u8 0, .int .u8 0, .int .u8 0, .int .u8 0, .int .u8 0, .int .u8 0, .int .u8 0, .int .u8 0, .int .u8 0, .int .u8 0, .int .u8 0, .int .u8 0, .int .u8 0]⟩ := by kernel_rfl
@[simp] theorem ty173 : tyOf Tryd.prog 173 = some ⟨.int .u64, 1, 8, .int .u64 0⟩ := by kernel_rfl
@[simp] theorem ty174 : tyOf Tryd.prog 174 = some ⟨.func #[173] #[3] false, 1, 8, .nilFunc⟩ := by kernel_rfl
@[simp] theorem ty175 : tyOf Tryd.prog 175 = some ⟨.func #[88, 173] #[] false, 1, 8, .nilFunc⟩ := by kernel_rfl
@[simp] theorem ty176 : tyOf Tryd.prog 176 = some ⟨.tuple #[88, 9], 1, 0, .tuple #[.slice none 0 0, .string ⟨#[]⟩]⟩ := by kernel_rfl
@[simp] theorem ty177 : tyOf Tryd.prog 177 = some ⟨.func #[88, 173, 3, 4, 4] #[88, 9] false, 1, 8, .nilFunc⟩ := by kernel_rfl
@[simp] theorem ty178 : tyOf Tryd.prog 178 = some ⟨.tuple #[9, 36], 1, 0, .tuple #[.string ⟨#[]⟩, .nilIface]⟩ := by kernel_rfl
@[simp] theorem ty179 : tyOf Tryd.prog 179 = some ⟨.func #[] #[9, 36] false, 1, 8, .nilFunc⟩ := by kernel_rfl
@[simp] theorem ty180 : tyOf Tryd.prog 180 = some ⟨.func #[3] #[88] false, 1, 8, .nilFunc⟩ := by kernel_rfl
@[simp] theorem ty181 : tyOf Tryd.prog 181 = some ⟨.func #[9, 21] #[4] false, 1, 8, .nilFunc⟩ := by kernel_rfl
@[simp] theorem ty182 : tyOf Tryd.prog 182 = some ⟨.func #[49, 3, 3] #[] false, 1, 8, .nilFunc⟩ := by kernel_rfl
@[simp] theorem ty183 : tyOf Tryd.prog 183 = some ⟨.int .i64, 1, 8, .int .i64 0⟩ := by kernel_rfl
@[simp] theorem ty184 : tyOf Tryd.prog 184 = some ⟨.tuple #[3, 183], 1, 0, .tuple #[.int .i64 0, .int .i64 0]⟩ := by kernel_rfl
@[simp] theorem ty185 : tyOf Tryd.prog 185 = some ⟨.func #[49, 3, 3] #[3, 183] false, 1, 8, .nilFunc⟩ := by kernel_rfl
@[simp] theorem ty186 : tyOf Tryd.prog 186 = some ⟨.func #[49, 3, 3] #[4] false, 1, 8, .nilFunc⟩ := by kernel_rfl
@[simp] theorem ty187 : tyOf Tryd.prog 187 = some ⟨.func #[9, 9] #[4] false, 1, 8, .nilFunc⟩ := by kernel_rfl
@[simp] theorem ty188 : tyOf Tryd.prog 188 = some ⟨.func #[49, 3, 3, 3] #[3] false, 1, 8, .nilFunc⟩ := by kernel_rfl
@[simp] theorem ty189 : tyOf Tryd.prog 189 = some ⟨.tuple #[3, 4], 1, 0, .tuple #[.int .i64 0, .bool false]⟩ := by kernel_rfl
@[simp] theorem ty190 : tyOf Tryd.prog 190 = some ⟨.func #[49, 3, 3, 3] #[3, 4] false, 1, 8, .nilFunc⟩ := by kernel_rfl
@[simp] theorem ty191 : tyOf Tryd.prog 191 = some ⟨.func #[192] #[3] false, 1, 8, .nilFunc⟩ := by kernel_rfl
@[simp] theorem ty192 : tyOf Tryd.prog 192 = some ⟨.int .u32, 1, 4, .int .u32 0⟩ := by kernel_rfl
@[simp] theorem ty193 : tyOf Tryd.prog 193 = some ⟨.struct #[{ name := "Type", type := 17, offset := 0, embedded := true, tag := "", pkgPath := "", byteOffset := 0 }], 1, 8, .agg #[.pointer none]⟩ := by kernel_rfl
@[simp] theorem ty195 : tyOf Tryd.prog 195 = some ⟨.pointer 255, 1, 8, .pointer none⟩ := by kernel_rfl
@[simp] theorem ty196 : tyOf Tryd.prog 196 = some ⟨.func #[20] #[166] false, 1, 8, .nilFunc⟩ := by kernel_rfl
@[simp] theorem ty197 : tyOf Tryd.prog 197 = some ⟨.func #[] #[163] false, 1, 8, .nilFunc⟩ := by kernel_rfl
@[simp] theorem ty198 : tyOf Tryd.prog 198 = some ⟨.func #[163] #[] false, 1, 8, .nilFunc⟩ := by kernel_rfl
@[simp] theorem ty199 : tyOf Tryd.prog 199 = some ⟨.interface #[("As", 201)], 1, 16, .nilIface⟩ := by kernel_rfl
@[simp] theorem ty200 : tyOf Tryd.prog 200 = some ⟨.tuple #[199, 4], 1, 0, .tuple #[.nilIface, .bool false]⟩ := by kernel_rfl
@[simp] theorem ty201 : tyOf Tryd.prog 201 = some ⟨.func #[20] #[4] false, 1, 8, .nilFunc⟩ := by kernel_rfl
@[simp] theorem ty202 : tyOf Tryd.prog 202 = some ⟨.interface #[("Unwrap", 204)], 1, 16, .nilIface⟩ := by kernel_rfl
@[simp] theorem ty203 : tyOf Tryd.prog 203 = some ⟨.slice 36, 1, 24, .slice none 0 0⟩ := by kernel_rfl
@[simp] theorem ty204 : tyOf Tryd.prog 204 = some ⟨.func #[] #[203] false, 1, 8, .nilFunc⟩ := by kernel_rfl
@[simp] theorem ty205 : tyOf Tryd.prog 205 = some ⟨.func #[4] #[3] false, 1, 8, .nilFunc⟩ := by kernel_rfl
@[simp] theorem ty206 : tyOf Tryd.prog 206 = some ⟨.array 20 173, 20, 160, .agg #[.int .u64 0, .int .u64 0, .int .u64 0, .int .u64 0, .int .u64 0, .int .u64 0, .int .u64 0, .int .u64 0, .int .u64 0, .int .u64 0, .int .u64 0, .int .u64 0, .int .u64 0, .int .u64 0, .int .u64 0, .int .u64 0, .int .u64 0, .int .u64 0, .int .u64 0, .int .u64 0]⟩ := by kernel_rfl
@[simp] theorem ty208 : tyOf Tryd.prog 208 = some ⟨.func #[9, 5] #[3] false, 1, 8, .nilFunc⟩ := by kernel_rfl
@[simp] theorem ty209 : tyOf Tryd.prog 209 = some ⟨.func #[9, 21] #[3] false, 1, 8, .nilFunc⟩ := by kernel_rfl
@[simp] theorem ty210 : tyOf Tryd.prog 210 = some ⟨.int .u64, 1, 8, .int .u64 0⟩ := by kernel_rfl
@[simp] theorem ty211 : tyOf Tryd.prog 211 = some ⟨.func #[3] #[160] false, 1, 8, .nilFunc⟩ := by kernel_rfl
@[simp] theorem ty212 : tyOf Tryd.prog 212 = some ⟨.func #[] #[173] false, 1, 8, .nilFunc⟩ := by kernel_rfl
@[simp] theorem ty213 : tyOf Tryd.prog 213 = some ⟨.func #[49, 3, 214] #[3] false, 1, 8, .nilFunc⟩ := by kernel_rfl
@[simp] theorem ty214 : tyOf Tryd.prog 214 = some ⟨.pointer 3, 1, 8, .pointer none⟩ := by kernel_rfl
@[simp] theorem ty215 : tyOf Tryd.prog 215 = some ⟨.func #[49, 3, 3, 3, 214] #[3] false, 1, 8, .nilFunc⟩ := by kernel_rfl
@[simp] theorem ty216 : tyOf Tryd.prog 216 = some ⟨.func #[9, 9] #[9] false, 1, 8, .nilFunc⟩ := by kernel_rfl
@[simp] theorem ty217 : tyOf Tryd.prog 217 = some ⟨.func #[21] #[4] false, 1, 8, .nilFunc⟩ := by kernel_rfl
@[simp] theorem ty218 : tyOf Tryd.prog 218 = some ⟨.func #[9, 9] #[3] false, 1, 8, .nilFunc⟩ := by kernel_rfl
@[simp] theorem ty219 : tyOf Tryd.prog 219 = some ⟨.pointer 210, 1, 8, .pointer none⟩ := by kernel_rfl
@[simp] theorem ty220 : tyOf Tryd.prog 220 = some ⟨.tuple #[3, 3], 1, 0, .tuple #[.int .i64 0, .int .i64 0]⟩ := by kernel_rfl
@[simp] theorem ty221 : tyOf Tryd.prog 221 = some ⟨.func #[49, 3, 3, 214] #[3, 3] false, 1, 8, .nilFunc⟩ := by kernel_rfl
@[simp] theorem ty222 : tyOf Tryd.prog 222 = some ⟨.array 32 5, 32, 32, .agg #[.int .u8 0, .int .u8 0, .int .u8 0, .int .u8 0, .int .u8 0, .int .u8 0, .int .u8 0, .int .u8 0, .int .u8 0, .int .u8 0, .int .u8 0, .int .u8 0, .int .u8 0, .int .u8 0, .int .u8 0, .int .u8 0, .int .u8 0, .int .u8 0, .int .u8 0, .int .u8 0, .int .u8 0, .int .u8 0, .int .u8 0, .int .u8 0, .int .u8 0, .int .u8 0, .int .u8 0, .int .u8 0, .int .u8 0, .int .u8 0, .int .u8 0, .int .u8 0]⟩ := by kernel_rfl
@[simp] theorem ty224 : tyOf Tryd.prog 224 = some ⟨.func #[9, 5] #[9] false, 1, 8, .nilFunc⟩ := by kernel_rfl
@[simp] theorem ty227 : tyOf Tryd.prog 227 = some ⟨.tuple #[226, 4], 1, 0, .tuple #[.agg #[.bool false, .bool false, .bool false, .bool false, .bool false, .bool false, .bool false, .bool false, .bool false, .bool false, .bool false, .bool false, .bool false, .bool false, .bool false, .bool false, .bool false, .bool false, .bool false, .bool false, .bool false, .bool false, .bool false, .bool false, .bool false, .bool false, .bool false, .bool false, .bool false, .bool false, .bool false, .bool false, .bool false, .bool false, .bool false, .bool false, .bool false, .bool false, .bool false, .bool false, .bool false, .bool false, .bool false, .bool false, .bool false, .bool false, .bool false, .bool false, .bool false, .bool false, .bool false, .bool false, .bool false, .bool false, .bool false, .bool false, .bool false, .bool false, .bool false, .bool false, .bool false, .bool false, .bool false, .bool false, .bool false, .bool false, .bool false, .bool false, .bool false, .bool false, .bool false, .bool false, .bool false, .bool false, .bool false, .bool false, .bool false, .bool false, .bool false, .bool false, .bool false, .bool false, .bool false, .bool false, .bool false, .bool false, .bool false, .bool false, .bool false, .bool false, .bool false, .bool false, .bool false, .bool false, .bool false, .bool false, .bool false, .bool false, .bool false, .bool false, .bool false, .bool false, .bool false, .bool false, .bool false, .bool false, .bool false, .bool false, .bool false, .bool false, .bool false, .bool false, .bool false, .bool false, .bool false, .bool false, .bool false, .bool false, .bool false, .bool false, .bool false, .bool false, .bool false, .bool false, .bool false, .bool false, .bool false, .bool false, .bool false, .bool false, .bool false, .bool false, .bool false, .bool false, .bool false, .bool false, .bool false, .bool false, .bool false, .bool false, .bool false, .bool false, .bool false, .bool false, .bool false, .bool false, .bool false, .bool false, .bool false, .bool false, .bool false, .bool false, .bool false, .bool false, .bool false, .bool false, .bool false, .bool false, .bool false, .bool false, .bool false, .bool false, .bool false, .bool false, .bool false, .bool false, .bool false, .bool false, .bool false, .bool false, .bool false, .bool false, .bool false, .bool false, .bool false, .bool false, .bool false, .bool false, .bool false, .bool false, .bool false, .bool false, .bool false, .bool false, .bool false, .bool false, .bool false, .bool false, .bool false, .bool false, .bool false, .bool false, .bool false, .bool false, .bool false, .bool false, .bool false, .bool false, .bool false, .bool false, .bool false, .bool false, .bool false, .bool false, .bool false, .bool false, .bool false, .bool false, .bool false, .bool false, .bool false, .bool false, .bool false, .bool false, .bool false, .bool false, .bool false, .bool false, .bool false, .bool false, .bool false, .bool false, .bool false, .bool false, .bool false, .bool false, .bool false, .bool false, .bool false, .bool false, .bool false, .bool false, .bool false, .bool false, .bool false, .bool false, .bool false, .bool false, .bool false, .bool false, .bool false, .bool false, .bool false, .bool false, .bool false, .bool false, .bool false, .bool false, .bool false, .bool false, .bool false, .bool false, .bool false, .bool false, .bool false, .bool false], .bool false]⟩ := by kernel_rfl
@[simp] theorem ty228 : tyOf Tryd.prog 228 = some ⟨.func #[9] #[226, 4] false, 1, 8, .nilFunc⟩ := by kernel_rfl
@[simp] theorem ty229 : tyOf Tryd.prog 229 = some ⟨.func #[9, 230] #[9] false, 1, 8, .nilFunc⟩ := by kernel_rfl
@[simp] theorem ty230 : tyOf Tryd.prog 230 = some ⟨.pointer 226, 1, 8, .pointer none⟩ := by kernel_rfl
@[simp] theorem ty231 : tyOf Tryd.prog 231 = some ⟨.tuple #[21, 3], 1, 0, .tuple #[.int .i32 0, .int .i64 0]⟩ := by kernel_rfl
@[simp] theorem ty232 : tyOf Tryd.prog 232 = some ⟨.func #[9] #[21, 3] false, 1, 8, .nilFunc⟩ := by kernel_rfl
@[simp] theorem ty234 : tyOf Tryd.prog 234 = some ⟨.struct #[{ name := "lo", type := 5, offset := 0, embedded := false, tag := "", pkgPath := "unicode/utf8", byteOffset := 0 }, { name := "hi", type := 5, offset := 1, embedded := false, tag := "", pkgPath := "unicode/utf8", byteOffset := 1 }], 2, 2, .agg #[.int .u8 0, .int .u8 0]⟩ := by kernel_rfl
@[simp] theorem ty235 : tyOf Tryd.prog 235 = some ⟨.struct #[{ name := "lo", type := 5, offset := 0, embedded := false, tag := "", pkgPath := "unicode/utf8", byteOffset := 0 }, { name := "hi", type := 5, offset := 1, embedded := false, tag := "", pkgPath := "unicode/utf8", byteOffset := 1 }], 2, 2, .agg #[.int .u8 0, .int .u8 0]⟩ := by kernel_rfl
@[simp] theorem ty236 : tyOf Tryd.prog 236 = some ⟨.array 16 235, 32, 32, .agg #[.int .u8 0, .int .u8 0, .int .u8 0, .int .u8 0, .int .u8 0, .int .u8 0, .int .u8 0, .int .u8 0, .int .u8 0, .int .u8 0, .int .u8 0, .int .u8 0, .int .u8 0, .int .u8 0, .int .u8 0, .int .u8 0, .int .u8 0, .int .u8 0, .int .u8 0, .int .u8 0, .int .u8 0, .int .u8 0, .int .u8 0, .int .u8 0, .int .u8 0, .int .u8 0, .int .u8 0, .int .u8 0, .int .u8 0, .int .u8 0, .int .u8 0, .int .u8 0]⟩ := by kernel_rfl
@[simp] theorem ty237 : tyOf Tryd.prog 237 = some ⟨.struct #[{ name := "_interface", type := 17, offset := 0, embedded := false, tag := "", pkgPath := "runtime", byteOffset := 0 }, { name := "concrete", type := 17, offset := 1, embedded := false, tag := "", pkgPath := "runtime", byteOffset := 8 }, { name := "asserted", type := 17, offset := 2, embedded := false, tag := "", pkgPath := "runtime", byteOffset := 16 }, { name := "missingMethod", type := 9, offset := 3, embedded := false, tag := "", pkgPath := "runtime", byteOffset := 24 }], 4, 40, .agg #[.pointer none, .pointer none, .pointer none, .string ⟨#[]⟩]⟩ := by kernel_rfl
@[simp] theorem ty239 : tyOf Tryd.prog 239 = some ⟨.array 0 16, 0, 0, .agg #[]⟩ := by kernel_rfl
@[simp] theorem ty240 : tyOf Tryd.prog 240 = some ⟨.struct #[{ name := "_", type := 239, offset := 0, embedded := false, tag := "", pkgPath := "runtime", byteOffset := 0 }], 0, 0, .agg #[]⟩ := by kernel_rfl
@[simp] theorem ty242 : tyOf Tryd.prog 242 = some ⟨.func #[] #[3] false, 1, 8, .nilFunc⟩ := by kernel_rfl
@[simp] theorem ty243 : tyOf Tryd.prog 243 = some ⟨.func #[] #[17] false, 1, 8, .nilFunc⟩ := by kernel_rfl
@[simp] theorem ty245 : tyOf Tryd.prog 245 = some ⟨.func #[152, 152] #[4] false, 1, 8, .nilFunc⟩ := by kernel_rfl
@[simp] theorem ty248 : tyOf Tryd.prog 248 = some ⟨.struct #[{ name := "Size_", type := 12, offset := 0, embedded := false, tag := "", pkgPath := "", byteOffset := 0 }, { name := "PtrBytes", type := 12, offset := 1, embedded := false, tag := "", pkgPath := "", byteOffset := 8 }, { name := "Hash", type := 192, offset := 2, embedded := false, tag := "", pkgPath := "", byteOffset := 16 }, { name := "TFlag", type := 244, offset := 3, embedded := false, tag := "", pkgPath := "", byteOffset := 20 }, { name := "Align_", type := 5, offset := 4, embedded := false, tag := "", pkgPath := "", byteOffset := 21 }, { name := "FieldAlign_", type := 5, offset := 5, embedded := false, tag := "", pkgPath := "", byteOffset := 22 }, { name := "Kind_", type := 168, offset := 6, embedded := false, tag := "", pkgPath := "", byteOffset := 23 }, { name := "Equal", type := 245, offset := 7, embedded := false, tag := "", pkgPath := "", byteOffset := 24 }, { name := "GCData", type := 138, offset := 8, embedded := false, tag := "", pkgPath := "", byteOffset := 32 }, { name := "Str", type := 246, offset := 9, embedded := false, tag := "", pkgPath := "", byteOffset := 40 }, { name := "PtrToThis", type := 247, offset := 10, embedded := false, tag := "", pkgPath := "", byteOffset := 44 }], 11, 48, .agg #[.int .u64 0, .int .u64 0, .int .u32 0, .int .u8 0, .int .u8 0, .int .u8 0, .int .u8 0, .nilFunc, .pointer none, .int .i32 0, .int .i32 0]⟩ := by kernel_rfl
@[simp] theorem ty250 : tyOf Tryd.prog 250 = some ⟨.func #[51, 3] #[9] false, 1, 8, .nilFunc⟩ := by kernel_rfl
@[simp] theorem ty251 : tyOf Tryd.prog 251 = some ⟨.func #[110, 9, 3, 4] #[9] false, 1, 8, .nilFunc⟩ := by kernel_rfl
@[simp] theorem ty252 : tyOf Tryd.prog 252 = some ⟨.func #[] #[12] false, 1, 8, .nilFunc⟩ := by kernel_rfl
@[simp] theorem ty253 : tyOf Tryd.prog 253 = some ⟨.func #[] #[256] false, 1, 8, .nilFunc⟩ := by kernel_rfl
@[simp] theorem ty254 : tyOf Tryd.prog 254 = some ⟨.struct #[{ name := "Method", type := 9, offset := 0, embedded := false, tag := "", pkgPath := "", byteOffset := 0 }, { name := "Kind", type := 168, offset := 1, embedded := false, tag := "", pkgPath := "", byteOffset := 16 }], 2, 24, .agg #[.string ⟨#[]⟩, .int .u8 0]⟩ := by kernel_rfl
@[simp] theorem ty256 : tyOf Tryd.prog 256 = some ⟨.pointer 260, 1, 8, .pointer none⟩ := by kernel_rfl
@[simp] theorem ty257 : tyOf Tryd.prog 257 = some ⟨.func #[] #[261] false, 1, 8, .nilFunc⟩ := by kernel_rfl
@[simp] theorem ty258 : tyOf Tryd.prog 258 = some ⟨.int .u16, 1, 2, .int .u16 0⟩ := by kernel_rfl
@[simp] theorem ty259 : tyOf Tryd.prog 259 = some ⟨.struct #[{ name := "PkgPath", type := 246, offset := 0, embedded := false, tag := "", pkgPath := "", byteOffset := 0 }, { name := "Mcount", type := 258, offset := 1, embedded := false, tag := "", pkgPath := "", byteOffset := 4 }, { name := "Xcount", type := 258, offset := 2, embedded := false, tag := "", pkgPath := "", byteOffset := 6 }, { name := "Moff", type := 192, offset := 3, embedded := false, tag := "", pkgPath := "", byteOffset := 8 }, { name := "_", type := 192, offset := 4, embedded := false, tag := "", pkgPath := "internal/abi", byteOffset := 12 }], 5, 16, .agg #[.int .i32 0, .int .u16 0, .int .u16 0, .int .u32 0, .int .u32 0]⟩ := by kernel_rfl
@[simp] theorem ty261 : tyOf Tryd.prog 261 = some ⟨.slice 264, 1, 24, .slice none 0 0⟩ := by kernel_rfl
@[simp] theorem ty263 : tyOf Tryd.prog 263 = some ⟨.struct #[{ name := "Name", type := 246, offset := 0, embedded := false, tag := "", pkgPath := "", byteOffset := 0 }, { name := "Mtyp", type := 247, offset := 1, embedded := false, tag := "", pkgPath := "", byteOffset := 4 }, { name := "Ifn", type := 262, offset := 2, embedded := false, tag := "", pkgPath := "", byteOffset := 8 }, { name := "Tfn", type := 262, offset := 3, embedded := false, tag := "", pkgPath := "", byteOffset := 12 }], 4, 16, .agg #[.int .i32 0, .int .i32 0, .int .i32 0, .int .i32 0]⟩ := by kernel_rfl
@[simp] theorem ty265 : tyOf Tryd.prog 265 = some ⟨.pointer 36, 1, 8, .pointer none⟩ := by kernel_rfl
end Go.Proofs.YtfehigldhedkgaaDoor

/-
  Searching by a function.
-/
namespace Go.Proofs.YtfehigldhedkgaaDoor
set_option linter.unusedSimpArgs false
set_option linter.unusedVariables false
open Go.Av

/-- Where the first one is that fits, or -1. -/
def idx {α : Type} (p : α → Bool) (l : List α) : Int := match l.findIdx? p with
  | some i => i
  | none => -1

theorem idx_hit {α : Type} {p : α → Bool} {l : List α} {n : Nat} (hn : n < l.length) (h : p l[n] = true) (hb : ∀ i (hi : i < n), p (l[i]'(by omega)) = false) : idx p l = n := by
  unfold idx
  have : l.findIdx? p = some n := by
    rw [List.findIdx?_eq_some_iff_getElem]
    exact ⟨hn, h, fun j hj => by simpa using hb j hj⟩
  rw [this]
theorem idx_miss {α : Type} {p : α → Bool} {l : List α} (hb : ∀ i (hi : i < l.length), p l[i] = false) : idx p l = -1 := by
  unfold idx
  have : l.findIdx? p = none := by
    rw [List.findIdx?_eq_none_iff]
    intro x hx
    obtain ⟨i, hi, rfl⟩ := List.mem_iff_getElem.1 hx
    exact hb i hi
  rw [this]

theorem idx_any {α : Type} (p : α → Bool) (l : List α) : decide (0 ≤ idx p l) = l.any p := by
  unfold idx
  split
  · rename_i i hi
    rw [List.findIdx?_eq_some_iff_getElem] at hi
    obtain ⟨h1, h2, _⟩ := hi
    have : l.any p = true := List.any_eq_true.2 ⟨_, List.getElem_mem h1, h2⟩
    rw [this]; simp
  · rename_i h
    rw [List.findIdx?_eq_none_iff] at h
    have : l.any p = false := by
      rw [List.any_eq_false]
      intro x hx
      simpa using h x hx
    rw [this]; simp

end Go.Proofs.YtfehigldhedkgaaDoor
