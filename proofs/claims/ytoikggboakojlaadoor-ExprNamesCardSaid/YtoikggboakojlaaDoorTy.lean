/-
  What the types of this seat's translation are: closed facts, by program (wip/tools/gen_ty.py).
-/
import Derived.Test.YtoikggboakojlaaDoorProg
import Derived.Test.YtoikggboakojlaaDoorAv19
namespace Go.Proofs.YtoikggboakojlaaDoor
open Go.Av
@[simp] theorem ty0 : tyOf Tryd.prog 0 = some ⟨.tuple #[], 1, 0, .tuple #[]⟩ := by kernel_rfl
@[simp] theorem ty1 : tyOf Tryd.prog 1 = some ⟨.func #[] #[] false, 1, 8, .nilFunc⟩ := by kernel_rfl
@[simp] theorem ty2 : tyOf Tryd.prog 2 = some ⟨.int .i64, 1, 8, .int .i64 0⟩ := by kernel_rfl
@[simp] theorem ty3 : tyOf Tryd.prog 3 = some ⟨.int .i64, 1, 8, .int .i64 0⟩ := by kernel_rfl
@[simp] theorem ty4 : tyOf Tryd.prog 4 = some ⟨.bool, 1, 1, .bool false⟩ := by kernel_rfl
@[simp] theorem ty5 : tyOf Tryd.prog 5 = some ⟨.int .u8, 1, 1, .int .u8 0⟩ := by kernel_rfl
@[simp] theorem ty7 : tyOf Tryd.prog 7 = some ⟨.struct #[{ name := "x", type := 2, offset := 0, embedded := false, tag := "", pkgPath := "runtime", byteOffset := 0 }, { name := "y", type := 3, offset := 1, embedded := false, tag := "", pkgPath := "runtime", byteOffset := 8 }, { name := "signed", type := 4, offset := 2, embedded := false, tag := "", pkgPath := "runtime", byteOffset := 16 }, { name := "code", type := 6, offset := 3, embedded := false, tag := "", pkgPath := "runtime", byteOffset := 17 }], 4, 24, .agg #[.int .i64 0, .int .i64 0, .bool false, .int .u8 0]⟩ := by kernel_rfl
@[simp] theorem ty9 : tyOf Tryd.prog 9 = some ⟨.string, 1, 16, .string ⟨#[]⟩⟩ := by kernel_rfl
@[simp] theorem ty12 : tyOf Tryd.prog 12 = some ⟨.int .u64, 1, 8, .int .u64 0⟩ := by kernel_rfl
@[simp] theorem ty13 : tyOf Tryd.prog 13 = some ⟨.struct #[{ name := "msg", type := 9, offset := 0, embedded := false, tag := "", pkgPath := "runtime", byteOffset := 0 }, { name := "addr", type := 12, offset := 1, embedded := false, tag := "", pkgPath := "runtime", byteOffset := 16 }], 2, 24, .agg #[.string ⟨#[]⟩, .int .u64 0]⟩ := by kernel_rfl
@[simp] theorem ty15 : tyOf Tryd.prog 15 = some ⟨.pointer 206, 1, 8, .pointer none⟩ := by kernel_rfl
@[simp] theorem ty16 : tyOf Tryd.prog 16 = some ⟨.pointer 209, 1, 8, .pointer none⟩ := by kernel_rfl
@[simp] theorem ty17 : tyOf Tryd.prog 17 = some ⟨.pointer 218, 1, 8, .pointer none⟩ := by kernel_rfl
@[simp] theorem ty18 : tyOf Tryd.prog 18 = some ⟨.struct #[{ name := "typ", type := 17, offset := 0, embedded := false, tag := "", pkgPath := "internal/runtime/maps", byteOffset := 0 }], 1, 8, .agg #[.pointer none]⟩ := by kernel_rfl
@[simp] theorem ty20 : tyOf Tryd.prog 20 = some ⟨.interface #[], 1, 16, .nilIface⟩ := by kernel_rfl
@[simp] theorem ty21 : tyOf Tryd.prog 21 = some ⟨.int .i32, 1, 4, .int .i32 0⟩ := by kernel_rfl
@[simp] theorem ty22 : tyOf Tryd.prog 22 = some ⟨.func #[9] #[4] false, 1, 8, .nilFunc⟩ := by kernel_rfl
@[simp] theorem ty23 : tyOf Tryd.prog 23 = some ⟨.slice 32, 1, 24, .slice none 0 0⟩ := by kernel_rfl
@[simp] theorem ty24 : tyOf Tryd.prog 24 = some ⟨.struct #[{ name := "Next", type := 23, offset := 0, embedded := false, tag := "", pkgPath := "", byteOffset := 0 }, { name := "Tells", type := 23, offset := 1, embedded := false, tag := "", pkgPath := "", byteOffset := 24 }], 2, 48, .agg #[.slice none 0 0, .slice none 0 0]⟩ := by kernel_rfl
@[simp] theorem ty25 : tyOf Tryd.prog 25 = some ⟨.struct #[{ name := "Next", type := 23, offset := 0, embedded := false, tag := "", pkgPath := "", byteOffset := 0 }, { name := "Tells", type := 23, offset := 1, embedded := false, tag := "", pkgPath := "", byteOffset := 24 }], 2, 48, .agg #[.slice none 0 0, .slice none 0 0]⟩ := by kernel_rfl
@[simp] theorem ty26 : tyOf Tryd.prog 26 = some ⟨.struct #[{ name := "Next", type := 23, offset := 0, embedded := false, tag := "", pkgPath := "", byteOffset := 0 }, { name := "Tells", type := 23, offset := 1, embedded := false, tag := "", pkgPath := "", byteOffset := 24 }], 2, 48, .agg #[.slice none 0 0, .slice none 0 0]⟩ := by kernel_rfl
@[simp] theorem ty27 : tyOf Tryd.prog 27 = some ⟨.int .i64, 1, 8, .int .i64 0⟩ := by kernel_rfl
@[simp] theorem ty28 : tyOf Tryd.prog 28 = some ⟨.struct #[{ name := "Err", type := 27, offset := 0, embedded := false, tag := "", pkgPath := "", byteOffset := 0 }, { name := "Place", type := 3, offset := 1, embedded := false, tag := "", pkgPath := "", byteOffset := 8 }], 2, 16, .agg #[.int .i64 0, .int .i64 0]⟩ := by kernel_rfl
@[simp] theorem ty29 : tyOf Tryd.prog 29 = some ⟨.struct #[{ name := "Err", type := 27, offset := 0, embedded := false, tag := "", pkgPath := "", byteOffset := 0 }, { name := "Place", type := 3, offset := 1, embedded := false, tag := "", pkgPath := "", byteOffset := 8 }], 2, 16, .agg #[.int .i64 0, .int .i64 0]⟩ := by kernel_rfl
@[simp] theorem ty30 : tyOf Tryd.prog 30 = some ⟨.tuple #[26, 29, 4], 1, 0, .tuple #[.agg #[.slice none 0 0, .slice none 0 0], .agg #[.int .i64 0, .int .i64 0], .bool false]⟩ := by kernel_rfl
@[simp] theorem ty31 : tyOf Tryd.prog 31 = some ⟨.func #[25] #[26, 29, 4] false, 1, 8, .nilFunc⟩ := by kernel_rfl
@[simp] theorem ty32 : tyOf Tryd.prog 32 = some ⟨.slice 3, 1, 24, .slice none 0 0⟩ := by kernel_rfl
@[simp] theorem ty33 : tyOf Tryd.prog 33 = some ⟨.interface #[("Error", 100)], 1, 16, .nilIface⟩ := by kernel_rfl
@[simp] theorem ty34 : tyOf Tryd.prog 34 = some ⟨.interface #[("Error", 100)], 1, 16, .nilIface⟩ := by kernel_rfl
@[simp] theorem ty35 : tyOf Tryd.prog 35 = some ⟨.tuple #[32, 34], 1, 0, .tuple #[.slice none 0 0, .nilIface]⟩ := by kernel_rfl
@[simp] theorem ty36 : tyOf Tryd.prog 36 = some ⟨.func #[25] #[32, 34] false, 1, 8, .nilFunc⟩ := by kernel_rfl
@[simp] theorem ty37 : tyOf Tryd.prog 37 = some ⟨.tuple #[25, 34], 1, 0, .tuple #[.agg #[.slice none 0 0, .slice none 0 0], .nilIface]⟩ := by kernel_rfl
@[simp] theorem ty38 : tyOf Tryd.prog 38 = some ⟨.func #[25] #[25, 34] false, 1, 8, .nilFunc⟩ := by kernel_rfl
@[simp] theorem ty39 : tyOf Tryd.prog 39 = some ⟨.func #[34, 29] #[4] false, 1, 8, .nilFunc⟩ := by kernel_rfl
@[simp] theorem ty40 : tyOf Tryd.prog 40 = some ⟨.func #[25] #[34] false, 1, 8, .nilFunc⟩ := by kernel_rfl
@[simp] theorem ty41 : tyOf Tryd.prog 41 = some ⟨.func #[] #[26] false, 1, 8, .nilFunc⟩ := by kernel_rfl
@[simp] theorem ty42 : tyOf Tryd.prog 42 = some ⟨.func #[32, 32] #[4] false, 1, 8, .nilFunc⟩ := by kernel_rfl
@[simp] theorem ty43 : tyOf Tryd.prog 43 = some ⟨.func #[] #[32] false, 1, 8, .nilFunc⟩ := by kernel_rfl
@[simp] theorem ty44 : tyOf Tryd.prog 44 = some ⟨.func #[23, 23] #[4] false, 1, 8, .nilFunc⟩ := by kernel_rfl
@[simp] theorem ty45 : tyOf Tryd.prog 45 = some ⟨.func #[25] #[4] false, 1, 8, .nilFunc⟩ := by kernel_rfl
@[simp] theorem ty46 : tyOf Tryd.prog 46 = some ⟨.func #[25, 3, 3] #[32, 34] false, 1, 8, .nilFunc⟩ := by kernel_rfl
@[simp] theorem ty47 : tyOf Tryd.prog 47 = some ⟨.func #[25, 3, 32] #[32, 34] false, 1, 8, .nilFunc⟩ := by kernel_rfl
@[simp] theorem ty48 : tyOf Tryd.prog 48 = some ⟨.tuple #[32, 4], 1, 0, .tuple #[.slice none 0 0, .bool false]⟩ := by kernel_rfl
@[simp] theorem ty49 : tyOf Tryd.prog 49 = some ⟨.func #[3, 3] #[32, 4] false, 1, 8, .nilFunc⟩ := by kernel_rfl
@[simp] theorem ty50 : tyOf Tryd.prog 50 = some ⟨.func #[34, 27] #[4] false, 1, 8, .nilFunc⟩ := by kernel_rfl
@[simp] theorem ty51 : tyOf Tryd.prog 51 = some ⟨.func #[25, 3, 3, 32] #[4] false, 1, 8, .nilFunc⟩ := by kernel_rfl
@[simp] theorem ty52 : tyOf Tryd.prog 52 = some ⟨.func #[54] #[29] false, 1, 8, .nilFunc⟩ := by kernel_rfl
@[simp] theorem ty53 : tyOf Tryd.prog 53 = some ⟨.struct #[{ name := "Vars", type := 3, offset := 0, embedded := false, tag := "", pkgPath := "", byteOffset := 0 }, { name := "All", type := 23, offset := 1, embedded := false, tag := "", pkgPath := "", byteOffset := 8 }], 2, 32, .agg #[.int .i64 0, .slice none 0 0]⟩ := by kernel_rfl
@[simp] theorem ty54 : tyOf Tryd.prog 54 = some ⟨.struct #[{ name := "Vars", type := 3, offset := 0, embedded := false, tag := "", pkgPath := "", byteOffset := 0 }, { name := "All", type := 23, offset := 1, embedded := false, tag := "", pkgPath := "", byteOffset := 8 }], 2, 32, .agg #[.int .i64 0, .slice none 0 0]⟩ := by kernel_rfl
@[simp] theorem ty55 : tyOf Tryd.prog 55 = some ⟨.struct #[{ name := "Vars", type := 3, offset := 0, embedded := false, tag := "", pkgPath := "", byteOffset := 0 }, { name := "All", type := 23, offset := 1, embedded := false, tag := "", pkgPath := "", byteOffset := 8 }], 2, 32, .agg #[.int .i64 0, .slice none 0 0]⟩ := by kernel_rfl
@[simp] theorem ty56 : tyOf Tryd.prog 56 = some ⟨.slice 4, 1, 24, .slice none 0 0⟩ := by kernel_rfl
@[simp] theorem ty57 : tyOf Tryd.prog 57 = some ⟨.tuple #[56, 34], 1, 0, .tuple #[.slice none 0 0, .nilIface]⟩ := by kernel_rfl
@[simp] theorem ty58 : tyOf Tryd.prog 58 = some ⟨.func #[55] #[56, 34] false, 1, 8, .nilFunc⟩ := by kernel_rfl
@[simp] theorem ty59 : tyOf Tryd.prog 59 = some ⟨.func #[55] #[34] false, 1, 8, .nilFunc⟩ := by kernel_rfl
@[simp] theorem ty60 : tyOf Tryd.prog 60 = some ⟨.tuple #[56, 4], 1, 0, .tuple #[.slice none 0 0, .bool false]⟩ := by kernel_rfl
@[simp] theorem ty61 : tyOf Tryd.prog 61 = some ⟨.func #[54] #[56, 4] false, 1, 8, .nilFunc⟩ := by kernel_rfl
@[simp] theorem ty62 : tyOf Tryd.prog 62 = some ⟨.func #[56, 56] #[4] false, 1, 8, .nilFunc⟩ := by kernel_rfl
@[simp] theorem ty63 : tyOf Tryd.prog 63 = some ⟨.func #[3, 23] #[4] false, 1, 8, .nilFunc⟩ := by kernel_rfl
@[simp] theorem ty64 : tyOf Tryd.prog 64 = some ⟨.func #[25, 3] #[4] false, 1, 8, .nilFunc⟩ := by kernel_rfl
@[simp] theorem ty65 : tyOf Tryd.prog 65 = some ⟨.func #[] #[4] false, 1, 8, .nilFunc⟩ := by kernel_rfl
@[simp] theorem ty66 : tyOf Tryd.prog 66 = some ⟨.func #[3, 3] #[3] false, 1, 8, .nilFunc⟩ := by kernel_rfl
@[simp] theorem ty67 : tyOf Tryd.prog 67 = some ⟨.func #[34] #[27] false, 1, 8, .nilFunc⟩ := by kernel_rfl
@[simp] theorem ty68 : tyOf Tryd.prog 68 = some ⟨.slice 75, 1, 24, .slice none 0 0⟩ := by kernel_rfl
@[simp] theorem ty69 : tyOf Tryd.prog 69 = some ⟨.struct #[{ name := "Ahead", type := 68, offset := 0, embedded := false, tag := "", pkgPath := "", byteOffset := 0 }, { name := "Round", type := 68, offset := 1, embedded := false, tag := "", pkgPath := "", byteOffset := 24 }], 2, 48, .agg #[.slice none 0 0, .slice none 0 0]⟩ := by kernel_rfl
@[simp] theorem ty70 : tyOf Tryd.prog 70 = some ⟨.struct #[{ name := "Ahead", type := 68, offset := 0, embedded := false, tag := "", pkgPath := "", byteOffset := 0 }, { name := "Round", type := 68, offset := 1, embedded := false, tag := "", pkgPath := "", byteOffset := 24 }], 2, 48, .agg #[.slice none 0 0, .slice none 0 0]⟩ := by kernel_rfl
@[simp] theorem ty71 : tyOf Tryd.prog 71 = some ⟨.slice 126, 1, 24, .slice none 0 0⟩ := by kernel_rfl
@[simp] theorem ty72 : tyOf Tryd.prog 72 = some ⟨.pointer 79, 1, 8, .pointer none⟩ := by kernel_rfl
@[simp] theorem ty73 : tyOf Tryd.prog 73 = some ⟨.func #[71] #[72] false, 1, 8, .nilFunc⟩ := by kernel_rfl
@[simp] theorem ty74 : tyOf Tryd.prog 74 = some ⟨.func #[70, 72] #[56, 34] false, 1, 8, .nilFunc⟩ := by kernel_rfl
@[simp] theorem ty75 : tyOf Tryd.prog 75 = some ⟨.slice 9, 1, 24, .slice none 0 0⟩ := by kernel_rfl
@[simp] theorem ty76 : tyOf Tryd.prog 76 = some ⟨.func #[70, 71] #[4] false, 1, 8, .nilFunc⟩ := by kernel_rfl
@[simp] theorem ty77 : tyOf Tryd.prog 77 = some ⟨.slice 72, 1, 24, .slice none 0 0⟩ := by kernel_rfl
@[simp] theorem ty78 : tyOf Tryd.prog 78 = some ⟨.struct #[{ name := "Kind", type := 3, offset := 0, embedded := false, tag := "", pkgPath := "", byteOffset := 0 }, { name := "Name", type := 9, offset := 1, embedded := false, tag := "", pkgPath := "", byteOffset := 8 }, { name := "Of", type := 77, offset := 2, embedded := false, tag := "", pkgPath := "", byteOffset := 24 }], 3, 48, .agg #[.int .i64 0, .string ⟨#[]⟩, .slice none 0 0]⟩ := by kernel_rfl
@[simp] theorem ty79 : tyOf Tryd.prog 79 = some ⟨.struct #[{ name := "Kind", type := 3, offset := 0, embedded := false, tag := "", pkgPath := "", byteOffset := 0 }, { name := "Name", type := 9, offset := 1, embedded := false, tag := "", pkgPath := "", byteOffset := 8 }, { name := "Of", type := 77, offset := 2, embedded := false, tag := "", pkgPath := "", byteOffset := 24 }], 3, 48, .agg #[.int .i64 0, .string ⟨#[]⟩, .slice none 0 0]⟩ := by kernel_rfl
@[simp] theorem ty80 : tyOf Tryd.prog 80 = some ⟨.func #[3, 77] #[72] true, 1, 8, .nilFunc⟩ := by kernel_rfl
@[simp] theorem ty81 : tyOf Tryd.prog 81 = some ⟨.func #[72, 72] #[4] false, 1, 8, .nilFunc⟩ := by kernel_rfl
@[simp] theorem ty82 : tyOf Tryd.prog 82 = some ⟨.func #[72] #[34] false, 1, 8, .nilFunc⟩ := by kernel_rfl
@[simp] theorem ty83 : tyOf Tryd.prog 83 = some ⟨.func #[70] #[34] false, 1, 8, .nilFunc⟩ := by kernel_rfl
@[simp] theorem ty84 : tyOf Tryd.prog 84 = some ⟨.func #[70, 71, 71] #[4] false, 1, 8, .nilFunc⟩ := by kernel_rfl
@[simp] theorem ty85 : tyOf Tryd.prog 85 = some ⟨.int .u64, 1, 8, .int .u64 0⟩ := by kernel_rfl
@[simp] theorem ty86 : tyOf Tryd.prog 86 = some ⟨.map 3 3, 1, 8, .map none⟩ := by kernel_rfl
@[simp] theorem ty87 : tyOf Tryd.prog 87 = some ⟨.tuple #[3, 4], 1, 0, .tuple #[.int .i64 0, .bool false]⟩ := by kernel_rfl
@[simp] theorem ty88 : tyOf Tryd.prog 88 = some ⟨.func #[3, 9, 3, 3] #[4] false, 1, 8, .nilFunc⟩ := by kernel_rfl
@[simp] theorem ty89 : tyOf Tryd.prog 89 = some ⟨.tuple #[72, 34], 1, 0, .tuple #[.pointer none, .nilIface]⟩ := by kernel_rfl
@[simp] theorem ty90 : tyOf Tryd.prog 90 = some ⟨.func #[72] #[72, 34] false, 1, 8, .nilFunc⟩ := by kernel_rfl
@[simp] theorem ty91 : tyOf Tryd.prog 91 = some ⟨.func #[72] #[9] false, 1, 8, .nilFunc⟩ := by kernel_rfl
@[simp] theorem ty92 : tyOf Tryd.prog 92 = some ⟨.pointer 134, 1, 8, .pointer none⟩ := by kernel_rfl
@[simp] theorem ty93 : tyOf Tryd.prog 93 = some ⟨.tuple #[92, 3, 4], 1, 0, .tuple #[.pointer none, .int .i64 0, .bool false]⟩ := by kernel_rfl
@[simp] theorem ty94 : tyOf Tryd.prog 94 = some ⟨.func #[71] #[92, 3, 4] false, 1, 8, .nilFunc⟩ := by kernel_rfl
@[simp] theorem ty95 : tyOf Tryd.prog 95 = some ⟨.struct #[{ name := "Ahead", type := 68, offset := 0, embedded := false, tag := "", pkgPath := "", byteOffset := 0 }, { name := "Round", type := 68, offset := 1, embedded := false, tag := "", pkgPath := "", byteOffset := 24 }], 2, 48, .agg #[.slice none 0 0, .slice none 0 0]⟩ := by kernel_rfl
@[simp] theorem ty96 : tyOf Tryd.prog 96 = some ⟨.func #[95] #[27] false, 1, 8, .nilFunc⟩ := by kernel_rfl
@[simp] theorem ty97 : tyOf Tryd.prog 97 = some ⟨.func #[92] #[4] false, 1, 8, .nilFunc⟩ := by kernel_rfl
@[simp] theorem ty98 : tyOf Tryd.prog 98 = some ⟨.func #[95, 3] #[4] false, 1, 8, .nilFunc⟩ := by kernel_rfl
@[simp] theorem ty99 : tyOf Tryd.prog 99 = some ⟨.func #[4] #[92] false, 1, 8, .nilFunc⟩ := by kernel_rfl
@[simp] theorem ty100 : tyOf Tryd.prog 100 = some ⟨.func #[] #[9] false, 1, 8, .nilFunc⟩ := by kernel_rfl
@[simp] theorem ty101 : tyOf Tryd.prog 101 = some ⟨.func #[71] #[4] false, 1, 8, .nilFunc⟩ := by kernel_rfl
@[simp] theorem ty102 : tyOf Tryd.prog 102 = some ⟨.func #[9, 9] #[9] false, 1, 8, .nilFunc⟩ := by kernel_rfl
@[simp] theorem ty103 : tyOf Tryd.prog 103 = some ⟨.func #[75, 9] #[4] false, 1, 8, .nilFunc⟩ := by kernel_rfl
@[simp] theorem ty104 : tyOf Tryd.prog 104 = some ⟨.func #[26] #[29] false, 1, 8, .nilFunc⟩ := by kernel_rfl
@[simp] theorem ty105 : tyOf Tryd.prog 105 = some ⟨.func #[25] #[23] false, 1, 8, .nilFunc⟩ := by kernel_rfl
@[simp] theorem ty106 : tyOf Tryd.prog 106 = some ⟨.func #[32] #[32] false, 1, 8, .nilFunc⟩ := by kernel_rfl
@[simp] theorem ty107 : tyOf Tryd.prog 107 = some ⟨.tuple #[27, 3], 1, 0, .tuple #[.int .i64 0, .int .i64 0]⟩ := by kernel_rfl
@[simp] theorem ty108 : tyOf Tryd.prog 108 = some ⟨.func #[34] #[27, 3] false, 1, 8, .nilFunc⟩ := by kernel_rfl
@[simp] theorem ty109 : tyOf Tryd.prog 109 = some ⟨.pointer 110, 1, 8, .pointer none⟩ := by kernel_rfl
@[simp] theorem ty110 : tyOf Tryd.prog 110 = some ⟨.struct #[{ name := "Err", type := 27, offset := 0, embedded := false, tag := "", pkgPath := "", byteOffset := 0 }, { name := "Place", type := 3, offset := 1, embedded := false, tag := "", pkgPath := "", byteOffset := 8 }], 2, 16, .agg #[.int .i64 0, .int .i64 0]⟩ := by kernel_rfl
@[simp] theorem ty111 : tyOf Tryd.prog 111 = some ⟨.func #[32, 112] #[4] false, 1, 8, .nilFunc⟩ := by kernel_rfl
@[simp] theorem ty112 : tyOf Tryd.prog 112 = some ⟨.func #[3] #[4] false, 1, 8, .nilFunc⟩ := by kernel_rfl
@[simp] theorem ty113 : tyOf Tryd.prog 113 = some ⟨.func #[] #[23] false, 1, 8, .nilFunc⟩ := by kernel_rfl
@[simp] theorem ty114 : tyOf Tryd.prog 114 = some ⟨.func #[23, 115] #[3] false, 1, 8, .nilFunc⟩ := by kernel_rfl
@[simp] theorem ty115 : tyOf Tryd.prog 115 = some ⟨.func #[32] #[4] false, 1, 8, .nilFunc⟩ := by kernel_rfl
@[simp] theorem ty116 : tyOf Tryd.prog 116 = some ⟨.func #[27] #[29] false, 1, 8, .nilFunc⟩ := by kernel_rfl
@[simp] theorem ty117 : tyOf Tryd.prog 117 = some ⟨.func #[3, 3, 3] #[4] false, 1, 8, .nilFunc⟩ := by kernel_rfl
@[simp] theorem ty118 : tyOf Tryd.prog 118 = some ⟨.pointer 120, 1, 8, .pointer none⟩ := by kernel_rfl
@[simp] theorem ty119 : tyOf Tryd.prog 119 = some ⟨.struct #[{ name := "Clauses", type := 55, offset := 0, embedded := true, tag := "", pkgPath := "", byteOffset := 0 }, { name := "of", type := 32, offset := 2, embedded := false, tag := "", pkgPath := "signalcabin/gate", byteOffset := 32 }, { name := "trail", type := 32, offset := 3, embedded := false, tag := "", pkgPath := "signalcabin/gate", byteOffset := 56 }, { name := "steps", type := 3, offset := 4, embedded := false, tag := "", pkgPath := "signalcabin/gate", byteOffset := 80 }], 5, 88, .agg #[.int .i64 0, .slice none 0 0, .slice none 0 0, .slice none 0 0, .int .i64 0]⟩ := by kernel_rfl
@[simp] theorem ty120 : tyOf Tryd.prog 120 = some ⟨.struct #[{ name := "Clauses", type := 55, offset := 0, embedded := true, tag := "", pkgPath := "", byteOffset := 0 }, { name := "of", type := 32, offset := 2, embedded := false, tag := "", pkgPath := "signalcabin/gate", byteOffset := 32 }, { name := "trail", type := 32, offset := 3, embedded := false, tag := "", pkgPath := "signalcabin/gate", byteOffset := 56 }, { name := "steps", type := 3, offset := 4, embedded := false, tag := "", pkgPath := "signalcabin/gate", byteOffset := 80 }], 5, 88, .agg #[.int .i64 0, .slice none 0 0, .slice none 0 0, .slice none 0 0, .int .i64 0]⟩ := by kernel_rfl
@[simp] theorem ty121 : tyOf Tryd.prog 121 = some ⟨.tuple #[4, 34], 1, 0, .tuple #[.bool false, .nilIface]⟩ := by kernel_rfl
@[simp] theorem ty122 : tyOf Tryd.prog 122 = some ⟨.func #[] #[4, 34] false, 1, 8, .nilFunc⟩ := by kernel_rfl
@[simp] theorem ty123 : tyOf Tryd.prog 123 = some ⟨.func #[34, 20] #[4] false, 1, 8, .nilFunc⟩ := by kernel_rfl
@[simp] theorem ty124 : tyOf Tryd.prog 124 = some ⟨.pointer 27, 1, 8, .pointer none⟩ := by kernel_rfl
@[simp] theorem ty125 : tyOf Tryd.prog 125 = some ⟨.struct #[{ name := "Kind", type := 3, offset := 0, embedded := false, tag := "", pkgPath := "", byteOffset := 0 }, { name := "A", type := 3, offset := 1, embedded := false, tag := "", pkgPath := "", byteOffset := 8 }, { name := "B", type := 3, offset := 2, embedded := false, tag := "", pkgPath := "", byteOffset := 16 }, { name := "Name", type := 9, offset := 3, embedded := false, tag := "", pkgPath := "", byteOffset := 24 }], 4, 40, .agg #[.int .i64 0, .int .i64 0, .int .i64 0, .string ⟨#[]⟩]⟩ := by kernel_rfl
@[simp] theorem ty126 : tyOf Tryd.prog 126 = some ⟨.struct #[{ name := "Kind", type := 3, offset := 0, embedded := false, tag := "", pkgPath := "", byteOffset := 0 }, { name := "A", type := 3, offset := 1, embedded := false, tag := "", pkgPath := "", byteOffset := 8 }, { name := "B", type := 3, offset := 2, embedded := false, tag := "", pkgPath := "", byteOffset := 16 }, { name := "Name", type := 9, offset := 3, embedded := false, tag := "", pkgPath := "", byteOffset := 24 }], 4, 40, .agg #[.int .i64 0, .int .i64 0, .int .i64 0, .string ⟨#[]⟩]⟩ := by kernel_rfl
@[simp] theorem ty127 : tyOf Tryd.prog 127 = some ⟨.func #[70, 72] #[56] false, 1, 8, .nilFunc⟩ := by kernel_rfl
@[simp] theorem ty128 : tyOf Tryd.prog 128 = some ⟨.tuple #[3, 27], 1, 0, .tuple #[.int .i64 0, .int .i64 0]⟩ := by kernel_rfl
@[simp] theorem ty129 : tyOf Tryd.prog 129 = some ⟨.func #[72, 3] #[3, 27] false, 1, 8, .nilFunc⟩ := by kernel_rfl
@[simp] theorem ty130 : tyOf Tryd.prog 130 = some ⟨.slice 68, 1, 24, .slice none 0 0⟩ := by kernel_rfl
@[simp] theorem ty131 : tyOf Tryd.prog 131 = some ⟨.func #[72, 4] #[72] false, 1, 8, .nilFunc⟩ := by kernel_rfl
@[simp] theorem ty132 : tyOf Tryd.prog 132 = some ⟨.slice 92, 1, 24, .slice none 0 0⟩ := by kernel_rfl
@[simp] theorem ty133 : tyOf Tryd.prog 133 = some ⟨.struct #[{ name := "Kind", type := 3, offset := 0, embedded := false, tag := "", pkgPath := "", byteOffset := 0 }, { name := "Name", type := 9, offset := 1, embedded := false, tag := "", pkgPath := "", byteOffset := 8 }, { name := "Of", type := 132, offset := 2, embedded := false, tag := "", pkgPath := "", byteOffset := 24 }], 3, 48, .agg #[.int .i64 0, .string ⟨#[]⟩, .slice none 0 0]⟩ := by kernel_rfl
@[simp] theorem ty134 : tyOf Tryd.prog 134 = some ⟨.struct #[{ name := "Kind", type := 3, offset := 0, embedded := false, tag := "", pkgPath := "", byteOffset := 0 }, { name := "Name", type := 9, offset := 1, embedded := false, tag := "", pkgPath := "", byteOffset := 8 }, { name := "Of", type := 132, offset := 2, embedded := false, tag := "", pkgPath := "", byteOffset := 24 }], 3, 48, .agg #[.int .i64 0, .string ⟨#[]⟩, .slice none 0 0]⟩ := by kernel_rfl
@[simp] theorem ty135 : tyOf Tryd.prog 135 = some ⟨.func #[3] #[3] false, 1, 8, .nilFunc⟩ := by kernel_rfl
@[simp] theorem ty136 : tyOf Tryd.prog 136 = some ⟨.func #[75, 9] #[3] false, 1, 8, .nilFunc⟩ := by kernel_rfl
@[simp] theorem ty137 : tyOf Tryd.prog 137 = some ⟨.func #[92] #[92] false, 1, 8, .nilFunc⟩ := by kernel_rfl
@[simp] theorem ty138 : tyOf Tryd.prog 138 = some ⟨.func #[3, 132] #[92] true, 1, 8, .nilFunc⟩ := by kernel_rfl
@[simp] theorem ty139 : tyOf Tryd.prog 139 = some ⟨.map 3 9, 1, 8, .map none⟩ := by kernel_rfl
@[simp] theorem ty140 : tyOf Tryd.prog 140 = some ⟨.func #[9, 5] #[9] false, 1, 8, .nilFunc⟩ := by kernel_rfl
@[simp] theorem ty143 : tyOf Tryd.prog 143 = some ⟨.tuple #[142, 4], 1, 0, .tuple #[.agg #[.bool false, .bool false, .bool false, .bool false, .bool false, .bool false, .bool false, .bool false, .bool false, .bool false, .bool false, .bool false, .bool false, .bool false, .bool false, .bool false, .bool false, .bool false, .bool false, .bool false, .bool false, .bool false, .bool false, .bool false, .bool false, .bool false, .bool false, .bool false, .bool false, .bool false, .bool false, .bool false, .bool false, .bool false, .bool false, .bool false, .bool false, .bool false, .bool false, .bool false, .bool false, .bool false, .bool false, .bool false, .bool false, .bool false, .bool false, .bool false, .bool false, .bool false, .bool false, .bool false, .bool false, .bool false, .bool false, .bool false, .bool false, .bool false, .bool false, .bool false, .bool false, .bool false, .bool false, .bool false, .bool false, .bool false, .bool false, .bool false, .bool false, .bool false, .bool false, .bool false, .bool false, .bool false, .bool false, .bool false, .bool false, .bool false, .bool false, .bool false, .bool false, .bool false, .bool false, .bool false, .bool false, .bool false, .bool false, .bool false, .bool false, .bool false, .bool false, .bool false, .bool false, .bool false, .bool false, .bool false, .bool false, .bool false, .bool false, .bool false, .bool false, .bool false, .bool false, .bool false, .bool false, .bool false, .bool false, .bool false, .bool false, .bool false, .bool false, .bool false, .bool false, .bool false, .bool false, .bool false, .bool false, .bool false, .bool false, .bool false, .bool false, .bool false, .bool false, .bool false, .bool false, .bool false, .bool false, .bool false, .bool false, .bool false, .bool false, .bool false, .bool false, .bool false, .bool false, .bool false, .bool false, .bool false, .bool false, .bool false, .bool false, .bool false, .bool false, .bool false, .bool false, .bool false, .bool false, .bool false, .bool false, .bool false, .bool false, .bool false, .bool false, .bool false, .bool false, .bool false, .bool false, .bool false, .bool false, .bool false, .bool false, .bool false, .bool false, .bool false, .bool false, .bool false, .bool false, .bool false, .bool false, .bool false, .bool false, .bool false, .bool false, .bool false, .bool false, .bool false, .bool false, .bool false, .bool false, .bool false, .bool false, .bool false, .bool false, .bool false, .bool false, .bool false, .bool false, .bool false, .bool false, .bool false, .bool false, .bool false, .bool false, .bool false, .bool false, .bool false, .bool false, .bool false, .bool false, .bool false, .bool false, .bool false, .bool false, .bool false, .bool false, .bool false, .bool false, .bool false, .bool false, .bool false, .bool false, .bool false, .bool false, .bool false, .bool false, .bool false, .bool false, .bool false, .bool false, .bool false, .bool false, .bool false, .bool false, .bool false, .bool false, .bool false, .bool false, .bool false, .bool false, .bool false, .bool false, .bool false, .bool false, .bool false, .bool false, .bool false, .bool false, .bool false, .bool false, .bool false, .bool false, .bool false, .bool false, .bool false, .bool false, .bool false, .bool false, .bool false, .bool false, .bool false, .bool false, .bool false, .bool false, .bool false, .bool false, .bool false], .bool false]⟩ := by kernel_rfl
@[simp] theorem ty144 : tyOf Tryd.prog 144 = some ⟨.func #[9] #[142, 4] false, 1, 8, .nilFunc⟩ := by kernel_rfl
@[simp] theorem ty145 : tyOf Tryd.prog 145 = some ⟨.func #[9, 146] #[9] false, 1, 8, .nilFunc⟩ := by kernel_rfl
@[simp] theorem ty146 : tyOf Tryd.prog 146 = some ⟨.pointer 142, 1, 8, .pointer none⟩ := by kernel_rfl
@[simp] theorem ty147 : tyOf Tryd.prog 147 = some ⟨.func #[23] #[32] false, 1, 8, .nilFunc⟩ := by kernel_rfl
@[simp] theorem ty148 : tyOf Tryd.prog 148 = some ⟨.tuple #[109, 4], 1, 0, .tuple #[.pointer none, .bool false]⟩ := by kernel_rfl
@[simp] theorem ty149 : tyOf Tryd.prog 149 = some ⟨.interface #[("Unwrap", 151)], 1, 16, .nilIface⟩ := by kernel_rfl
@[simp] theorem ty150 : tyOf Tryd.prog 150 = some ⟨.tuple #[149, 4], 1, 0, .tuple #[.nilIface, .bool false]⟩ := by kernel_rfl
@[simp] theorem ty151 : tyOf Tryd.prog 151 = some ⟨.func #[] #[34] false, 1, 8, .nilFunc⟩ := by kernel_rfl
@[simp] theorem ty152 : tyOf Tryd.prog 152 = some ⟨.func #[32, 112] #[3] false, 1, 8, .nilFunc⟩ := by kernel_rfl
@[simp] theorem ty153 : tyOf Tryd.prog 153 = some ⟨.func #[3] #[] false, 1, 8, .nilFunc⟩ := by kernel_rfl
@[simp] theorem ty154 : tyOf Tryd.prog 154 = some ⟨.func #[32, 3] #[3] false, 1, 8, .nilFunc⟩ := by kernel_rfl
@[simp] theorem ty157 : tyOf Tryd.prog 157 = some ⟨.struct #[{ name := "typ_", type := 17, offset := 0, embedded := false, tag := "", pkgPath := "internal/reflectlite", byteOffset := 0 }, { name := "ptr", type := 155, offset := 1, embedded := false, tag := "", pkgPath := "internal/reflectlite", byteOffset := 8 }, { name := "flag", type := 156, offset := 2, embedded := true, tag := "", pkgPath := "internal/reflectlite", byteOffset := 16 }], 3, 24, .agg #[.pointer none, .pointer none, .int .u64 0]⟩ := by kernel_rfl
@[simp] theorem ty159 : tyOf Tryd.prog 159 = some ⟨.func #[20] #[158] false, 1, 8, .nilFunc⟩ := by kernel_rfl
@[simp] theorem ty160 : tyOf Tryd.prog 160 = some ⟨.interface #[("AssignableTo", 165), ("Comparable", 65), ("Elem", 162), ("Implements", 165), ("Kind", 164), ("Name", 100), ("PkgPath", 100), ("Size", 219), ("String", 100), ("internal/reflectlite.common", 211), ("internal/reflectlite.uncommon", 220)], 1, 16, .nilIface⟩ := by kernel_rfl
@[simp] theorem ty162 : tyOf Tryd.prog 162 = some ⟨.func #[] #[161] false, 1, 8, .nilFunc⟩ := by kernel_rfl
@[simp] theorem ty164 : tyOf Tryd.prog 164 = some ⟨.func #[] #[163] false, 1, 8, .nilFunc⟩ := by kernel_rfl
@[simp] theorem ty165 : tyOf Tryd.prog 165 = some ⟨.func #[161] #[4] false, 1, 8, .nilFunc⟩ := by kernel_rfl
@[simp] theorem ty166 : tyOf Tryd.prog 166 = some ⟨.func #[34, 20, 158, 161] #[4] false, 1, 8, .nilFunc⟩ := by kernel_rfl
@[simp] theorem ty167 : tyOf Tryd.prog 167 = some ⟨.slice 56, 1, 24, .slice none 0 0⟩ := by kernel_rfl
@[simp] theorem ty168 : tyOf Tryd.prog 168 = some ⟨.func #[3, 4] #[4] false, 1, 8, .nilFunc⟩ := by kernel_rfl
@[simp] theorem ty169 : tyOf Tryd.prog 169 = some ⟨.func #[4, 168] #[] false, 1, 8, .nilFunc⟩ := by kernel_rfl
@[simp] theorem ty170 : tyOf Tryd.prog 170 = some ⟨.array 11 3, 11, 88, .agg #[.int .i64 0, .int .i64 0, .int .i64 0, .int .i64 0, .int .i64 0, .int .i64 0, .int .i64 0, .int .i64 0, .int .i64 0, .int .i64 0, .int .i64 0]⟩ := by kernel_rfl
@[simp] theorem ty171 : tyOf Tryd.prog 171 = some ⟨.func #[75, 9] #[9] false, 1, 8, .nilFunc⟩ := by kernel_rfl
@[simp] theorem ty172 : tyOf Tryd.prog 172 = some ⟨.func #[5] #[4] false, 1, 8, .nilFunc⟩ := by kernel_rfl
@[simp] theorem ty173 : tyOf Tryd.prog 173 = some ⟨.tuple #[21, 3], 1, 0, .tuple #[.int .i32 0, .int .i64 0]⟩ := by kernel_rfl
@[simp] theorem ty174 : tyOf Tryd.prog 174 = some ⟨.func #[9] #[21, 3] false, 1, 8, .nilFunc⟩ := by kernel_rfl
@[simp] theorem ty175 : tyOf Tryd.prog 175 = some ⟨.func #[9, 21] #[4] false, 1, 8, .nilFunc⟩ := by kernel_rfl
@[simp] theorem ty176 : tyOf Tryd.prog 176 = some ⟨.struct #[{ name := "Type", type := 17, offset := 0, embedded := true, tag := "", pkgPath := "", byteOffset := 0 }], 1, 8, .agg #[.pointer none]⟩ := by kernel_rfl
@[simp] theorem ty178 : tyOf Tryd.prog 178 = some ⟨.pointer 222, 1, 8, .pointer none⟩ := by kernel_rfl
@[simp] theorem ty179 : tyOf Tryd.prog 179 = some ⟨.func #[20] #[161] false, 1, 8, .nilFunc⟩ := by kernel_rfl
@[simp] theorem ty180 : tyOf Tryd.prog 180 = some ⟨.func #[] #[158] false, 1, 8, .nilFunc⟩ := by kernel_rfl
@[simp] theorem ty181 : tyOf Tryd.prog 181 = some ⟨.func #[158] #[] false, 1, 8, .nilFunc⟩ := by kernel_rfl
@[simp] theorem ty182 : tyOf Tryd.prog 182 = some ⟨.interface #[("As", 184)], 1, 16, .nilIface⟩ := by kernel_rfl
@[simp] theorem ty183 : tyOf Tryd.prog 183 = some ⟨.tuple #[182, 4], 1, 0, .tuple #[.nilIface, .bool false]⟩ := by kernel_rfl
@[simp] theorem ty184 : tyOf Tryd.prog 184 = some ⟨.func #[20] #[4] false, 1, 8, .nilFunc⟩ := by kernel_rfl
@[simp] theorem ty185 : tyOf Tryd.prog 185 = some ⟨.interface #[("Unwrap", 187)], 1, 16, .nilIface⟩ := by kernel_rfl
@[simp] theorem ty186 : tyOf Tryd.prog 186 = some ⟨.slice 34, 1, 24, .slice none 0 0⟩ := by kernel_rfl
@[simp] theorem ty187 : tyOf Tryd.prog 187 = some ⟨.func #[] #[186] false, 1, 8, .nilFunc⟩ := by kernel_rfl
@[simp] theorem ty188 : tyOf Tryd.prog 188 = some ⟨.pointer 191, 1, 8, .pointer none⟩ := by kernel_rfl
@[simp] theorem ty189 : tyOf Tryd.prog 189 = some ⟨.slice 5, 1, 24, .slice none 0 0⟩ := by kernel_rfl
@[simp] theorem ty190 : tyOf Tryd.prog 190 = some ⟨.struct #[{ name := "addr", type := 188, offset := 0, embedded := false, tag := "", pkgPath := "strings", byteOffset := 0 }, { name := "buf", type := 189, offset := 1, embedded := false, tag := "", pkgPath := "strings", byteOffset := 8 }], 2, 32, .agg #[.pointer none, .slice none 0 0]⟩ := by kernel_rfl
@[simp] theorem ty191 : tyOf Tryd.prog 191 = some ⟨.struct #[{ name := "addr", type := 188, offset := 0, embedded := false, tag := "", pkgPath := "strings", byteOffset := 0 }, { name := "buf", type := 189, offset := 1, embedded := false, tag := "", pkgPath := "strings", byteOffset := 8 }], 2, 32, .agg #[.pointer none, .slice none 0 0]⟩ := by kernel_rfl
@[simp] theorem ty192 : tyOf Tryd.prog 192 = some ⟨.tuple #[3, 34], 1, 0, .tuple #[.int .i64 0, .nilIface]⟩ := by kernel_rfl
@[simp] theorem ty193 : tyOf Tryd.prog 193 = some ⟨.func #[9] #[3, 34] false, 1, 8, .nilFunc⟩ := by kernel_rfl
@[simp] theorem ty194 : tyOf Tryd.prog 194 = some ⟨.func #[9, 21] #[3] false, 1, 8, .nilFunc⟩ := by kernel_rfl
@[simp] theorem ty195 : tyOf Tryd.prog 195 = some ⟨.pointer 5, 1, 8, .pointer none⟩ := by kernel_rfl
@[simp] theorem ty197 : tyOf Tryd.prog 197 = some ⟨.struct #[{ name := "lo", type := 5, offset := 0, embedded := false, tag := "", pkgPath := "unicode/utf8", byteOffset := 0 }, { name := "hi", type := 5, offset := 1, embedded := false, tag := "", pkgPath := "unicode/utf8", byteOffset := 1 }], 2, 2, .agg #[.int .u8 0, .int .u8 0]⟩ := by kernel_rfl
@[simp] theorem ty198 : tyOf Tryd.prog 198 = some ⟨.struct #[{ name := "lo", type := 5, offset := 0, embedded := false, tag := "", pkgPath := "unicode/utf8", byteOffset := 0 }, { name := "hi", type := 5, offset := 1, embedded := false, tag := "", pkgPath := "unicode/utf8", byteOffset := 1 }], 2, 2, .agg #[.int .u8 0, .int .u8 0]⟩ := by kernel_rfl
@[simp] theorem ty199 : tyOf Tryd.prog 199 = some ⟨.array 16 198, 32, 32, .agg #[.int .u8 0, .int .u8 0, .int .u8 0, .int .u8 0, .int .u8 0, .int .u8 0, .int .u8 0, .int .u8 0, .int .u8 0, .int .u8 0, .int .u8 0, .int .u8 0, .int .u8 0, .int .u8 0, .int .u8 0, .int .u8 0, .int .u8 0, .int .u8 0, .int .u8 0, .int .u8 0, .int .u8 0, .int .u8 0, .int .u8 0, .int .u8 0, .int .u8 0, .int .u8 0, .int .u8 0, .int .u8 0, .int .u8 0, .int .u8 0, .int .u8 0, .int .u8 0]⟩ := by kernel_rfl
@[simp] theorem ty200 : tyOf Tryd.prog 200 = some ⟨.func #[9, 5] #[3] false, 1, 8, .nilFunc⟩ := by kernel_rfl
@[simp] theorem ty201 : tyOf Tryd.prog 201 = some ⟨.func #[21] #[4] false, 1, 8, .nilFunc⟩ := by kernel_rfl
@[simp] theorem ty202 : tyOf Tryd.prog 202 = some ⟨.func #[9, 9] #[3] false, 1, 8, .nilFunc⟩ := by kernel_rfl
@[simp] theorem ty203 : tyOf Tryd.prog 203 = some ⟨.func #[155] #[155] false, 1, 8, .nilFunc⟩ := by kernel_rfl
@[simp] theorem ty204 : tyOf Tryd.prog 204 = some ⟨.func #[3] #[189] false, 1, 8, .nilFunc⟩ := by kernel_rfl
@[simp] theorem ty205 : tyOf Tryd.prog 205 = some ⟨.struct #[{ name := "_interface", type := 17, offset := 0, embedded := false, tag := "", pkgPath := "runtime", byteOffset := 0 }, { name := "concrete", type := 17, offset := 1, embedded := false, tag := "", pkgPath := "runtime", byteOffset := 8 }, { name := "asserted", type := 17, offset := 2, embedded := false, tag := "", pkgPath := "runtime", byteOffset := 16 }, { name := "missingMethod", type := 9, offset := 3, embedded := false, tag := "", pkgPath := "runtime", byteOffset := 24 }], 4, 40, .agg #[.pointer none, .pointer none, .pointer none, .string ⟨#[]⟩]⟩ := by kernel_rfl
@[simp] theorem ty207 : tyOf Tryd.prog 207 = some ⟨.array 0 16, 0, 0, .agg #[]⟩ := by kernel_rfl
@[simp] theorem ty208 : tyOf Tryd.prog 208 = some ⟨.struct #[{ name := "_", type := 207, offset := 0, embedded := false, tag := "", pkgPath := "runtime", byteOffset := 0 }], 0, 0, .agg #[]⟩ := by kernel_rfl
@[simp] theorem ty210 : tyOf Tryd.prog 210 = some ⟨.func #[] #[3] false, 1, 8, .nilFunc⟩ := by kernel_rfl
@[simp] theorem ty211 : tyOf Tryd.prog 211 = some ⟨.func #[] #[17] false, 1, 8, .nilFunc⟩ := by kernel_rfl
@[simp] theorem ty212 : tyOf Tryd.prog 212 = some ⟨.int .u32, 1, 4, .int .u32 0⟩ := by kernel_rfl
@[simp] theorem ty214 : tyOf Tryd.prog 214 = some ⟨.func #[155, 155] #[4] false, 1, 8, .nilFunc⟩ := by kernel_rfl
@[simp] theorem ty217 : tyOf Tryd.prog 217 = some ⟨.struct #[{ name := "Size_", type := 12, offset := 0, embedded := false, tag := "", pkgPath := "", byteOffset := 0 }, { name := "PtrBytes", type := 12, offset := 1, embedded := false, tag := "", pkgPath := "", byteOffset := 8 }, { name := "Hash", type := 212, offset := 2, embedded := false, tag := "", pkgPath := "", byteOffset := 16 }, { name := "TFlag", type := 213, offset := 3, embedded := false, tag := "", pkgPath := "", byteOffset := 20 }, { name := "Align_", type := 5, offset := 4, embedded := false, tag := "", pkgPath := "", byteOffset := 21 }, { name := "FieldAlign_", type := 5, offset := 5, embedded := false, tag := "", pkgPath := "", byteOffset := 22 }, { name := "Kind_", type := 163, offset := 6, embedded := false, tag := "", pkgPath := "", byteOffset := 23 }, { name := "Equal", type := 214, offset := 7, embedded := false, tag := "", pkgPath := "", byteOffset := 24 }, { name := "GCData", type := 195, offset := 8, embedded := false, tag := "", pkgPath := "", byteOffset := 32 }, { name := "Str", type := 215, offset := 9, embedded := false, tag := "", pkgPath := "", byteOffset := 40 }, { name := "PtrToThis", type := 216, offset := 10, embedded := false, tag := "", pkgPath := "", byteOffset := 44 }], 11, 48, .agg #[.int .u64 0, .int .u64 0, .int .u32 0, .int .u8 0, .int .u8 0, .int .u8 0, .int .u8 0, .nilFunc, .pointer none, .int .i32 0, .int .i32 0]⟩ := by kernel_rfl
@[simp] theorem ty219 : tyOf Tryd.prog 219 = some ⟨.func #[] #[12] false, 1, 8, .nilFunc⟩ := by kernel_rfl
@[simp] theorem ty220 : tyOf Tryd.prog 220 = some ⟨.func #[] #[223] false, 1, 8, .nilFunc⟩ := by kernel_rfl
@[simp] theorem ty221 : tyOf Tryd.prog 221 = some ⟨.struct #[{ name := "Method", type := 9, offset := 0, embedded := false, tag := "", pkgPath := "", byteOffset := 0 }, { name := "Kind", type := 163, offset := 1, embedded := false, tag := "", pkgPath := "", byteOffset := 16 }], 2, 24, .agg #[.string ⟨#[]⟩, .int .u8 0]⟩ := by kernel_rfl
@[simp] theorem ty223 : tyOf Tryd.prog 223 = some ⟨.pointer 227, 1, 8, .pointer none⟩ := by kernel_rfl
@[simp] theorem ty224 : tyOf Tryd.prog 224 = some ⟨.func #[] #[228] false, 1, 8, .nilFunc⟩ := by kernel_rfl
@[simp] theorem ty225 : tyOf Tryd.prog 225 = some ⟨.int .u16, 1, 2, .int .u16 0⟩ := by kernel_rfl
@[simp] theorem ty226 : tyOf Tryd.prog 226 = some ⟨.struct #[{ name := "PkgPath", type := 215, offset := 0, embedded := false, tag := "", pkgPath := "", byteOffset := 0 }, { name := "Mcount", type := 225, offset := 1, embedded := false, tag := "", pkgPath := "", byteOffset := 4 }, { name := "Xcount", type := 225, offset := 2, embedded := false, tag := "", pkgPath := "", byteOffset := 6 }, { name := "Moff", type := 212, offset := 3, embedded := false, tag := "", pkgPath := "", byteOffset := 8 }, { name := "_", type := 212, offset := 4, embedded := false, tag := "", pkgPath := "internal/abi", byteOffset := 12 }], 5, 16, .agg #[.int .i32 0, .int .u16 0, .int .u16 0, .int .u32 0, .int .u32 0]⟩ := by kernel_rfl
@[simp] theorem ty228 : tyOf Tryd.prog 228 = some ⟨.slice 231, 1, 24, .slice none 0 0⟩ := by kernel_rfl
@[simp] theorem ty230 : tyOf Tryd.prog 230 = some ⟨.struct #[{ name := "Name", type := 215, offset := 0, embedded := false, tag := "", pkgPath := "", byteOffset := 0 }, { name := "Mtyp", type := 216, offset := 1, embedded := false, tag := "", pkgPath := "", byteOffset := 4 }, { name := "Ifn", type := 229, offset := 2, embedded := false, tag := "", pkgPath := "", byteOffset := 8 }, { name := "Tfn", type := 229, offset := 3, embedded := false, tag := "", pkgPath := "", byteOffset := 12 }], 4, 16, .agg #[.int .i32 0, .int .i32 0, .int .i32 0, .int .i32 0]⟩ := by kernel_rfl
@[simp] theorem ty232 : tyOf Tryd.prog 232 = some ⟨.pointer 34, 1, 8, .pointer none⟩ := by kernel_rfl
end Go.Proofs.YtoikggboakojlaaDoor
