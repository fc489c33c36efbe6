/-
  Texts that belong together, in one file: Ty, F1, F2, F3, F4, F5, F6, F7, P1, P2, P3, F8, P6, M1, F10, F9, P4.
-/
import Derived.Test.YtoikggboakojlaaDoorBb2
import Derived.Test.YtoikggboakojlaaDoorProg
/-
  What the types of this seat's translation are: closed facts, by program (wip/tools/gen_ty.py).
-/
namespace Go.Proofs.YtoikggboakojlaaDoor
open Go.Av
@[simp] theorem ty0 : tyOf Tryd.prog 0 = some ⟨.tuple #[], 1, 0, .tuple #[]⟩ := by kernel_rfl
@[simp] theorem ty1 : tyOf Tryd.prog 1 = some ⟨.func #[] #[] false, 1, 8, .nilFunc⟩ := by kernel_rfl
@[simp] theorem ty2 : tyOf Tryd.prog 2 = some ⟨.int .i64, 1, 8, .int .i64 0⟩ := by kernel_rfl
@[simp] theorem ty3 : tyOf Tryd.prog 3 = some ⟨.int .i64, 1, 8, .int .i64 0⟩ := by kernel_rfl
@[simp] theorem ty4 : tyOf Tryd.prog 4 = some ⟨.bool, 1, 1, .bool false⟩ := by kernel_rfl
@[simp] theorem ty5 : tyOf Tryd.prog 5 = some ⟨.int .u8, 1, 1, .int .u8 0⟩ := by kernel_rfl
@[simp] theorem ty7 : tyOf Tryd.prog 7 = some ⟨.struct #[{ name := "x", type := 2, offset := 0, embedded := false, tag := "", pkgPath := "runtime", byteOffset := 0 }, { name := "y", type := 3, offset := 1, embedded := false, tag := "", pkgPath := "runtime", byteOffset := 8 }, { name := "signed", type := 4, offset := 2, embedded := false, tag := "", pkgPath := "runtime", byteOffset := 16 }, { name := "code", type := 6, offset := 3, embedded := false, tag := "", pkgPath := "runtime", byteOffset := 17 }], 4, 24, .agg #[.int .i64 0, .int .i64 0, .bool false, .int .u8 0]⟩ := by kernel_rfl
@[simp] theorem ty9 : tyOf Tryd.prog 9 = some ⟨.string, 1, 16, .string ⟨#[]⟩⟩ := by kernel_rfl
@[simp] theorem ty12 : tyOf Tryd.prog 12 = some ⟨.int .u64, 1, 8, .int .u64 0⟩ := by kernel_rfl
@[simp] theorem ty13 : tyOf Tryd.prog 13 = some ⟨.struct #[{ name := "msg", type := 9, offset := 0, embedded := false, tag := "", pkgPath := "runtime", byteOffset := 0 }, { name := "addr", type := 12, offset := 1, embedded := false, tag := "", pkgPath := "runtime", byteOffset := 16 }], 2, 24, .agg #[.string ⟨#[]⟩, .int .u64 0]⟩ := by kernel_rfl
@[simp] theorem ty15 : tyOf Tryd.prog 15 = some ⟨.pointer 206, 1, 8, .pointer none⟩ := by kernel_rfl
@[simp] theorem ty16 : tyOf Tryd.prog 16 = some ⟨.pointer 209, 1, 8, .pointer none⟩ := by kernel_rfl
@[simp] theorem ty17 : tyOf Tryd.prog 17 = some ⟨.pointer 218, 1, 8, .pointer none⟩ := by kernel_rfl
@[simp] theorem ty18 : tyOf Tryd.prog 18 = some ⟨.struct #[{ name := "typ", type := 17, offset := 0, embedded := false, tag := "", pkgPath := "internal/runtime/maps", byteOffset := 0 }], 1, 8, .agg #[.pointer none]⟩ := by kernel_rfl
@[simp] theorem ty20 : tyOf Tryd.prog 20 = some ⟨.interface #[], 1, 16, .nilIface⟩ := by kernel_rfl
@[simp] theorem ty21 : tyOf Tryd.prog 21 = some ⟨.int .i32, 1, 4, .int .i32 0⟩ := by kernel_rfl
@[simp] theorem ty22 : tyOf Tryd.prog 22 = some ⟨.func #[9] #[4] false, 1, 8, .nilFunc⟩ := by kernel_rfl
@[simp] theorem ty23 : tyOf Tryd.prog 23 = some ⟨.slice 32, 1, 24, .slice none 0 0⟩ := by kernel_rfl
@[simp] theorem ty24 : tyOf Tryd.prog 24 = some ⟨.struct #[{ name := "Next", type := 23, offset := 0, embedded := false, tag := "", pkgPath := "", byteOffset := 0 }, { name := "Tells", type := 23, offset := 1, embedded := false, tag := "", pkgPath := "", byteOffset := 24 }], 2, 48, .agg #[.slice none 0 0, .slice none 0 0]⟩ := by kernel_rfl
@[simp] theorem ty25 : tyOf Tryd.prog 25 = some ⟨.struct #[{ name := "Next", type := 23, offset := 0, embedded := false, tag := "", pkgPath := "", byteOffset := 0 }, { name := "Tells", type := 23, offset := 1, embedded := false, tag := "", pkgPath := "", byteOffset := 24 }], 2, 48, .agg #[.slice none 0 0, .slice none 0 0]⟩ := by kernel_rfl
@[simp] theorem ty26 : tyOf Tryd.prog 26 = some ⟨.struct #[{ name := "Next", type := 23, offset := 0, embedded := false, tag := "", pkgPath := "", byteOffset := 0 }, { name := "Tells", type := 23, offset := 1, embedded := false, tag := "", pkgPath := "", byteOffset := 24 }], 2, 48, .agg #[.slice none 0 0, .slice none 0 0]⟩ := by kernel_rfl
@[simp] theorem ty27 : tyOf Tryd.prog 27 = some ⟨.int .i64, 1, 8, .int .i64 0⟩ := by kernel_rfl
@[simp] theorem ty28 : tyOf Tryd.prog 28 = some ⟨.struct #[{ name := "Err", type := 27, offset := 0, embedded := false, tag := "", pkgPath := "", byteOffset := 0 }, { name := "Place", type := 3, offset := 1, embedded := false, tag := "", pkgPath := "", byteOffset := 8 }], 2, 16, .agg #[.int .i64 0, .int .i64 0]⟩ := by kernel_rfl
@[simp] theorem ty29 : tyOf Tryd.prog 29 = some ⟨.struct #[{ name := "Err", type := 27, offset := 0, embedded := false, tag := "", pkgPath := "", byteOffset := 0 }, { name := "Place", type := 3, offset := 1, embedded := false, tag := "", pkgPath := "", byteOffset := 8 }], 2, 16, .agg #[.int .i64 0, .int .i64 0]⟩ := by kernel_rfl
@[simp] theorem ty30 : tyOf Tryd.prog 30 = some ⟨.tuple #[26, 29, 4], 1, 0, .tuple #[.agg #[.slice none 0 0, .slice none 0 0], .agg #[.int .i64 0, .int .i64 0], .bool false]⟩ := by kernel_rfl
@[simp] theorem ty31 : tyOf Tryd.prog 31 = some ⟨.func #[25] #[26, 29, 4] false, 1, 8, .nilFunc⟩ := by kernel_rfl
@[simp] theorem ty32 : tyOf Tryd.prog 32 = some ⟨.slice 3, 1, 24, .slice none 0 0⟩ := by kernel_rfl
@[simp] theorem ty33 : tyOf Tryd.prog 33 = some ⟨.interface #[("Error", 100)], 1, 16, .nilIface⟩ := by kernel_rfl
@[simp] theorem ty34 : tyOf Tryd.prog 34 = some ⟨.interface #[("Error", 100)], 1, 16, .nilIface⟩ := by kernel_rfl
@[simp] theorem ty35 : tyOf Tryd.prog 35 = some ⟨.tuple #[32, 34], 1, 0, .tuple #[.slice none 0 0, .nilIface]⟩ := by kernel_rfl
@[simp] theorem ty36 : tyOf Tryd.prog 36 = some ⟨.func #[25] #[32, 34] false, 1, 8, .nilFunc⟩ := by kernel_rfl
@[simp] theorem ty37 : tyOf Tryd.prog 37 = some ⟨.tuple #[25, 34], 1, 0, .tuple #[.agg #[.slice none 0 0, .slice none 0 0], .nilIface]⟩ := by kernel_rfl
@[simp] theorem ty38 : tyOf Tryd.prog 38 = some ⟨.func #[25] #[25, 34] false, 1, 8, .nilFunc⟩ := by kernel_rfl
@[simp] theorem ty39 : tyOf Tryd.prog 39 = some ⟨.func #[34, 29] #[4] false, 1, 8, .nilFunc⟩ := by kernel_rfl
@[simp] theorem ty40 : tyOf Tryd.prog 40 = some ⟨.func #[25] #[34] false, 1, 8, .nilFunc⟩ := by kernel_rfl
@[simp] theorem ty41 : tyOf Tryd.prog 41 = some ⟨.func #[] #[26] false, 1, 8, .nilFunc⟩ := by kernel_rfl
@[simp] theorem ty42 : tyOf Tryd.prog 42 = some ⟨.func #[32, 32] #[4] false, 1, 8, .nilFunc⟩ := by kernel_rfl
@[simp] theorem ty43 : tyOf Tryd.prog 43 = some ⟨.func #[] #[32] false, 1, 8, .nilFunc⟩ := by kernel_rfl
@[simp] theorem ty44 : tyOf Tryd.prog 44 = some ⟨.func #[23, 23] #[4] false, 1, 8, .nilFunc⟩ := by kernel_rfl
@[simp] theorem ty45 : tyOf Tryd.prog 45 = some ⟨.func #[25] #[4] false, 1, 8, .nilFunc⟩ := by kernel_rfl
@[simp] theorem ty46 : tyOf Tryd.prog 46 = some ⟨.func #[25, 3, 3] #[32, 34] false, 1, 8, .nilFunc⟩ := by kernel_rfl
@[simp] theorem ty47 : tyOf Tryd.prog 47 = some ⟨.func #[25, 3, 32] #[32, 34] false, 1, 8, .nilFunc⟩ := by kernel_rfl
@[simp] theorem ty48 : tyOf Tryd.prog 48 = some ⟨.tuple #[32, 4], 1, 0, .tuple #[.slice none 0 0, .bool false]⟩ := by kernel_rfl
@[simp] theorem ty49 : tyOf Tryd.prog 49 = some ⟨.func #[3, 3] #[32, 4] false, 1, 8, .nilFunc⟩ := by kernel_rfl
@[simp] theorem ty50 : tyOf Tryd.prog 50 = some ⟨.func #[34, 27] #[4] false, 1, 8, .nilFunc⟩ := by kernel_rfl
@[simp] theorem ty51 : tyOf Tryd.prog 51 = some ⟨.func #[25, 3, 3, 32] #[4] false, 1, 8, .nilFunc⟩ := by kernel_rfl
@[simp] theorem ty52 : tyOf Tryd.prog 52 = some ⟨.func #[54] #[29] false, 1, 8, .nilFunc⟩ := by kernel_rfl
@[simp] theorem ty53 : tyOf Tryd.prog 53 = some ⟨.struct #[{ name := "Vars", type := 3, offset := 0, embedded := false, tag := "", pkgPath := "", byteOffset := 0 }, { name := "All", type := 23, offset := 1, embedded := false, tag := "", pkgPath := "", byteOffset := 8 }], 2, 32, .agg #[.int .i64 0, .slice none 0 0]⟩ := by kernel_rfl
@[simp] theorem ty54 : tyOf Tryd.prog 54 = some ⟨.struct #[{ name := "Vars", type := 3, offset := 0, embedded := false, tag := "", pkgPath := "", byteOffset := 0 }, { name := "All", type := 23, offset := 1, embedded := false, tag := "", pkgPath := "", byteOffset := 8 }], 2, 32, .agg #[.int .i64 0, .slice none 0 0]⟩ := by kernel_rfl
@[simp] theorem ty55 : tyOf Tryd.prog 55 = some ⟨.struct #[{ name := "Vars", type := 3, offset := 0, embedded := false, tag := "", pkgPath := "", byteOffset := 0 }, { name := "All", type := 23, offset := 1, embedded := false, tag := "", pkgPath := "", byteOffset := 8 }], 2, 32, .agg #[.int .i64 0, .slice none 0 0]⟩ := by kernel_rfl
@[simp] theorem ty56 : tyOf Tryd.prog 56 = some ⟨.slice 4, 1, 24, .slice none 0 0⟩ := by kernel_rfl
@[simp] theorem ty57 : tyOf Tryd.prog 57 = some ⟨.tuple #[56, 34], 1, 0, .tuple #[.slice none 0 0, .nilIface]⟩ := by kernel_rfl
@[simp] theorem ty58 : tyOf Tryd.prog 58 = some ⟨.func #[55] #[56, 34] false, 1, 8, .nilFunc⟩ := by kernel_rfl
@[simp] theorem ty59 : tyOf Tryd.prog 59 = some ⟨.func #[55] #[34] false, 1, 8, .nilFunc⟩ := by kernel_rfl
@[simp] theorem ty60 : tyOf Tryd.prog 60 = some ⟨.tuple #[56, 4], 1, 0, .tuple #[.slice none 0 0, .bool false]⟩ := by kernel_rfl
@[simp] theorem ty61 : tyOf Tryd.prog 61 = some ⟨.func #[54] #[56, 4] false, 1, 8, .nilFunc⟩ := by kernel_rfl
@[simp] theorem ty62 : tyOf Tryd.prog 62 = some ⟨.func #[56, 56] #[4] false, 1, 8, .nilFunc⟩ := by kernel_rfl
@[simp] theorem ty63 : tyOf Tryd.prog 63 = some ⟨.func #[3, 23] #[4] false, 1, 8, .nilFunc⟩ := by kernel_rfl
@[simp] theorem ty64 : tyOf Tryd.prog 64 = some ⟨.func #[25, 3] #[4] false, 1, 8, .nilFunc⟩ := by kernel_rfl
@[simp] theorem ty65 : tyOf Tryd.prog 65 = some ⟨.func #[] #[4] false, 1, 8, .nilFunc⟩ := by kernel_rfl
@[simp] theorem ty66 : tyOf Tryd.prog 66 = some ⟨.func #[3, 3] #[3] false, 1, 8, .nilFunc⟩ := by kernel_rfl
@[simp] theorem ty67 : tyOf Tryd.prog 67 = some ⟨.func #[34] #[27] false, 1, 8, .nilFunc⟩ := by kernel_rfl
@[simp] theorem ty68 : tyOf Tryd.prog 68 = some ⟨.slice 75, 1, 24, .slice none 0 0⟩ := by kernel_rfl
@[simp] theorem ty69 : tyOf Tryd.prog 69 = some ⟨.struct #[{ name := "Ahead", type := 68, offset := 0, embedded := false, tag := "", pkgPath := "", byteOffset := 0 }, { name := "Round", type := 68, offset := 1, embedded := false, tag := "", pkgPath := "", byteOffset := 24 }], 2, 48, .agg #[.slice none 0 0, .slice none 0 0]⟩ := by kernel_rfl
@[simp] theorem ty70 : tyOf Tryd.prog 70 = some ⟨.struct #[{ name := "Ahead", type := 68, offset := 0, embedded := false, tag := "", pkgPath := "", byteOffset := 0 }, { name := "Round", type := 68, offset := 1, embedded := false, tag := "", pkgPath := "", byteOffset := 24 }], 2, 48, .agg #[.slice none 0 0, .slice none 0 0]⟩ := by kernel_rfl
@[simp] theorem ty71 : tyOf Tryd.prog 71 = some ⟨.slice 126, 1, 24, .slice none 0 0⟩ := by kernel_rfl
@[simp] theorem ty72 : tyOf Tryd.prog 72 = some ⟨.pointer 79, 1, 8, .pointer none⟩ := by kernel_rfl
@[simp] theorem ty73 : tyOf Tryd.prog 73 = some ⟨.func #[71] #[72] false, 1, 8, .nilFunc⟩ := by kernel_rfl
@[simp] theorem ty74 : tyOf Tryd.prog 74 = some ⟨.func #[70, 72] #[56, 34] false, 1, 8, .nilFunc⟩ := by kernel_rfl
@[simp] theorem ty75 : tyOf Tryd.prog 75 = some ⟨.slice 9, 1, 24, .slice none 0 0⟩ := by kernel_rfl
@[simp] theorem ty76 : tyOf Tryd.prog 76 = some ⟨.func #[70, 71] #[4] false, 1, 8, .nilFunc⟩ := by kernel_rfl
@[simp] theorem ty77 : tyOf Tryd.prog 77 = some ⟨.slice 72, 1, 24, .slice none 0 0⟩ := by kernel_rfl
@[simp] theorem ty78 : tyOf Tryd.prog 78 = some ⟨.struct #[{ name := "Kind", type := 3, offset := 0, embedded := false, tag := "", pkgPath := "", byteOffset := 0 }, { name := "Name", type := 9, offset := 1, embedded := false, tag := "", pkgPath := "", byteOffset := 8 }, { name := "Of", type := 77, offset := 2, embedded := false, tag := "", pkgPath := "", byteOffset := 24 }], 3, 48, .agg #[.int .i64 0, .string ⟨#[]⟩, .slice none 0 0]⟩ := by kernel_rfl
@[simp] theorem ty79 : tyOf Tryd.prog 79 = some ⟨.struct #[{ name := "Kind", type := 3, offset := 0, embedded := false, tag := "", pkgPath := "", byteOffset := 0 }, { name := "Name", type := 9, offset := 1, embedded := false, tag := "", pkgPath := "", byteOffset := 8 }, { name := "Of", type := 77, offset := 2, embedded := false, tag := "", pkgPath := "", byteOffset := 24 }], 3, 48, .agg #[.int .i64 0, .string ⟨#[]⟩, .slice none 0 0]⟩ := by kernel_rfl
@[simp] theorem ty80 : tyOf Tryd.prog 80 = some ⟨.func #[3, 77] #[72] true, 1, 8, .nilFunc⟩ := by kernel_rfl
@[simp] theorem ty81 : tyOf Tryd.prog 81 = some ⟨.func #[72, 72] #[4] false, 1, 8, .nilFunc⟩ := by kernel_rfl
@[simp] theorem ty82 : tyOf Tryd.prog 82 = some ⟨.func #[72] #[34] false, 1, 8, .nilFunc⟩ := by kernel_rfl
@[simp] theorem ty83 : tyOf Tryd.prog 83 = some ⟨.func #[70] #[34] false, 1, 8, .nilFunc⟩ := by kernel_rfl
@[simp] theorem ty84 : tyOf Tryd.prog 84 = some ⟨.func #[70, 71, 71] #[4] false, 1, 8, .nilFunc⟩ := by kernel_rfl
@[simp] theorem ty85 : tyOf Tryd.prog 85 = some ⟨.int .u64, 1, 8, .int .u64 0⟩ := by kernel_rfl
@[simp] theorem ty86 : tyOf Tryd.prog 86 = some ⟨.map 3 3, 1, 8, .map none⟩ := by kernel_rfl
@[simp] theorem ty87 : tyOf Tryd.prog 87 = some ⟨.tuple #[3, 4], 1, 0, .tuple #[.int .i64 0, .bool false]⟩ := by kernel_rfl
@[simp] theorem ty88 : tyOf Tryd.prog 88 = some ⟨.func #[3, 9, 3, 3] #[4] false, 1, 8, .nilFunc⟩ := by kernel_rfl
@[simp] theorem ty89 : tyOf Tryd.prog 89 = some ⟨.tuple #[72, 34], 1, 0, .tuple #[.pointer none, .nilIface]⟩ := by kernel_rfl
@[simp] theorem ty90 : tyOf Tryd.prog 90 = some ⟨.func #[72] #[72, 34] false, 1, 8, .nilFunc⟩ := by kernel_rfl
@[simp] theorem ty91 : tyOf Tryd.prog 91 = some ⟨.func #[72] #[9] false, 1, 8, .nilFunc⟩ := by kernel_rfl
@[simp] theorem ty92 : tyOf Tryd.prog 92 = some ⟨.pointer 134, 1, 8, .pointer none⟩ := by kernel_rfl
@[simp] theorem ty93 : tyOf Tryd.prog 93 = some ⟨.tuple #[92, 3, 4], 1, 0, .tuple #[.pointer none, .int .i64 0, .bool false]⟩ := by kernel_rfl
@[simp] theorem ty94 : tyOf Tryd.prog 94 = some ⟨.func #[71] #[92, 3, 4] false, 1, 8, .nilFunc⟩ := by kernel_rfl
@[simp] theorem ty95 : tyOf Tryd.prog 95 = some ⟨.struct #[{ name := "Ahead", type := 68, offset := 0, embedded := false, tag := "", pkgPath := "", byteOffset := 0 }, { name := "Round", type := 68, offset := 1, embedded := false, tag := "", pkgPath := "", byteOffset := 24 }], 2, 48, .agg #[.slice none 0 0, .slice none 0 0]⟩ := by kernel_rfl
@[simp] theorem ty96 : tyOf Tryd.prog 96 = some ⟨.func #[95] #[27] false, 1, 8, .nilFunc⟩ := by kernel_rfl
@[simp] theorem ty97 : tyOf Tryd.prog 97 = some ⟨.func #[92] #[4] false, 1, 8, .nilFunc⟩ := by kernel_rfl
@[simp] theorem ty98 : tyOf Tryd.prog 98 = some ⟨.func #[95, 3] #[4] false, 1, 8, .nilFunc⟩ := by kernel_rfl
@[simp] theorem ty99 : tyOf Tryd.prog 99 = some ⟨.func #[4] #[92] false, 1, 8, .nilFunc⟩ := by kernel_rfl
@[simp] theorem ty100 : tyOf Tryd.prog 100 = some ⟨.func #[] #[9] false, 1, 8, .nilFunc⟩ := by kernel_rfl
@[simp] theorem ty101 : tyOf Tryd.prog 101 = some ⟨.func #[71] #[4] false, 1, 8, .nilFunc⟩ := by kernel_rfl
@[simp] theorem ty102 : tyOf Tryd.prog 102 = some ⟨.func #[9, 9] #[9] false, 1, 8, .nilFunc⟩ := by kernel_rfl
@[simp] theorem ty103 : tyOf Tryd.prog 103 = some ⟨.func #[75, 9] #[4] false, 1, 8, .nilFunc⟩ := by kernel_rfl
@[simp] theorem ty104 : tyOf Tryd.prog 104 = some ⟨.func #[26] #[29] false, 1, 8, .nilFunc⟩ := by kernel_rfl
@[simp] theorem ty105 : tyOf Tryd.prog 105 = some ⟨.func #[25] #[23] false, 1, 8, .nilFunc⟩ := by kernel_rfl
@[simp] theorem ty106 : tyOf Tryd.prog 106 = some ⟨.func #[32] #[32] false, 1, 8, .nilFunc⟩ := by kernel_rfl
@[simp] theorem ty107 : tyOf Tryd.prog 107 = some ⟨.tuple #[27, 3], 1, 0, .tuple #[.int .i64 0, .int .i64 0]⟩ := by kernel_rfl
@[simp] theorem ty108 : tyOf Tryd.prog 108 = some ⟨.func #[34] #[27, 3] false, 1, 8, .nilFunc⟩ := by kernel_rfl
@[simp] theorem ty109 : tyOf Tryd.prog 109 = some ⟨.pointer 110, 1, 8, .pointer none⟩ := by kernel_rfl
@[simp] theorem ty110 : tyOf Tryd.prog 110 = some ⟨.struct #[{ name := "Err", type := 27, offset := 0, embedded := false, tag := "", pkgPath := "", byteOffset := 0 }, { name := "Place", type := 3, offset := 1, embedded := false, tag := "", pkgPath := "", byteOffset := 8 }], 2, 16, .agg #[.int .i64 0, .int .i64 0]⟩ := by kernel_rfl
@[simp] theorem ty111 : tyOf Tryd.prog 111 = some ⟨.func #[32, 112] #[4] false, 1, 8, .nilFunc⟩ := by kernel_rfl
@[simp] theorem ty112 : tyOf Tryd.prog 112 = some ⟨.func #[3] #[4] false, 1, 8, .nilFunc⟩ := by kernel_rfl
@[simp] theorem ty113 : tyOf Tryd.prog 113 = some ⟨.func #[] #[23] false, 1, 8, .nilFunc⟩ := by kernel_rfl
@[simp] theorem ty114 : tyOf Tryd.prog 114 = some ⟨.func #[23, 115] #[3] false, 1, 8, .nilFunc⟩ := by kernel_rfl
@[simp] theorem ty115 : tyOf Tryd.prog 115 = some ⟨.func #[32] #[4] false, 1, 8, .nilFunc⟩ := by kernel_rfl
@[simp] theorem ty116 : tyOf Tryd.prog 116 = some ⟨.func #[27] #[29] false, 1, 8, .nilFunc⟩ := by kernel_rfl
@[simp] theorem ty117 : tyOf Tryd.prog 117 = some ⟨.func #[3, 3, 3] #[4] false, 1, 8, .nilFunc⟩ := by kernel_rfl
@[simp] theorem ty118 : tyOf Tryd.prog 118 = some ⟨.pointer 120, 1, 8, .pointer none⟩ := by kernel_rfl
@[simp] theorem ty119 : tyOf Tryd.prog 119 = some ⟨.struct #[{ name := "Clauses", type := 55, offset := 0, embedded := true, tag := "", pkgPath := "", byteOffset := 0 }, { name := "of", type := 32, offset := 2, embedded := false, tag := "", pkgPath := "signalcabin/gate", byteOffset := 32 }, { name := "trail", type := 32, offset := 3, embedded := false, tag := "", pkgPath := "signalcabin/gate", byteOffset := 56 }, { name := "steps", type := 3, offset := 4, embedded := false, tag := "", pkgPath := "signalcabin/gate", byteOffset := 80 }], 5, 88, .agg #[.int .i64 0, .slice none 0 0, .slice none 0 0, .slice none 0 0, .int .i64 0]⟩ := by kernel_rfl
@[simp] theorem ty120 : tyOf Tryd.prog 120 = some ⟨.struct #[{ name := "Clauses", type := 55, offset := 0, embedded := true, tag := "", pkgPath := "", byteOffset := 0 }, { name := "of", type := 32, offset := 2, embedded := false, tag := "", pkgPath := "signalcabin/gate", byteOffset := 32 }, { name := "trail", type := 32, offset := 3, embedded := false, tag := "", pkgPath := "signalcabin/gate", byteOffset := 56 }, { name := "steps", type := 3, offset := 4, embedded := false, tag := "", pkgPath := "signalcabin/gate", byteOffset := 80 }], 5, 88, .agg #[.int .i64 0, .slice none 0 0, .slice none 0 0, .slice none 0 0, .int .i64 0]⟩ := by kernel_rfl
@[simp] theorem ty121 : tyOf Tryd.prog 121 = some ⟨.tuple #[4, 34], 1, 0, .tuple #[.bool false, .nilIface]⟩ := by kernel_rfl
@[simp] theorem ty122 : tyOf Tryd.prog 122 = some ⟨.func #[] #[4, 34] false, 1, 8, .nilFunc⟩ := by kernel_rfl
@[simp] theorem ty123 : tyOf Tryd.prog 123 = some ⟨.func #[34, 20] #[4] false, 1, 8, .nilFunc⟩ := by kernel_rfl
@[simp] theorem ty124 : tyOf Tryd.prog 124 = some ⟨.pointer 27, 1, 8, .pointer none⟩ := by kernel_rfl
@[simp] theorem ty125 : tyOf Tryd.prog 125 = some ⟨.struct #[{ name := "Kind", type := 3, offset := 0, embedded := false, tag := "", pkgPath := "", byteOffset := 0 }, { name := "A", type := 3, offset := 1, embedded := false, tag := "", pkgPath := "", byteOffset := 8 }, { name := "B", type := 3, offset := 2, embedded := false, tag := "", pkgPath := "", byteOffset := 16 }, { name := "Name", type := 9, offset := 3, embedded := false, tag := "", pkgPath := "", byteOffset := 24 }], 4, 40, .agg #[.int .i64 0, .int .i64 0, .int .i64 0, .string ⟨#[]⟩]⟩ := by kernel_rfl
@[simp] theorem ty126 : tyOf Tryd.prog 126 = some ⟨.struct #[{ name := "Kind", type := 3, offset := 0, embedded := false, tag := "", pkgPath := "", byteOffset := 0 }, { name := "A", type := 3, offset := 1, embedded := false, tag := "", pkgPath := "", byteOffset := 8 }, { name := "B", type := 3, offset := 2, embedded := false, tag := "", pkgPath := "", byteOffset := 16 }, { name := "Name", type := 9, offset := 3, embedded := false, tag := "", pkgPath := "", byteOffset := 24 }], 4, 40, .agg #[.int .i64 0, .int .i64 0, .int .i64 0, .string ⟨#[]⟩]⟩ := by kernel_rfl
@[simp] theorem ty127 : tyOf Tryd.prog 127 = some ⟨.func #[70, 72] #[56] false, 1, 8, .nilFunc⟩ := by kernel_rfl
@[simp] theorem ty128 : tyOf Tryd.prog 128 = some ⟨.tuple #[3, 27], 1, 0, .tuple #[.int .i64 0, .int .i64 0]⟩ := by kernel_rfl
@[simp] theorem ty129 : tyOf Tryd.prog 129 = some ⟨.func #[72, 3] #[3, 27] false, 1, 8, .nilFunc⟩ := by kernel_rfl
@[simp] theorem ty130 : tyOf Tryd.prog 130 = some ⟨.slice 68, 1, 24, .slice none 0 0⟩ := by kernel_rfl
@[simp] theorem ty131 : tyOf Tryd.prog 131 = some ⟨.func #[72, 4] #[72] false, 1, 8, .nilFunc⟩ := by kernel_rfl
@[simp] theorem ty132 : tyOf Tryd.prog 132 = some ⟨.slice 92, 1, 24, .slice none 0 0⟩ := by kernel_rfl
@[simp] theorem ty133 : tyOf Tryd.prog 133 = some ⟨.struct #[{ name := "Kind", type := 3, offset := 0, embedded := false, tag := "", pkgPath := "", byteOffset := 0 }, { name := "Name", type := 9, offset := 1, embedded := false, tag := "", pkgPath := "", byteOffset := 8 }, { name := "Of", type := 132, offset := 2, embedded := false, tag := "", pkgPath := "", byteOffset := 24 }], 3, 48, .agg #[.int .i64 0, .string ⟨#[]⟩, .slice none 0 0]⟩ := by kernel_rfl
@[simp] theorem ty134 : tyOf Tryd.prog 134 = some ⟨.struct #[{ name := "Kind", type := 3, offset := 0, embedded := false, tag := "", pkgPath := "", byteOffset := 0 }, { name := "Name", type := 9, offset := 1, embedded := false, tag := "", pkgPath := "", byteOffset := 8 }, { name := "Of", type := 132, offset := 2, embedded := false, tag := "", pkgPath := "", byteOffset := 24 }], 3, 48, .agg #[.int .i64 0, .string ⟨#[]⟩, .slice none 0 0]⟩ := by kernel_rfl
@[simp] theorem ty135 : tyOf Tryd.prog 135 = some ⟨.func #[3] #[3] false, 1, 8, .nilFunc⟩ := by kernel_rfl
@[simp] theorem ty136 : tyOf Tryd.prog 136 = some ⟨.func #[75, 9] #[3] false, 1, 8, .nilFunc⟩ := by kernel_rfl
@[simp] theorem ty137 : tyOf Tryd.prog 137 = some ⟨.func #[92] #[92] false, 1, 8, .nilFunc⟩ := by kernel_rfl
@[simp] theorem ty138 : tyOf Tryd.prog 138 = some ⟨.func #[3, 132] #[92] true, 1, 8, .nilFunc⟩ := by kernel_rfl
@[simp] theorem ty139 : tyOf Tryd.prog 139 = some ⟨.map 3 9, 1, 8, .map none⟩ := by kernel_rfl
@[simp] theorem ty140 : tyOf Tryd.prog 140 = some ⟨.func #[9, 5] #[9] false, 1, 8, .nilFunc⟩ := by kernel_rfl
@[simp] theorem ty143 : tyOf Tryd.prog 143 = some ⟨.tuple #[142, 4], 1, 0, .tuple #[.agg #[.bool false, .bool false, .bool false, .bool false, .bool false, .bool false, .bool false, .bool false, .bool false, .bool false, .bool false, .bool false, .bool false, .bool false, .bool false, .bool false, .bool false, .bool false, .bool false, .bool false, .bool false, .bool false, .bool false, .bool false, .bool false, .bool false, .bool false, .bool false, .bool false, .bool false, .bool false, .bool false, .bool false, .bool false, .bool false, .bool false, .bool false, .bool false, .bool false, .bool false, .bool false, .bool false, .bool false, .bool false, .bool false, .bool false, .bool false, .bool false, .bool false, .bool false, .bool false, .bool false, .bool false, .bool false, .bool false, .bool false, .bool false, .bool false, .bool false, .bool false, .bool false, .bool false, .bool false, .bool false, .bool false, .bool false, .bool false, .bool false, .bool false, .bool false, .bool false, .bool false, .bool false, .bool false, .bool false, .bool false, .bool false, .bool false, .bool false, .bool false, .bool false, .bool false, .bool false, .bool false, .bool false, .bool false, .bool false, .bool false, .bool false, .bool false, .bool false, .bool false, .bool false, .bool false, .bool false, .bool false, .bool false, .bool false, .bool false, .bool false, .bool false, .bool false, .bool false, .bool false, .bool false, .bool false, .bool false, .bool false, .bool false, .bool false, .bool false, .bool false, .bool false, .bool false, .bool false, .bool false, .bool false, .bool false, .bool false, .bool false, .bool false, .bool false, .bool false, .bool false, .bool false, .bool false, .bool false, .bool false, .bool false, .bool false, .bool false, .bool false, .bool false, .bool false, .bool false, .bool false, .bool false, .bool false, .bool false, .bool false, .bool false, .bool false, .bool false, .bool false, .bool false, .bool false, .bool false, .bool false, .bool false, .bool false, .bool false, .bool false, .bool false, .bool false, .bool false, .bool false, .bool false, .bool false, .bool false, .bool false, .bool false, .bool false, .bool false, .bool false, .bool false, .bool false, .bool false, .bool false, .bool false, .bool false, .bool false, .bool false, .bool false, .bool false, .bool false, .bool false, .bool false, .bool false, .bool false, .bool false, .bool false, .bool false, .bool false, .bool false, .bool false, .bool false, .bool false, .bool false, .bool false, .bool false, .bool false, .bool false, .bool false, .bool false, .bool false, .bool false, .bool false, .bool false, .bool false, .bool false, .bool false, .bool false, .bool false, .bool false, .bool false, .bool false, .bool false, .bool false, .bool false, .bool false, .bool false, .bool false, .bool false, .bool false, .bool false, .bool false, .bool false, .bool false, .bool false, .bool false, .bool false, .bool false, .bool false, .bool false, .bool false, .bool false, .bool false, .bool false, .bool false, .bool false, .bool false, .bool false, .bool false, .bool false, .bool false, .bool false, .bool false, .bool false, .bool false, .bool false, .bool false, .bool false, .bool false, .bool false, .bool false, .bool false, .bool false, .bool false, .bool false, .bool false, .bool false, .bool false, .bool false, .bool false, .bool false, .bool false], .bool false]⟩ := by kernel_rfl
@[simp] theorem ty144 : tyOf Tryd.prog 144 = some ⟨.func #[9] #[142, 4] false, 1, 8, .nilFunc⟩ := by kernel_rfl
@[simp] theorem ty145 : tyOf Tryd.prog 145 = some ⟨.func #[9, 146] #[9] false, 1, 8, .nilFunc⟩ := by kernel_rfl
@[simp] theorem ty146 : tyOf Tryd.prog 146 = some ⟨.pointer 142, 1, 8, .pointer none⟩ := by kernel_rfl
@[simp] theorem ty147 : tyOf Tryd.prog 147 = some ⟨.func #[23] #[32] false, 1, 8, .nilFunc⟩ := by kernel_rfl
@[simp] theorem ty148 : tyOf Tryd.prog 148 = some ⟨.tuple #[109, 4], 1, 0, .tuple #[.pointer none, .bool false]⟩ := by kernel_rfl
@[simp] theorem ty149 : tyOf Tryd.prog 149 = some ⟨.interface #[("Unwrap", 151)], 1, 16, .nilIface⟩ := by kernel_rfl
@[simp] theorem ty150 : tyOf Tryd.prog 150 = some ⟨.tuple #[149, 4], 1, 0, .tuple #[.nilIface, .bool false]⟩ := by kernel_rfl
@[simp] theorem ty151 : tyOf Tryd.prog 151 = some ⟨.func #[] #[34] false, 1, 8, .nilFunc⟩ := by kernel_rfl
@[simp] theorem ty152 : tyOf Tryd.prog 152 = some ⟨.func #[32, 112] #[3] false, 1, 8, .nilFunc⟩ := by kernel_rfl
@[simp] theorem ty153 : tyOf Tryd.prog 153 = some ⟨.func #[3] #[] false, 1, 8, .nilFunc⟩ := by kernel_rfl
@[simp] theorem ty154 : tyOf Tryd.prog 154 = some ⟨.func #[32, 3] #[3] false, 1, 8, .nilFunc⟩ := by kernel_rfl
@[simp] theorem ty157 : tyOf Tryd.prog 157 = some ⟨.struct #[{ name := "typ_", type := 17, offset := 0, embedded := false, tag := "", pkgPath := "internal/reflectlite", byteOffset := 0 }, { name := "ptr", type := 155, offset := 1, embedded := false, tag := "", pkgPath := "internal/reflectlite", byteOffset := 8 }, { name := "flag", type := 156, offset := 2, embedded := true, tag := "", pkgPath := "internal/reflectlite", byteOffset := 16 }], 3, 24, .agg #[.pointer none, .pointer none, .int .u64 0]⟩ := by kernel_rfl
@[simp] theorem ty159 : tyOf Tryd.prog 159 = some ⟨.func #[20] #[158] false, 1, 8, .nilFunc⟩ := by kernel_rfl
@[simp] theorem ty160 : tyOf Tryd.prog 160 = some ⟨.interface #[("AssignableTo", 165), ("Comparable", 65), ("Elem", 162), ("Implements", 165), ("Kind", 164), ("Name", 100), ("PkgPath", 100), ("Size", 219), ("String", 100), ("internal/reflectlite.common", 211), ("internal/reflectlite.uncommon", 220)], 1, 16, .nilIface⟩ := by kernel_rfl
@[simp] theorem ty162 : tyOf Tryd.prog 162 = some ⟨.func #[] #[161] false, 1, 8, .nilFunc⟩ := by kernel_rfl
@[simp] theorem ty164 : tyOf Tryd.prog 164 = some ⟨.func #[] #[163] false, 1, 8, .nilFunc⟩ := by kernel_rfl
@[simp] theorem ty165 : tyOf Tryd.prog 165 = some ⟨.func #[161] #[4] false, 1, 8, .nilFunc⟩ := by kernel_rfl
@[simp] theorem ty166 : tyOf Tryd.prog 166 = some ⟨.func #[34, 20, 158, 161] #[4] false, 1, 8, .nilFunc⟩ := by kernel_rfl
@[simp] theorem ty167 : tyOf Tryd.prog 167 = some ⟨.slice 56, 1, 24, .slice none 0 0⟩ := by kernel_rfl
@[simp] theorem ty168 : tyOf Tryd.prog 168 = some ⟨.func #[3, 4] #[4] false, 1, 8, .nilFunc⟩ := by kernel_rfl
@[simp] theorem ty169 : tyOf Tryd.prog 169 = some ⟨.func #[4, 168] #[] false, 1, 8, .nilFunc⟩ := by kernel_rfl
@[simp] theorem ty170 : tyOf Tryd.prog 170 = some ⟨.array 11 3, 11, 88, .agg #[.int .i64 0, .int .i64 0, .int .i64 0, .int .i64 0, .int .i64 0, .int .i64 0, .int .i64 0, .int .i64 0, .int .i64 0, .int .i64 0, .int .i64 0]⟩ := by kernel_rfl
@[simp] theorem ty171 : tyOf Tryd.prog 171 = some ⟨.func #[75, 9] #[9] false, 1, 8, .nilFunc⟩ := by kernel_rfl
@[simp] theorem ty172 : tyOf Tryd.prog 172 = some ⟨.func #[5] #[4] false, 1, 8, .nilFunc⟩ := by kernel_rfl
@[simp] theorem ty173 : tyOf Tryd.prog 173 = some ⟨.tuple #[21, 3], 1, 0, .tuple #[.int .i32 0, .int .i64 0]⟩ := by kernel_rfl
@[simp] theorem ty174 : tyOf Tryd.prog 174 = some ⟨.func #[9] #[21, 3] false, 1, 8, .nilFunc⟩ := by kernel_rfl
@[simp] theorem ty175 : tyOf Tryd.prog 175 = some ⟨.func #[9, 21] #[4] false, 1, 8, .nilFunc⟩ := by kernel_rfl
@[simp] theorem ty176 : tyOf Tryd.prog 176 = some ⟨.struct #[{ name := "Type", type := 17, offset := 0, embedded := true, tag := "", pkgPath := "", byteOffset := 0 }], 1, 8, .agg #[.pointer none]⟩ := by kernel_rfl
@[simp] theorem ty178 : tyOf Tryd.prog 178 = some ⟨.pointer 222, 1, 8, .pointer none⟩ := by kernel_rfl
@[simp] theorem ty179 : tyOf Tryd.prog 179 = some ⟨.func #[20] #[161] false, 1, 8, .nilFunc⟩ := by kernel_rfl
@[simp] theorem ty180 : tyOf Tryd.prog 180 = some ⟨.func #[] #[158] false, 1, 8, .nilFunc⟩ := by kernel_rfl
@[simp] theorem ty181 : tyOf Tryd.prog 181 = some ⟨.func #[158] #[] false, 1, 8, .nilFunc⟩ := by kernel_rfl
@[simp] theorem ty182 : tyOf Tryd.prog 182 = some ⟨.interface #[("As", 184)], 1, 16, .nilIface⟩ := by kernel_rfl
@[simp] theorem ty183 : tyOf Tryd.prog 183 = some ⟨.tuple #[182, 4], 1, 0, .tuple #[.nilIface, .bool false]⟩ := by kernel_rfl
@[simp] theorem ty184 : tyOf Tryd.prog 184 = some ⟨.func #[20] #[4] false, 1, 8, .nilFunc⟩ := by kernel_rfl
@[simp] theorem ty185 : tyOf Tryd.prog 185 = some ⟨.interface #[("Unwrap", 187)], 1, 16, .nilIface⟩ := by kernel_rfl
@[simp] theorem ty186 : tyOf Tryd.prog 186 = some ⟨.slice 34, 1, 24, .slice none 0 0⟩ := by kernel_rfl
@[simp] theorem ty187 : tyOf Tryd.prog 187 = some ⟨.func #[] #[186] false, 1, 8, .nilFunc⟩ := by kernel_rfl
@[simp] theorem ty188 : tyOf Tryd.prog 188 = some ⟨.pointer 191, 1, 8, .pointer none⟩ := by kernel_rfl
@[simp] theorem ty189 : tyOf Tryd.prog 189 = some ⟨.slice 5, 1, 24, .slice none 0 0⟩ := by kernel_rfl
@[simp] theorem ty190 : tyOf Tryd.prog 190 = some ⟨.struct #[{ name := "addr", type := 188, offset := 0, embedded := false, tag := "", pkgPath := "strings", byteOffset := 0 }, { name := "buf", type := 189, offset := 1, embedded := false, tag := "", pkgPath := "strings", byteOffset := 8 }], 2, 32, .agg #[.pointer none, .slice none 0 0]⟩ := by kernel_rfl
@[simp] theorem ty191 : tyOf Tryd.prog 191 = some ⟨.struct #[{ name := "addr", type := 188, offset := 0, embedded := false, tag := "", pkgPath := "strings", byteOffset := 0 }, { name := "buf", type := 189, offset := 1, embedded := false, tag := "", pkgPath := "strings", byteOffset := 8 }], 2, 32, .agg #[.pointer none, .slice none 0 0]⟩ := by kernel_rfl
@[simp] theorem ty192 : tyOf Tryd.prog 192 = some ⟨.tuple #[3, 34], 1, 0, .tuple #[.int .i64 0, .nilIface]⟩ := by kernel_rfl
@[simp] theorem ty193 : tyOf Tryd.prog 193 = some ⟨.func #[9] #[3, 34] false, 1, 8, .nilFunc⟩ := by kernel_rfl
@[simp] theorem ty194 : tyOf Tryd.prog 194 = some ⟨.func #[9, 21] #[3] false, 1, 8, .nilFunc⟩ := by kernel_rfl
@[simp] theorem ty195 : tyOf Tryd.prog 195 = some ⟨.pointer 5, 1, 8, .pointer none⟩ := by kernel_rfl
@[simp] theorem ty197 : tyOf Tryd.prog 197 = some ⟨.struct #[{ name := "lo", type := 5, offset := 0, embedded := false, tag := "", pkgPath := "unicode/utf8", byteOffset := 0 }, { name := "hi", type := 5, offset := 1, embedded := false, tag := "", pkgPath := "unicode/utf8", byteOffset := 1 }], 2, 2, .agg #[.int .u8 0, .int .u8 0]⟩ := by kernel_rfl
@[simp] theorem ty198 : tyOf Tryd.prog 198 = some ⟨.struct #[{ name := "lo", type := 5, offset := 0, embedded := false, tag := "", pkgPath := "unicode/utf8", byteOffset := 0 }, { name := "hi", type := 5, offset := 1, embedded := false, tag := "", pkgPath := "unicode/utf8", byteOffset := 1 }], 2, 2, .agg #[.int .u8 0, .int .u8 0]⟩ := by kernel_rfl
@[simp] theorem ty199 : tyOf Tryd.prog 199 = some ⟨.array 16 198, 32, 32, .agg #[.int .u8 0, .int .u8 0, .int .u8 0, .int .u8 0, .int .u8 0, .int .u8 0, .int .u8 0, .int .u8 0, .int .u8 0, .int .u8 0, .int .u8 0, .int .u8 0, .int .u8 0, .int .u8 0, .int .u8 0, .int .u8 0, .int .u8 0, .int .u8 0, .int .u8 0, .int .u8 0, .int .u8 0, .int .u8 0, .int .u8 0, .int .u8 0, .int .u8 0, .int .u8 0, .int .u8 0, .int .u8 0, .int .u8 0, .int .u8 0, .int .u8 0, .int .u8 0]⟩ := by kernel_rfl
@[simp] theorem ty200 : tyOf Tryd.prog 200 = some ⟨.func #[9, 5] #[3] false, 1, 8, .nilFunc⟩ := by kernel_rfl
@[simp] theorem ty201 : tyOf Tryd.prog 201 = some ⟨.func #[21] #[4] false, 1, 8, .nilFunc⟩ := by kernel_rfl
@[simp] theorem ty202 : tyOf Tryd.prog 202 = some ⟨.func #[9, 9] #[3] false, 1, 8, .nilFunc⟩ := by kernel_rfl
@[simp] theorem ty203 : tyOf Tryd.prog 203 = some ⟨.func #[155] #[155] false, 1, 8, .nilFunc⟩ := by kernel_rfl
@[simp] theorem ty204 : tyOf Tryd.prog 204 = some ⟨.func #[3] #[189] false, 1, 8, .nilFunc⟩ := by kernel_rfl
@[simp] theorem ty205 : tyOf Tryd.prog 205 = some ⟨.struct #[{ name := "_interface", type := 17, offset := 0, embedded := false, tag := "", pkgPath := "runtime", byteOffset := 0 }, { name := "concrete", type := 17, offset := 1, embedded := false, tag := "", pkgPath := "runtime", byteOffset := 8 }, { name := "asserted", type := 17, offset := 2, embedded := false, tag := "", pkgPath := "runtime", byteOffset := 16 }, { name := "missingMethod", type := 9, offset := 3, embedded := false, tag := "", pkgPath := "runtime", byteOffset := 24 }], 4, 40, .agg #[.pointer none, .pointer none, .pointer none, .string ⟨#[]⟩]⟩ := by kernel_rfl
@[simp] theorem ty207 : tyOf Tryd.prog 207 = some ⟨.array 0 16, 0, 0, .agg #[]⟩ := by kernel_rfl
@[simp] theorem ty208 : tyOf Tryd.prog 208 = some ⟨.struct #[{ name := "_", type := 207, offset := 0, embedded := false, tag := "", pkgPath := "runtime", byteOffset := 0 }], 0, 0, .agg #[]⟩ := by kernel_rfl
@[simp] theorem ty210 : tyOf Tryd.prog 210 = some ⟨.func #[] #[3] false, 1, 8, .nilFunc⟩ := by kernel_rfl
@[simp] theorem ty211 : tyOf Tryd.prog 211 = some ⟨.func #[] #[17] false, 1, 8, .nilFunc⟩ := by kernel_rfl
@[simp] theorem ty212 : tyOf Tryd.prog 212 = some ⟨.int .u32, 1, 4, .int .u32 0⟩ := by kernel_rfl
@[simp] theorem ty214 : tyOf Tryd.prog 214 = some ⟨.func #[155, 155] #[4] false, 1, 8, .nilFunc⟩ := by kernel_rfl
@[simp] theorem ty217 : tyOf Tryd.prog 217 = some ⟨.struct #[{ name := "Size_", type := 12, offset := 0, embedded := false, tag := "", pkgPath := "", byteOffset := 0 }, { name := "PtrBytes", type := 12, offset := 1, embedded := false, tag := "", pkgPath := "", byteOffset := 8 }, { name := "Hash", type := 212, offset := 2, embedded := false, tag := "", pkgPath := "", byteOffset := 16 }, { name := "TFlag", type := 213, offset := 3, embedded := false, tag := "", pkgPath := "", byteOffset := 20 }, { name := "Align_", type := 5, offset := 4, embedded := false, tag := "", pkgPath := "", byteOffset := 21 }, { name := "FieldAlign_", type := 5, offset := 5, embedded := false, tag := "", pkgPath := "", byteOffset := 22 }, { name := "Kind_", type := 163, offset := 6, embedded := false, tag := "", pkgPath := "", byteOffset := 23 }, { name := "Equal", type := 214, offset := 7, embedded := false, tag := "", pkgPath := "", byteOffset := 24 }, { name := "GCData", type := 195, offset := 8, embedded := false, tag := "", pkgPath := "", byteOffset := 32 }, { name := "Str", type := 215, offset := 9, embedded := false, tag := "", pkgPath := "", byteOffset := 40 }, { name := "PtrToThis", type := 216, offset := 10, embedded := false, tag := "", pkgPath := "", byteOffset := 44 }], 11, 48, .agg #[.int .u64 0, .int .u64 0, .int .u32 0, .int .u8 0, .int .u8 0, .int .u8 0, .int .u8 0, .nilFunc, .pointer none, .int .i32 0, .int .i32 0]⟩ := by kernel_rfl
@[simp] theorem ty219 : tyOf Tryd.prog 219 = some ⟨.func #[] #[12] false, 1, 8, .nilFunc⟩ := by kernel_rfl
@[simp] theorem ty220 : tyOf Tryd.prog 220 = some ⟨.func #[] #[223] false, 1, 8, .nilFunc⟩ := by kernel_rfl
@[simp] theorem ty221 : tyOf Tryd.prog 221 = some ⟨.struct #[{ name := "Method", type := 9, offset := 0, embedded := false, tag := "", pkgPath := "", byteOffset := 0 }, { name := "Kind", type := 163, offset := 1, embedded := false, tag := "", pkgPath := "", byteOffset := 16 }], 2, 24, .agg #[.string ⟨#[]⟩, .int .u8 0]⟩ := by kernel_rfl
@[simp] theorem ty223 : tyOf Tryd.prog 223 = some ⟨.pointer 227, 1, 8, .pointer none⟩ := by kernel_rfl
@[simp] theorem ty224 : tyOf Tryd.prog 224 = some ⟨.func #[] #[228] false, 1, 8, .nilFunc⟩ := by kernel_rfl
@[simp] theorem ty225 : tyOf Tryd.prog 225 = some ⟨.int .u16, 1, 2, .int .u16 0⟩ := by kernel_rfl
@[simp] theorem ty226 : tyOf Tryd.prog 226 = some ⟨.struct #[{ name := "PkgPath", type := 215, offset := 0, embedded := false, tag := "", pkgPath := "", byteOffset := 0 }, { name := "Mcount", type := 225, offset := 1, embedded := false, tag := "", pkgPath := "", byteOffset := 4 }, { name := "Xcount", type := 225, offset := 2, embedded := false, tag := "", pkgPath := "", byteOffset := 6 }, { name := "Moff", type := 212, offset := 3, embedded := false, tag := "", pkgPath := "", byteOffset := 8 }, { name := "_", type := 212, offset := 4, embedded := false, tag := "", pkgPath := "internal/abi", byteOffset := 12 }], 5, 16, .agg #[.int .i32 0, .int .u16 0, .int .u16 0, .int .u32 0, .int .u32 0]⟩ := by kernel_rfl
@[simp] theorem ty228 : tyOf Tryd.prog 228 = some ⟨.slice 231, 1, 24, .slice none 0 0⟩ := by kernel_rfl
@[simp] theorem ty230 : tyOf Tryd.prog 230 = some ⟨.struct #[{ name := "Name", type := 215, offset := 0, embedded := false, tag := "", pkgPath := "", byteOffset := 0 }, { name := "Mtyp", type := 216, offset := 1, embedded := false, tag := "", pkgPath := "", byteOffset := 4 }, { name := "Ifn", type := 229, offset := 2, embedded := false, tag := "", pkgPath := "", byteOffset := 8 }, { name := "Tfn", type := 229, offset := 3, embedded := false, tag := "", pkgPath := "", byteOffset := 12 }], 4, 16, .agg #[.int .i32 0, .int .i32 0, .int .i32 0, .int .i32 0]⟩ := by kernel_rfl
@[simp] theorem ty232 : tyOf Tryd.prog 232 = some ⟨.pointer 34, 1, 8, .pointer none⟩ := by kernel_rfl
end Go.Proofs.YtoikggboakojlaaDoor

/-
  Lists of numbers that are told apart.
-/
namespace Go.Proofs.YtoikggboakojlaaDoor
set_option linter.unusedSimpArgs false
set_option linter.unusedVariables false
open Go.Av

def dInts (k : Option Bool) (l : List Int) : D := .sl k (l.map fun n => [.v (.int .i64 n)])

theorem take_eq_all {l l' : List Int} (hl : l.length = l'.length) (h : l.take l.length = l'.take l.length) : l = l' := by
  rw [List.take_length, hl, List.take_length] at h; exact h
theorem take_step {l l' : List Int} {k : Nat} (h : l.take k = l'.take k) (hk : k < l.length) (hk' : k < l'.length) (he : l[k] = l'[k]) : l.take (k + 1) = l'.take (k + 1) := by
  rw [List.take_succ_eq_append_getElem hk, List.take_succ_eq_append_getElem hk', h, he]

set_option maxHeartbeats 1000000 in
theorem equal_spec (G : Glob) (k k' : Option Bool) (l l' : List Int) (h : l.length < 2^63) : PureC Tryd.prog G 91 [dInts k l, dInts k' l'] (.v (.bool (l == l'))) := by
  refine PureC.of_body (tyOf_good _) Tryd.func91 rfl rfl (rs := [.tmp 4]) Tryd.results91 (by simp [Tryd.ntmps91]) fun X => ?_
  simp only [Tryd.ntmps91, List.map]
  refine AW_rg (tyOf_good _) [0, 1] [] (fun _ _ => trivial) fun K' hK' => ?_
  repeat (refine sxf_next fun K2 hK2 => ?_; simp; (repeat (refine ⟨by omega, ?_⟩)); refine hK2 _ ?_; clear hK2 K2)
  refine sxf_nil (hK' _ ?_)
  refine AW.st (by simp; rfl) ?_
  clear hK' K'
  refine AW_then fun K1 hK1 => ?_
  refine AW_rg (tyOf_good _) [0, 1, 10] [] (fun _ _ => trivial) fun K' hK' => ?_
  repeat (refine sxf_next fun K2 hK2 => ?_; simp [dInts]; (repeat (refine ⟨by omega, ?_⟩)); refine hK2 _ ?_; clear hK2 K2)
  refine sxf_nil (hK' _ ?_)
  refine AW.st (by simp [dInts]; rfl) ?_
  clear hK' K'
  refine AW_cond' (b := l.length ≠ l'.length) (by simp [D.le, D.le.go, takeMap]) (fun hc => ?_) (fun hc => ?_)
  · refine AW_rg (tyOf_good _) [4] [] (fun _ _ => trivial) fun K' hK' => ?_
    repeat (refine sxf_next fun K2 hK2 => ?_; simp; (repeat (refine ⟨by omega, ?_⟩)); refine hK2 _ ?_; clear hK2 K2)
    refine sxf_nil (hK' _ ?_)
    refine AW.st (by simp; rfl) ?_
    clear hK' K'
    refine AW_ret ?_
    simp [D.le, D.le.go, takeMap]
    intro e; subst e; simp at hc
  · refine AW_skip (hK1 _ ?_)
    have hl : l.length = l'.length := by simpa using hc
    refine AW_then fun K2 hK2 => ?_
    refine AW_rg (tyOf_good _) [0, 1, 12, 13] [] (fun _ _ => trivial) fun K' hK' => ?_
    repeat (refine sxf_next fun K2 hK2 => ?_; simp [dInts]; (repeat (refine ⟨by omega, ?_⟩)); refine hK2 _ ?_; clear hK2 K2)
    refine sxf_nil (hK' _ ?_)
    refine AW.st (by simp [dInts]; rfl) ?_
    clear hK' K'
    refine AW_for (S := Nat) (fun n => n ≤ l.length ∧ l.take n = l'.take n) (fun n => ⟨lst [(0, .d (dInts k l)), (1, .d (dInts k' l')), (12, int l.length), (13, int n)], hlst []⟩) (fun n => l.length - n) 0 ?_ (by simp) ?_
    · refine Imp.to' (fun _ _ => trivial) (by simp [dInts]) (by simp [dInts])
    · rintro n ⟨hn, ht⟩
      refine AW_rg (tyOf_good _) [0, 1, 12, 13, 14] [] (fun _ _ => trivial) fun K' hK' => ?_
      repeat (refine sxf_next fun K2 hK2 => ?_; simp; (repeat (refine ⟨by omega, ?_⟩)); refine hK2 _ ?_; clear hK2 K2)
      refine sxf_nil (hK' _ ?_)
      refine AW.st (by simp; rfl) ?_
      clear hK' K'
      refine AW_then fun K3 hK3 => ?_
      refine AW_cond' (b := n < l.length) (by simp [D.le, D.le.go, takeMap]) (fun hc => ?_) (fun hc => ?_)
      · refine AW_skip (hK3 _ ?_)
        refine AW_then fun K4 hK4 => ?_
        refine AW_block ?_
        refine AW_rg (tyOf_good _) [0, 1, 5, 12, 13] [] (fun _ _ => trivial) fun K' hK' => ?_
        repeat (refine sxf_next fun K2 hK2 => ?_; simp; (repeat (refine ⟨by omega, ?_⟩)); refine hK2 _ ?_; clear hK2 K2)
        refine sxf_nil (hK' _ ?_)
        refine AW.st (by simp; rfl) ?_
        clear hK' K'
        have hn' : n < l'.length := by omega
        refine AW_rd (tyOf_good _) (by kernel_rfl) [0, 1, 12, 13, 24] [] (fun _ _ => trivial) (by kernel_rfl) fun K' hK' => ?_
        repeat (refine sxd_next fun K2 hK2 => ?_; simp [dInts, hc, hn']; (repeat (refine ⟨by omega, ?_⟩)); refine hK2 _ ?_; clear hK2 K2)
        refine sxd_nil (hK' _ ?_)
        refine AW.st (by simp [dInts, hc, hn']; rfl) ?_
        clear hK' K'
        refine AW_cond' (b := ¬ l[n] = l'[n]) (by simp [D.le, D.le.go, takeMap]) (fun hc => ?_) (fun hc => ?_)
        · refine AW_rg (tyOf_good _) [4] [] (fun _ _ => trivial) fun K' hK' => ?_
          repeat (refine sxf_next fun K2 hK2 => ?_; simp; (repeat (refine ⟨by omega, ?_⟩)); refine hK2 _ ?_; clear hK2 K2)
          refine sxf_nil (hK' _ ?_)
          refine AW.st (by simp; rfl) ?_
          clear hK' K'
          refine AW_ret ?_
          simp [D.le, D.le.go, takeMap]
          intro e; subst e; simp at hc
        · refine AW_skip (hK4 _ ?_)
          refine AW_re (tyOf_good _) fun K' hK' => ?_
          repeat (refine sxf_next fun K2 hK2 => ?_; simp; (repeat (refine ⟨by omega, ?_⟩)); refine hK2 _ ?_; clear hK2 K2)
          refine sxf_nil (hK' _ ?_)
          clear hK' K'
          try simp only [thn, inb]
          have he : l[n] = l'[n] := by simpa using hc
          refine Again.mk (n + 1) ⟨by omega, take_step ht (by omega) hn' he⟩ (by omega) ?_
          refine Imp.to' (fun _ _ => trivial) (by simp [dInts]) (by simp [dInts])
      · refine AW_exit (hK2 _ ?_)
        refine AW_rg (tyOf_good _) [4] [] (fun _ _ => trivial) fun K' hK' => ?_
        repeat (refine sxf_next fun K2 hK2 => ?_; simp; (repeat (refine ⟨by omega, ?_⟩)); refine hK2 _ ?_; clear hK2 K2)
        refine sxf_nil (hK' _ ?_)
        refine AW.st (by simp; rfl) ?_
        clear hK' K'
        refine AW_ret ?_
        simp [D.le, D.le.go, takeMap]
        have hnn : n = l.length := by omega
        subst hnn
        exact take_eq_all hl ht

set_option maxHeartbeats 1000000 in
theorem sameInts_spec (G : Glob) (k k' : Option Bool) (l l' : List Int) (h : l.length < 2^63) : PureC Tryd.prog G 37 [dInts k l, dInts k' l'] (.v (.bool (l == l'))) := by
  refine PureC.of_body (tyOf_good _) Tryd.func37 rfl rfl (rs := [.tmp 4]) Tryd.results37 (by simp [Tryd.ntmps37]) fun X => ?_
  simp only [Tryd.ntmps37, List.map]
  refine AW_rg (tyOf_good _) [0, 1] [] (fun _ _ => trivial) fun K' hK' => ?_
  repeat (refine sxf_next fun K2 hK2 => ?_; simp; (repeat (refine ⟨by omega, ?_⟩)); refine hK2 _ ?_; clear hK2 K2)
  refine sxf_nil (hK' _ ?_)
  refine AW.st (by simp; rfl) ?_
  clear hK' K'
  refine AW_then fun K1 hK1 => ?_
  refine AW_rg (tyOf_good _) [0, 1, 10] [] (fun _ _ => trivial) fun K' hK' => ?_
  repeat (refine sxf_next fun K2 hK2 => ?_; simp [dInts]; (repeat (refine ⟨by omega, ?_⟩)); refine hK2 _ ?_; clear hK2 K2)
  refine sxf_nil (hK' _ ?_)
  refine AW.st (by simp [dInts]; rfl) ?_
  clear hK' K'
  refine AW_cond' (b := l.length ≠ l'.length) (by simp [D.le, D.le.go, takeMap]) (fun hc => ?_) (fun hc => ?_)
  · refine AW_rg (tyOf_good _) [4] [] (fun _ _ => trivial) fun K' hK' => ?_
    repeat (refine sxf_next fun K2 hK2 => ?_; simp; (repeat (refine ⟨by omega, ?_⟩)); refine hK2 _ ?_; clear hK2 K2)
    refine sxf_nil (hK' _ ?_)
    refine AW.st (by simp; rfl) ?_
    clear hK' K'
    refine AW_ret ?_
    simp [D.le, D.le.go, takeMap]
    intro e; subst e; simp at hc
  · refine AW_skip (hK1 _ ?_)
    have hl : l.length = l'.length := by simpa using hc
    refine AW_then fun K2 hK2 => ?_
    refine AW_rg (tyOf_good _) [0, 1, 5] [] (fun _ _ => trivial) fun K' hK' => ?_
    repeat (refine sxf_next fun K2 hK2 => ?_; simp [dInts]; (repeat (refine ⟨by omega, ?_⟩)); refine hK2 _ ?_; clear hK2 K2)
    refine sxf_nil (hK' _ ?_)
    refine AW.st (by simp [dInts]; rfl) ?_
    clear hK' K'
    refine AW_for (S := Nat) (fun n => n ≤ l.length ∧ l.take n = l'.take n) (fun n => ⟨lst [(0, .d (dInts k l)), (1, .d (dInts k' l')), (5, int n)], hlst []⟩) (fun n => l.length - n) 0 ?_ (by simp) ?_
    · refine Imp.to' (fun _ _ => trivial) (by simp [dInts]) (by simp [dInts])
    · rintro n ⟨hn, ht⟩
      refine AW_then fun K3 hK3 => ?_
      refine AW_rg (tyOf_good _) [0, 1, 5, 14] [] (fun _ _ => trivial) fun K' hK' => ?_
      repeat (refine sxf_next fun K2 hK2 => ?_; simp [dInts]; (repeat (refine ⟨by omega, ?_⟩)); refine hK2 _ ?_; clear hK2 K2)
      refine sxf_nil (hK' _ ?_)
      refine AW.st (by simp [dInts]; rfl) ?_
      clear hK' K'
      refine AW_cond' (b := n < l.length) (by simp [D.le, D.le.go, takeMap]) (fun hc => ?_) (fun hc => ?_)
      · refine AW_skip (hK3 _ ?_)
        refine AW_then fun K4 hK4 => ?_
        refine AW_block ?_
        have hn' : n < l'.length := by omega
        refine AW_rd (tyOf_good _) (by kernel_rfl) [0, 1, 5, 25] [] (fun _ _ => trivial) (by kernel_rfl) fun K' hK' => ?_
        repeat (refine sxd_next fun K2 hK2 => ?_; simp [dInts, hc, hn']; (repeat (refine ⟨by omega, ?_⟩)); refine hK2 _ ?_; clear hK2 K2)
        refine sxd_nil (hK' _ ?_)
        refine AW.st (by simp [dInts, hc, hn']; rfl) ?_
        clear hK' K'
        refine AW_cond' (b := ¬ l[n] = l'[n]) (by simp [D.le, D.le.go, takeMap]) (fun hc => ?_) (fun hc => ?_)
        · refine AW_rg (tyOf_good _) [4] [] (fun _ _ => trivial) fun K' hK' => ?_
          repeat (refine sxf_next fun K2 hK2 => ?_; simp; (repeat (refine ⟨by omega, ?_⟩)); refine hK2 _ ?_; clear hK2 K2)
          refine sxf_nil (hK' _ ?_)
          refine AW.st (by simp; rfl) ?_
          clear hK' K'
          refine AW_ret ?_
          simp [D.le, D.le.go, takeMap]
          intro e; subst e; simp at hc
        · refine AW_skip (hK4 _ ?_)
          refine AW_re (tyOf_good _) fun K' hK' => ?_
          repeat (refine sxf_next fun K2 hK2 => ?_; simp; (repeat (refine ⟨by omega, ?_⟩)); refine hK2 _ ?_; clear hK2 K2)
          refine sxf_nil (hK' _ ?_)
          clear hK' K'
          try simp only [thn, inb]
          have he : l[n] = l'[n] := by simpa using hc
          refine Again.mk (n + 1) ⟨by omega, take_step ht (by omega) hn' he⟩ (by omega) ?_
          refine Imp.to' (fun _ _ => trivial) (by simp [dInts]) (by simp [dInts])
      · refine AW_exit (hK2 _ ?_)
        refine AW_rg (tyOf_good _) [4] [] (fun _ _ => trivial) fun K' hK' => ?_
        repeat (refine sxf_next fun K2 hK2 => ?_; simp; (repeat (refine ⟨by omega, ?_⟩)); refine hK2 _ ?_; clear hK2 K2)
        refine sxf_nil (hK' _ ?_)
        refine AW.st (by simp; rfl) ?_
        clear hK' K'
        refine AW_ret ?_
        simp [D.le, D.le.go, takeMap]
        have hnn : n = l.length := by omega
        subst hnn
        exact take_eq_all hl ht
#print axioms equal_spec
#print axioms sameInts_spec
end Go.Proofs.YtoikggboakojlaaDoor

/-
  Searching by a function.
-/
namespace Go.Proofs.YtoikggboakojlaaDoor
set_option linter.unusedSimpArgs false
set_option linter.unusedVariables false
open Go.Av

/-- Where the first one is that fits, or -1. -/
def idx {α : Type} (p : α → Bool) (l : List α) : Int := match l.findIdx? p with
  | some i => i
  | none => -1

theorem idx_hit {α : Type} {p : α → Bool} {l : List α} {n : Nat} (hn : n < l.length) (h : p l[n] = true) (hb : ∀ i (hi : i < n), p (l[i]'(by omega)) = false) : idx p l = n := by
  unfold idx
  have : l.findIdx? p = some n := by
    rw [List.findIdx?_eq_some_iff_getElem]
    exact ⟨hn, h, fun j hj => by simpa using hb j hj⟩
  rw [this]
theorem idx_miss {α : Type} {p : α → Bool} {l : List α} (hb : ∀ i (hi : i < l.length), p l[i] = false) : idx p l = -1 := by
  unfold idx
  have : l.findIdx? p = none := by
    rw [List.findIdx?_eq_none_iff]
    intro x hx
    obtain ⟨i, hi, rfl⟩ := List.mem_iff_getElem.1 hx
    exact hb i hi
  rw [this]

/-- A function that answers as p does, of some data. -/
def Answers {α : Type} (G : Glob) (g : FuncId) (caps : List D) (enc : α → D) (p : α → Bool) (xs : List α) : Prop := ∀ x ∈ xs, PureC Tryd.prog G g (enc x :: caps) (.v (.bool (p x)))

set_option maxHeartbeats 1000000 in
theorem indexInt_spec {α : Type} (G : Glob) (k : Option Bool) (enc : α → D) (xs : List α) (g : FuncId) (caps : List D) (p : α → Bool) (hl : xs.length < 2^63) (ha : Answers G g caps enc p xs) :
    PureC Tryd.prog G 92 [.sl k (xs.map fun x => [enc x]), .fn (.func g) caps] (.v (.int .i64 (idx p xs))) := by
  refine PureC.of_body (tyOf_good _) Tryd.func92 rfl rfl (rs := [.tmp 4]) Tryd.results92 (by simp [Tryd.ntmps92]) fun X => ?_
  simp only [Tryd.ntmps92, List.map]
  refine AW_rg (tyOf_good _) [0, 1] [] (fun _ _ => trivial) fun K' hK' => ?_
  repeat (refine sxf_next fun K2 hK2 => ?_; simp; (repeat (refine ⟨by omega, ?_⟩)); refine hK2 _ ?_; clear hK2 K2)
  refine sxf_nil (hK' _ ?_)
  refine AW.st (by simp; rfl) ?_
  clear hK' K'
  refine AW_then fun K1 hK1 => ?_
  refine AW_rg (tyOf_good _) [0, 1, 7, 8] [] (fun _ _ => trivial) fun K' hK' => ?_
  repeat (refine sxf_next fun K2 hK2 => ?_; simp; (repeat (refine ⟨by omega, ?_⟩)); refine hK2 _ ?_; clear hK2 K2)
  refine sxf_nil (hK' _ ?_)
  refine AW.st (by simp; rfl) ?_
  clear hK' K'
  refine AW_for (S := Nat) (fun n => n ≤ xs.length ∧ ∀ i (hi : i < xs.length), i < n → p xs[i] = false) (fun n => ⟨lst [(0, .d (.sl k (xs.map fun x => [enc x]))), (1, .d (.fn (.func g) caps)), (7, int xs.length), (8, int n)], hlst []⟩) (fun n => xs.length - n) 0 ?_ (by simp) ?_
  · refine Imp.to' (fun _ _ => trivial) (by simp) (by simp)
  · rintro n ⟨hn, hp⟩
    refine AW_rg (tyOf_good _) [0, 1, 7, 8, 9] [] (fun _ _ => trivial) fun K' hK' => ?_
    repeat (refine sxf_next fun K2 hK2 => ?_; simp; (repeat (refine ⟨by omega, ?_⟩)); refine hK2 _ ?_; clear hK2 K2)
    refine sxf_nil (hK' _ ?_)
    refine AW.st (by simp; rfl) ?_
    clear hK' K'
    refine AW_then fun K2 hK2 => ?_
    refine AW_cond' (b := n < xs.length) (by simp [D.le, D.le.go, takeMap]) (fun hc => ?_) (fun hc => ?_)
    · refine AW_skip (hK2 _ ?_)
      refine AW_then fun K3 hK3 => ?_
      refine AW_block ?_
      refine AW_rg (tyOf_good _) [0, 1, 5, 7, 8] [] (fun _ _ => trivial) fun K' hK' => ?_
      repeat (refine sxf_next fun K2 hK2 => ?_; simp; (repeat (refine ⟨by omega, ?_⟩)); refine hK2 _ ?_; clear hK2 K2)
      refine sxf_nil (hK' _ ?_)
      refine AW.st (by simp; rfl) ?_
      clear hK' K'
      refine AW_rg (tyOf_good _) [0, 1, 5, 7, 8, 16] [] (fun _ _ => trivial) fun K' hK' => ?_
      repeat (refine sxf_next fun K2 hK2 => ?_; simp [hc]; (repeat (refine ⟨by omega, ?_⟩)); refine hK2 _ ?_; clear hK2 K2)
      refine sxf_next fun K2 hK2 => ?_
      simp [hc]
      refine callK.data (ha xs[n] (by simp)) (by simp; rfl) (by first | exact D.leGo_refl _ | simp [takeMap, List.map_map, Function.comp_def, D.le, D.le.go, D.le_refl, D.leGo_refl, hc]) ?_
      refine hK2 _ ?_
      clear hK2 K2
      simp only [putd, upd_lst]
      repeat (refine sxf_next fun K2 hK2 => ?_; simp [hc]; (repeat (refine ⟨by omega, ?_⟩)); refine hK2 _ ?_; clear hK2 K2)
      refine sxf_nil (hK' _ ?_)
      refine AW.st (by simp [hc]; rfl) ?_
      clear hK' K'
      refine AW_cond _ rfl (fun hp2 => ?_) (fun hp2 => ?_)
      · refine AW_rg (tyOf_good _) [4] [] (fun _ _ => trivial) fun K' hK' => ?_
        repeat (refine sxf_next fun K2 hK2 => ?_; simp; (repeat (refine ⟨by omega, ?_⟩)); refine hK2 _ ?_; clear hK2 K2)
        refine sxf_nil (hK' _ ?_)
        refine AW.st (by simp; rfl) ?_
        clear hK' K'
        refine AW_ret ?_
        simp [D.le, D.le.go, takeMap]
        exact (idx_hit hc hp2 fun i hi => hp i (by omega) hi).symm
      · refine AW_skip (hK3 _ ?_)
        refine AW_re (tyOf_good _) fun K' hK' => ?_
        repeat (refine sxf_next fun K2 hK2 => ?_; simp; (repeat (refine ⟨by omega, ?_⟩)); refine hK2 _ ?_; clear hK2 K2)
        refine sxf_nil (hK' _ ?_)
        clear hK' K'
        try simp only [thn, inb]
        refine Again.mk (n + 1) ⟨by omega, fun i hi hin => ?_⟩ (by omega) ?_
        · by_cases h : i = n
          · subst h; exact hp2
          · exact hp i hi (by omega)
        refine Imp.to' (fun _ _ => trivial) (by simp) (by simp)
    · refine AW_exit (hK1 _ ?_)
      refine AW_rg (tyOf_good _) [4] [] (fun _ _ => trivial) fun K' hK' => ?_
      repeat (refine sxf_next fun K2 hK2 => ?_; simp; (repeat (refine ⟨by omega, ?_⟩)); refine hK2 _ ?_; clear hK2 K2)
      refine sxf_nil (hK' _ ?_)
      refine AW.st (by simp; rfl) ?_
      clear hK' K'
      refine AW_ret ?_
      simp [D.le, D.le.go, takeMap]
      exact (idx_miss fun i hi => hp i hi (by omega)).symm

set_option maxHeartbeats 1000000 in
theorem indexInts_spec {α : Type} (G : Glob) (k : Option Bool) (enc : α → D) (xs : List α) (g : FuncId) (caps : List D) (p : α → Bool) (hl : xs.length < 2^63) (ha : Answers G g caps enc p xs) :
    PureC Tryd.prog G 64 [.sl k (xs.map fun x => [enc x]), .fn (.func g) caps] (.v (.int .i64 (idx p xs))) := by
  refine PureC.of_body (tyOf_good _) Tryd.func64 rfl rfl (rs := [.tmp 4]) Tryd.results64 (by simp [Tryd.ntmps64]) fun X => ?_
  simp only [Tryd.ntmps64, List.map]
  refine AW_rg (tyOf_good _) [0, 1] [] (fun _ _ => trivial) fun K' hK' => ?_
  repeat (refine sxf_next fun K2 hK2 => ?_; simp; (repeat (refine ⟨by omega, ?_⟩)); refine hK2 _ ?_; clear hK2 K2)
  refine sxf_nil (hK' _ ?_)
  refine AW.st (by simp; rfl) ?_
  clear hK' K'
  refine AW_then fun K1 hK1 => ?_
  refine AW_rg (tyOf_good _) [0, 1, 7, 8] [] (fun _ _ => trivial) fun K' hK' => ?_
  repeat (refine sxf_next fun K2 hK2 => ?_; simp; (repeat (refine ⟨by omega, ?_⟩)); refine hK2 _ ?_; clear hK2 K2)
  refine sxf_nil (hK' _ ?_)
  refine AW.st (by simp; rfl) ?_
  clear hK' K'
  refine AW_for (S := Nat) (fun n => n ≤ xs.length ∧ ∀ i (hi : i < xs.length), i < n → p xs[i] = false) (fun n => ⟨lst [(0, .d (.sl k (xs.map fun x => [enc x]))), (1, .d (.fn (.func g) caps)), (7, int xs.length), (8, int n)], hlst []⟩) (fun n => xs.length - n) 0 ?_ (by simp) ?_
  · refine Imp.to' (fun _ _ => trivial) (by simp) (by simp)
  · rintro n ⟨hn, hp⟩
    refine AW_rg (tyOf_good _) [0, 1, 7, 8, 9] [] (fun _ _ => trivial) fun K' hK' => ?_
    repeat (refine sxf_next fun K2 hK2 => ?_; simp; (repeat (refine ⟨by omega, ?_⟩)); refine hK2 _ ?_; clear hK2 K2)
    refine sxf_nil (hK' _ ?_)
    refine AW.st (by simp; rfl) ?_
    clear hK' K'
    refine AW_then fun K2 hK2 => ?_
    refine AW_cond' (b := n < xs.length) (by simp [D.le, D.le.go, takeMap]) (fun hc => ?_) (fun hc => ?_)
    · refine AW_skip (hK2 _ ?_)
      refine AW_then fun K3 hK3 => ?_
      refine AW_block ?_
      refine AW_rg (tyOf_good _) [0, 1, 5, 7, 8] [] (fun _ _ => trivial) fun K' hK' => ?_
      repeat (refine sxf_next fun K2 hK2 => ?_; simp; (repeat (refine ⟨by omega, ?_⟩)); refine hK2 _ ?_; clear hK2 K2)
      refine sxf_nil (hK' _ ?_)
      refine AW.st (by simp; rfl) ?_
      clear hK' K'
      refine AW_rg (tyOf_good _) [0, 1, 5, 7, 8, 16] [] (fun _ _ => trivial) fun K' hK' => ?_
      repeat (refine sxf_next fun K2 hK2 => ?_; simp [hc]; (repeat (refine ⟨by omega, ?_⟩)); refine hK2 _ ?_; clear hK2 K2)
      refine sxf_next fun K2 hK2 => ?_
      simp [hc]
      refine callK.data (ha xs[n] (by simp)) (by simp; rfl) (by first | exact D.leGo_refl _ | simp [takeMap, List.map_map, Function.comp_def, D.le, D.le.go, D.le_refl, D.leGo_refl, hc]) ?_
      refine hK2 _ ?_
      clear hK2 K2
      simp only [putd, upd_lst]
      repeat (refine sxf_next fun K2 hK2 => ?_; simp [hc]; (repeat (refine ⟨by omega, ?_⟩)); refine hK2 _ ?_; clear hK2 K2)
      refine sxf_nil (hK' _ ?_)
      refine AW.st (by simp [hc]; rfl) ?_
      clear hK' K'
      refine AW_cond _ rfl (fun hp2 => ?_) (fun hp2 => ?_)
      · refine AW_rg (tyOf_good _) [4] [] (fun _ _ => trivial) fun K' hK' => ?_
        repeat (refine sxf_next fun K2 hK2 => ?_; simp; (repeat (refine ⟨by omega, ?_⟩)); refine hK2 _ ?_; clear hK2 K2)
        refine sxf_nil (hK' _ ?_)
        refine AW.st (by simp; rfl) ?_
        clear hK' K'
        refine AW_ret ?_
        simp [D.le, D.le.go, takeMap]
        exact (idx_hit hc hp2 fun i hi => hp i (by omega) hi).symm
      · refine AW_skip (hK3 _ ?_)
        refine AW_re (tyOf_good _) fun K' hK' => ?_
        repeat (refine sxf_next fun K2 hK2 => ?_; simp; (repeat (refine ⟨by omega, ?_⟩)); refine hK2 _ ?_; clear hK2 K2)
        refine sxf_nil (hK' _ ?_)
        clear hK' K'
        try simp only [thn, inb]
        refine Again.mk (n + 1) ⟨by omega, fun i hi hin => ?_⟩ (by omega) ?_
        · by_cases h : i = n
          · subst h; exact hp2
          · exact hp i hi (by omega)
        refine Imp.to' (fun _ _ => trivial) (by simp) (by simp)
    · refine AW_exit (hK1 _ ?_)
      refine AW_rg (tyOf_good _) [4] [] (fun _ _ => trivial) fun K' hK' => ?_
      repeat (refine sxf_next fun K2 hK2 => ?_; simp; (repeat (refine ⟨by omega, ?_⟩)); refine hK2 _ ?_; clear hK2 K2)
      refine sxf_nil (hK' _ ?_)
      refine AW.st (by simp; rfl) ?_
      clear hK' K'
      refine AW_ret ?_
      simp [D.le, D.le.go, takeMap]
      exact (idx_miss fun i hi => hp i hi (by omega)).symm

theorem idx_any {α : Type} (p : α → Bool) (l : List α) : decide (0 ≤ idx p l) = l.any p := by
  unfold idx
  split
  · rename_i i hi
    rw [List.findIdx?_eq_some_iff_getElem] at hi
    obtain ⟨h1, h2, _⟩ := hi
    have : l.any p = true := List.any_eq_true.2 ⟨_, List.getElem_mem h1, h2⟩
    rw [this]; simp
  · rename_i h
    rw [List.findIdx?_eq_none_iff] at h
    have : l.any p = false := by
      rw [List.any_eq_false]
      intro x hx
      simpa using h x hx
    rw [this]; simp

set_option maxHeartbeats 1000000 in
theorem containsInt_spec {α : Type} (G : Glob) (k : Option Bool) (enc : α → D) (xs : List α) (g : FuncId) (caps : List D) (p : α → Bool) (hl : xs.length < 2^63) (ha : Answers G g caps enc p xs) :
    PureC Tryd.prog G 61 [.sl k (xs.map fun x => [enc x]), .fn (.func g) caps] (.v (.bool (xs.any p))) := by
  refine PureC.of_body (tyOf_good _) Tryd.func61 rfl rfl (rs := [.tmp 4]) Tryd.results61 (by simp [Tryd.ntmps61]) fun X => ?_
  simp only [Tryd.ntmps61, List.map]
  refine AW_rg (tyOf_good _) [0, 1] [] (fun _ _ => trivial) fun K' hK' => ?_
  repeat (refine sxf_next fun K2 hK2 => ?_; simp; (repeat (refine ⟨by omega, ?_⟩)); refine hK2 _ ?_; clear hK2 K2)
  refine sxf_nil (hK' _ ?_)
  refine AW.st (by simp; rfl) ?_
  clear hK' K'
  refine AW_rg (tyOf_good _) [4] [] (fun _ _ => trivial) fun K' hK' => ?_
  repeat (refine sxf_next fun K2 hK2 => ?_; simp; (repeat (refine ⟨by omega, ?_⟩)); refine hK2 _ ?_; clear hK2 K2)
  refine sxf_next fun K2 hK2 => ?_
  simp
  refine callK.data (indexInt_spec G k enc xs g caps p hl ha) (by simp; rfl) (by first | exact D.leGo_refl _ | simp [takeMap, List.map_map, Function.comp_def, D.le, D.le.go, D.le_refl, D.leGo_refl]) ?_
  refine hK2 _ ?_
  clear hK2 K2
  simp only [putd, upd_lst]
  repeat (refine sxf_next fun K2 hK2 => ?_; simp; (repeat (refine ⟨by omega, ?_⟩)); refine hK2 _ ?_; clear hK2 K2)
  refine sxf_nil (hK' _ ?_)
  refine AW.st (by simp; rfl) ?_
  clear hK' K'
  refine AW_ret ?_
  simp [D.le, D.le.go, takeMap]
  exact idx_any p xs
#print axioms indexInt_spec
#print axioms indexInts_spec
#print axioms containsInt_spec
end Go.Proofs.YtoikggboakojlaaDoor

/-
  The closures; slices that are copied; lists that are numbered as they come.
-/
namespace Go.Proofs.YtoikggboakojlaaDoor
set_option linter.unusedSimpArgs false
set_option linter.unusedVariables false
open Go.Av

def dNum (n : Int) : D := .v (.int .i64 n)
def dRow (r : List Int) : D := dInts none r
def dRows (l : List (List Int)) : D := .sl none (l.map fun r => [dRow r])

theorem check1_spec (G : Glob) (x n : Int) : PureC Tryd.prog G 62 [dNum x, .ip [dNum n]] (.v (.bool (x < 0 || n ≤ x))) := by
  refine PureC.of_body (tyOf_good _) Tryd.func62 rfl rfl (rs := [.tmp 3]) Tryd.results62 (by simp [Tryd.ntmps62]) fun X => ?_
  simp only [Tryd.ntmps62, List.map]
  refine AW_rg (tyOf_good _) [0, 1] [] (fun _ _ => trivial) fun K' hK' => ?_
  repeat (refine sxf_next fun K2 hK2 => ?_; simp [dNum]; (repeat (refine ⟨by omega, ?_⟩)); refine hK2 _ ?_; clear hK2 K2)
  refine sxf_nil (hK' _ ?_)
  refine AW.st (by simp [dNum]; rfl) ?_
  clear hK' K'
  by_cases h : x < 0
  · refine AW_rg (tyOf_good _) [3] [] (fun _ _ => trivial) fun K' hK' => ?_
    repeat (refine sxf_next fun K2 hK2 => ?_; simp [dNum, h]; (repeat (refine ⟨by omega, ?_⟩)); refine hK2 _ ?_; clear hK2 K2)
    refine sxf_nil (hK' _ ?_)
    refine AW.st (by simp [dNum, h]; rfl) ?_
    clear hK' K'
    refine AW_ret ?_
    simp [D.le, D.le.go, takeMap]
    simp [h]
  · refine AW_rg (tyOf_good _) [3] [] (fun _ _ => trivial) fun K' hK' => ?_
    repeat (refine sxf_next fun K2 hK2 => ?_; simp [dNum, h]; (repeat (refine ⟨by omega, ?_⟩)); refine hK2 _ ?_; clear hK2 K2)
    refine sxf_nil (hK' _ ?_)
    refine AW.st (by simp [dNum, h]; rfl) ?_
    clear hK' K'
    refine AW_ret ?_
    simp [D.le, D.le.go, takeMap]
    simp [h]

theorem number1_spec (G : Glob) (l l' : List Int) (h : l.length < 2^63) : PureC Tryd.prog G 112 [dRow l, .ip [dRow l']] (.v (.bool (l == l'))) := by
  refine PureC.of_body (tyOf_good _) Tryd.func112 rfl rfl (rs := [.tmp 3]) Tryd.results112 (by simp [Tryd.ntmps112]) fun X => ?_
  simp only [Tryd.ntmps112, List.map]
  refine AW_rg (tyOf_good _) [0, 1] [] (fun _ _ => trivial) fun K' hK' => ?_
  repeat (refine sxf_next fun K2 hK2 => ?_; simp; (repeat (refine ⟨by omega, ?_⟩)); refine hK2 _ ?_; clear hK2 K2)
  refine sxf_nil (hK' _ ?_)
  refine AW.st (by simp; rfl) ?_
  clear hK' K'
  refine AW_rg (tyOf_good _) [3] [] (fun _ _ => trivial) fun K' hK' => ?_
  repeat (refine sxf_next fun K2 hK2 => ?_; simp; (repeat (refine ⟨by omega, ?_⟩)); refine hK2 _ ?_; clear hK2 K2)
  refine sxf_next fun K2 hK2 => ?_
  simp
  refine callK.data (equal_spec G none none l l' h) (by simp; rfl) (by first | exact D.leGo_refl _ | simp [takeMap, List.map_map, Function.comp_def, D.le, D.le.go, D.le_refl, D.leGo_refl]) ?_
  refine hK2 _ ?_
  clear hK2 K2
  simp only [putd, upd_lst]
  repeat (refine sxf_next fun K2 hK2 => ?_; simp; (repeat (refine ⟨by omega, ?_⟩)); refine hK2 _ ?_; clear hK2 K2)
  refine sxf_nil (hK' _ ?_)
  refine AW.st (by simp; rfl) ?_
  clear hK' K'
  refine AW_ret ?_
  simp [D.le, D.le.go, takeMap]

theorem part1_spec (G : Glob) (l : List Int) (a b : Nat) (ha : a < l.length) (hb : b < l.length) : PureC Tryd.prog G 65 [dRow l, .ip [dNum a], .ip [dNum b]] (.v (.bool (l[a] != l[b]))) := by
  refine PureC.of_body (tyOf_good _) Tryd.func65 rfl rfl (rs := [.tmp 4]) Tryd.results65 (by simp [Tryd.ntmps65]) fun X => ?_
  simp only [Tryd.ntmps65, List.map]
  refine AW_rg (tyOf_good _) [0, 1, 2] [] (fun _ _ => trivial) fun K' hK' => ?_
  repeat (refine sxf_next fun K2 hK2 => ?_; simp; (repeat (refine ⟨by omega, ?_⟩)); refine hK2 _ ?_; clear hK2 K2)
  refine sxf_nil (hK' _ ?_)
  refine AW.st (by simp; rfl) ?_
  clear hK' K'
  refine AW_rd (tyOf_good _) (by kernel_rfl) [4] [] (fun _ _ => trivial) (by kernel_rfl) fun K' hK' => ?_
  repeat (refine sxd_next fun K2 hK2 => ?_; simp [dNum, dRow, dInts, ha, hb]; (repeat (refine ⟨by omega, ?_⟩)); refine hK2 _ ?_; clear hK2 K2)
  refine sxd_nil (hK' _ ?_)
  refine AW.st (by simp [dNum, dRow, dInts, ha, hb]; rfl) ?_
  clear hK' K'
  refine AW_ret ?_
  simp [D.le, D.le.go, takeMap]

theorem clone_spec (G : Glob) (l : List Int) (h : l.length < 2^40) : PureC Tryd.prog G 59 [dRow l] (dRow l) := by
  refine PureC.of_body (tyOf_good _) Tryd.func59 rfl rfl (rs := [.tmp 2]) Tryd.results59 (by simp [Tryd.ntmps59]) fun X => ?_
  simp only [Tryd.ntmps59, List.map]
  refine AW.nilCase 0 rfl ?_ fun hl => ?_
  · refine AW_rg (tyOf_good _) [0] [] (fun _ _ => trivial) fun K' hK' => ?_
    repeat (refine sxf_next fun K2 hK2 => ?_; simp; (repeat (refine ⟨by omega, ?_⟩)); refine hK2 _ ?_; clear hK2 K2)
    refine sxf_nil (hK' _ ?_)
    refine AW.st (by simp; rfl) ?_
    clear hK' K'
    refine AW_then fun K1 hK1 => ?_
    refine AW_rg (tyOf_good _) [0, 4] [] (fun _ _ => trivial) fun K' hK' => ?_
    repeat (refine sxf_next fun K2 hK2 => ?_; simp [dRow, dInts]; (repeat (refine ⟨by omega, ?_⟩)); refine hK2 _ ?_; clear hK2 K2)
    refine sxf_nil (hK' _ ?_)
    refine AW.st (by simp [dRow, dInts]; rfl) ?_
    clear hK' K'
    refine AW_cond false rfl (fun hc => ?_) (fun hc => ?_)
    · cases hc
    refine AW_skip (hK1 _ ?_)
    refine AW_rg (tyOf_good _) [2] [5, 7] (fun _ _ => trivial) fun K' hK' => ?_
    repeat (refine sxf_next fun K2 hK2 => ?_; simp [dRow, dInts]; (repeat (refine ⟨by omega, ?_⟩)); refine hK2 _ ?_; clear hK2 K2)
    refine sxf_nil (hK' _ ?_)
    refine AW.st (by simp [dRow, dInts]; rfl) ?_
    clear hK' K'
    refine AW_ret ?_
    simp [D.le, D.le.go, takeMap, dRow, dInts]
  · refine AW_rg (tyOf_good _) [0] [] (fun _ _ => trivial) fun K' hK' => ?_
    repeat (refine sxf_next fun K2 hK2 => ?_; simp; (repeat (refine ⟨by omega, ?_⟩)); refine hK2 _ ?_; clear hK2 K2)
    refine sxf_nil (hK' _ ?_)
    refine AW.st (by simp; rfl) ?_
    clear hK' K'
    refine AW_then fun K1 hK1 => ?_
    refine AW_rg (tyOf_good _) [0, 4] [] (fun _ _ => trivial) fun K' hK' => ?_
    repeat (refine sxf_next fun K2 hK2 => ?_; simp [dRow, dInts]; (repeat (refine ⟨by omega, ?_⟩)); refine hK2 _ ?_; clear hK2 K2)
    refine sxf_nil (hK' _ ?_)
    refine AW.st (by simp [dRow, dInts]; rfl) ?_
    clear hK' K'
    refine AW_cond true rfl (fun hc => ?_) (fun hc => ?_)
    · refine AW_rg (tyOf_good _) [2] [] (fun _ _ => trivial) fun K' hK' => ?_
      repeat (refine sxf_next fun K2 hK2 => ?_; simp; (repeat (refine ⟨by omega, ?_⟩)); refine hK2 _ ?_; clear hK2 K2)
      refine sxf_nil (hK' _ ?_)
      refine AW.st (by simp; rfl) ?_
      clear hK' K'
      refine AW_ret ?_
      simp [D.le, D.le.go, takeMap, dRow, dInts]
      simpa using hl
    · cases hc
#print axioms check1_spec
#print axioms number1_spec
#print axioms part1_spec
#print axioms clone_spec
end Go.Proofs.YtoikggboakojlaaDoor

/-
  Lists are numbered as they come.
-/
namespace Go.Proofs.YtoikggboakojlaaDoor
set_option linter.unusedSimpArgs false
set_option linter.unusedVariables false
open Go.Av

def numStep (st : List (List Int) × List Int) (l : List Int) : List (List Int) × List Int :=
  if idx (fun x => x == l) st.1 < 0 then (st.1 ++ [l], st.2 ++ [(st.1.length : Int)]) else (st.1, st.2 ++ [idx (fun x => x == l) st.1])
def numSt (L : List (List Int)) (n : Nat) : List (List Int) × List Int := (L.take n).foldl numStep ([], [])
def numberF (L : List (List Int)) : List Int := (numSt L L.length).2

theorem numSt_succ {L : List (List Int)} {n : Nat} (hn : n < L.length) : numSt L (n + 1) = numStep (numSt L n) L[n] := by
  unfold numSt
  rw [List.take_succ_eq_append_getElem hn, List.foldl_append]
  rfl
theorem numStep_len (st : List (List Int) × List Int) (l : List Int) : (numStep st l).1.length ≤ st.1.length + 1 ∧ (numStep st l).2.length = st.2.length + 1 := by
  unfold numStep
  split <;> simp
theorem numSt_len {L : List (List Int)} : ∀ {n : Nat}, n ≤ L.length → (numSt L n).1.length ≤ n ∧ (numSt L n).2.length = n
  | 0, _ => by simp [numSt]
  | n + 1, h => by
    have ih := numSt_len (L := L) (n := n) (by omega)
    have := numStep_len (numSt L n) L[n]
    rw [numSt_succ (by omega)]
    omega
theorem numStep_mem {st : List (List Int) × List Int} {l : List Int} {P : List Int → Prop} (h : ∀ r ∈ st.1, P r) (hl : P l) : ∀ r ∈ (numStep st l).1, P r := by
  intro r hr
  unfold numStep at hr
  split at hr
  · simp at hr
    rcases hr with hr | rfl
    · exact h r hr
    · exact hl
  · exact h r hr
theorem numSt_mem {L : List (List Int)} {P : List Int → Prop} (h : ∀ r ∈ L, P r) : ∀ {n : Nat}, n ≤ L.length → ∀ r ∈ (numSt L n).1, P r
  | 0, _ => by simp [numSt]
  | n + 1, hn => by
    rw [numSt_succ (by omega)]
    exact numStep_mem (numSt_mem h (by omega)) (h _ (by simp))

set_option maxHeartbeats 1000000 in
theorem number_spec (G : Glob) (L : List (List Int)) (h : L.length < 2^40) (hr : ∀ r ∈ L, r.length < 2^40) : PureC Tryd.prog G 90 [dRows L] (dRow (numberF L)) := by
  refine PureC.of_body (tyOf_good _) Tryd.func90 rfl rfl (rs := [.tmp 2]) Tryd.results90 (by simp [Tryd.ntmps90]) fun X => ?_
  simp only [Tryd.ntmps90, List.map]
  refine AW_rg (tyOf_good _) [0] [] (fun _ _ => trivial) fun K' hK' => ?_
  repeat (refine sxf_next fun K2 hK2 => ?_; simp; (repeat (refine ⟨by omega, ?_⟩)); refine hK2 _ ?_; clear hK2 K2)
  refine sxf_nil (hK' _ ?_)
  refine AW.st (by simp; rfl) ?_
  clear hK' K'
  refine AW_rg (tyOf_good _) [0, 3] [] (fun _ _ => trivial) fun K' hK' => ?_
  repeat (refine sxf_next fun K2 hK2 => ?_; simp; (repeat (refine ⟨by omega, ?_⟩)); refine hK2 _ ?_; clear hK2 K2)
  refine sxf_nil (hK' _ ?_)
  refine AW.st (by simp; rfl) ?_
  clear hK' K'
  refine AW_rg (tyOf_good _) [0, 3, 4] [] (fun _ _ => trivial) fun K' hK' => ?_
  repeat (refine sxf_next fun K2 hK2 => ?_; simp; (repeat (refine ⟨by omega, ?_⟩)); refine hK2 _ ?_; clear hK2 K2)
  refine sxf_nil (hK' _ ?_)
  refine AW.st (by simp; rfl) ?_
  clear hK' K'
  refine AW_then fun K1 hK1 => ?_
  refine AW_rg (tyOf_good _) [3, 4, 8, 9, 10] [] (fun _ _ => trivial) fun K' hK' => ?_
  repeat (refine sxf_next fun K2 hK2 => ?_; simp [dRows]; (repeat (refine ⟨by omega, ?_⟩)); refine hK2 _ ?_; clear hK2 K2)
  refine sxf_nil (hK' _ ?_)
  refine AW.st (by simp [dRows]; rfl) ?_
  clear hK' K'
  refine AW_for (S := Nat) (fun n => n ≤ L.length) (fun n => ⟨lst [(3, .own 24 0 (numSt L n).1.length), (4, .own 28 0 (numSt L n).2.length), (8, .d (dRows L)), (9, int L.length), (10, int n)],
    hlst [(24, .sl 32 1 ((numSt L n).1.map fun r => [dRow r])), (28, .sl 3 1 ((numSt L n).2.map fun n => [dNum n]))]⟩) (fun n => L.length - n) 0 ?_ (by simp) ?_
  · refine (Imp.adopt 3 24 32 1 rfl rfl).trans ((Imp.adopt 4 28 3 1 rfl rfl).trans ?_)
    refine Imp.to' (fun _ _ => trivial) (by simp [dRows, numSt]) (by simp [dRows, numSt])
  · intro n hn
    obtain ⟨hl1, hl2⟩ := numSt_len hn
    have hmem := numSt_mem hr hn
    have hnext : ∀ h : n < L.length, numSt L (n + 1) = numStep (numSt L n) (L[n]'h) := numSt_succ
    generalize hst : numSt L n = st at hl1 hl2 hmem hnext
    obtain ⟨seen, out⟩ := st
    dsimp only at hl1 hl2 hmem
    refine AW_rg (tyOf_good _) [3, 4, 8, 9, 10, 11] [24, 28] (fun _ _ => trivial) fun K' hK' => ?_
    repeat (refine sxf_next fun K2 hK2 => ?_; simp; (repeat (refine ⟨by omega, ?_⟩)); refine hK2 _ ?_; clear hK2 K2)
    refine sxf_nil (hK' _ ?_)
    refine AW.st (by simp; rfl) ?_
    clear hK' K'
    refine AW_then fun K2 hK2 => ?_
    refine AW_cond' (b := n < L.length) (by simp [D.le, D.le.go, takeMap]) (fun hc => ?_) (fun hc => ?_)
    · refine AW_skip (hK2 _ ?_)
      have hL := hr L[n] (by simp)
      refine AW_then fun K3 hK3 => ?_
      refine AW_block ?_
      refine AW_rg (tyOf_good _) [3, 4, 6, 8, 9, 10] [6, 24, 28] (fun _ _ => trivial) fun K' hK' => ?_
      repeat (refine sxf_next fun K2 hK2 => ?_; simp [dRows, dRow, dInts, hc]; (repeat (refine ⟨by omega, ?_⟩)); refine hK2 _ ?_; clear hK2 K2)
      refine sxf_nil (hK' _ ?_)
      refine AW.st (by simp [dRows, dRow, dInts, hc]; rfl) ?_
      clear hK' K'
      refine AW_rg (tyOf_good _) [3, 4, 6, 7, 8, 9, 10] [6, 24, 28] (fun _ _ => trivial) fun K' hK' => ?_
      repeat (refine sxf_next fun K2 hK2 => ?_; simp [dRow, dInts]; (repeat (refine ⟨by omega, ?_⟩)); refine hK2 _ ?_; clear hK2 K2)
      refine sxf_next fun K2 hK2 => ?_
      simp [dRow, dInts]
      refine callK.lend (indexInts_spec G none dRow seen 112 [.ip [dRow L[n]]] (fun x => x == L[n]) (by omega) (fun x hx => number1_spec G x L[n] (by have := hmem x hx; omega))) (by simp; rfl) (by first | exact D.leGo_refl _ | simp [takeMap, List.map_map, Function.comp_def, D.le, D.le.go, D.le_refl, D.leGo_refl, dRow, dInts]) (by simp [D.scalar]) ?_
      refine hK2 _ ?_
      clear hK2 K2
      simp only [putd, upd_lst]
      repeat (refine sxf_next fun K2 hK2 => ?_; simp [dRow, dInts]; (repeat (refine ⟨by omega, ?_⟩)); refine hK2 _ ?_; clear hK2 K2)
      refine sxf_nil (hK' _ ?_)
      refine AW.st (by simp [dRow, dInts]; rfl) ?_
      clear hK' K'
      have hnx := hnext hc
      generalize hk : idx (fun x => x == L[n]) seen = k
      simp only [numStep, hk] at hnx
      refine AW_then fun K4 hK4 => ?_
      refine AW_rg (tyOf_good _) [3, 4, 6, 7, 8, 9, 10, 18] [6, 24, 28] (fun _ _ => trivial) fun K' hK' => ?_
      repeat (refine sxf_next fun K2 hK2 => ?_; simp; (repeat (refine ⟨by omega, ?_⟩)); refine hK2 _ ?_; clear hK2 K2)
      refine sxf_nil (hK' _ ?_)
      refine AW.st (by simp; rfl) ?_
      clear hK' K'
      refine AW_cond' (b := k < 0) (by simp [D.le, D.le.go, takeMap]) (fun hc => ?_) (fun hc => ?_)
      · rw [if_pos hc] at hnx
        refine AW_rg (tyOf_good _) [3, 4, 6, 7, 8, 9, 10] [6, 24, 28] (fun _ _ => trivial) fun K' hK' => ?_
        repeat (refine sxf_next fun K2 hK2 => ?_; simp; (repeat (refine ⟨by omega, ?_⟩)); refine hK2 _ ?_; clear hK2 K2)
        refine sxf_nil (hK' _ ?_)
        refine AW.st (by simp; rfl) ?_
        clear hK' K'
        refine AW_re (tyOf_good _) fun K' hK' => ?_
        repeat (refine sxf_next fun K2 hK2 => ?_; simp [takeMap]; (repeat (refine ⟨by omega, ?_⟩)); refine hK2 _ ?_; clear hK2 K2)
        refine sxf_nil (hK' _ ?_)
        clear hK' K'
        refine hK4 _ (AW.norm [3, 4, 7, 8, 9, 10] [24, 28] (fun _ _ => trivial) (AW.st (by simp [takeMap]; rfl) ?_))
        refine AW_re (tyOf_good _) fun K' hK' => ?_
        repeat (refine sxf_next fun K2 hK2 => ?_; simp [takeMap]; (repeat (refine ⟨by omega, ?_⟩)); refine hK2 _ ?_; clear hK2 K2)
        refine sxf_nil (hK' _ ?_)
        clear hK' K'
        refine hK3 _ (AW.norm [3, 4, 8, 9, 10] [24, 28] (fun _ _ => trivial) (AW.st (by simp [takeMap]; rfl) ?_))
        refine AW_re (tyOf_good _) fun K' hK' => ?_
        repeat (refine sxf_next fun K2 hK2 => ?_; simp; (repeat (refine ⟨by omega, ?_⟩)); refine hK2 _ ?_; clear hK2 K2)
        refine sxf_nil (hK' _ ?_)
        clear hK' K'
        try simp only [thn, inb]
        refine Again.mk (n + 1) (by omega) (by omega) ?_
        rw [hnx]
        refine Imp.to' (fun _ _ => trivial) (by simp [dRow, dInts, dNum, dRows]) (by simp [dRow, dInts, dNum, dRows])
      · rw [if_neg hc] at hnx
        refine AW_skip (hK4 _ ?_)
        refine AW_re (tyOf_good _) fun K' hK' => ?_
        repeat (refine sxf_next fun K2 hK2 => ?_; simp [takeMap]; (repeat (refine ⟨by omega, ?_⟩)); refine hK2 _ ?_; clear hK2 K2)
        refine sxf_nil (hK' _ ?_)
        clear hK' K'
        refine hK3 _ (AW.norm [3, 4, 8, 9, 10] [24, 28] (fun _ _ => trivial) (AW.st (by simp [takeMap]; rfl) ?_))
        refine AW_re (tyOf_good _) fun K' hK' => ?_
        repeat (refine sxf_next fun K2 hK2 => ?_; simp; (repeat (refine ⟨by omega, ?_⟩)); refine hK2 _ ?_; clear hK2 K2)
        refine sxf_nil (hK' _ ?_)
        clear hK' K'
        try simp only [thn, inb]
        refine Again.mk (n + 1) (by omega) (by omega) ?_
        rw [hnx]
        refine Imp.to' (fun _ _ => trivial) (by simp [dRow, dInts, dNum, dRows]) (by simp [dRow, dInts, dNum, dRows])
    · refine AW_exit (hK1 _ ?_)
      refine AW_rg (tyOf_good _) [2] [28] (fun _ _ => trivial) fun K' hK' => ?_
      repeat (refine sxf_next fun K2 hK2 => ?_; simp; (repeat (refine ⟨by omega, ?_⟩)); refine hK2 _ ?_; clear hK2 K2)
      refine sxf_nil (hK' _ ?_)
      refine AW.st (by simp; rfl) ?_
      clear hK' K'
      refine AW_ret ?_
      simp [D.le, D.le.go, takeMap, dRow, dInts, dNum]
      have hnn : n = L.length := by omega
      subst hnn
      simp [numberF, hst]
#print axioms number_spec
end Go.Proofs.YtoikggboakojlaaDoor

/-
  Tables: few states; which tables may be.
-/
namespace Go.Proofs.YtoikggboakojlaaDoor
set_option linter.unusedSimpArgs false
set_option linter.unusedVariables false
open Go.Av

structure Tab where
  next : List (List Int)
  tells : List (List Int)

def dTab (t : Tab) : D := .agg [dRows t.next, dRows t.tells]

def fewF (t : Tab) (most : Int) : Bool := decide ((t.next.length : Int) ≤ most) && (decide ((t.tells.length : Int) ≤ 500) && (decide (t.next.length = 0) || decide (((t.next.getD 0 []).length : Int) ≤ 16)))

theorem few_spec (G : Glob) (t : Tab) (most : Int) : PureC Tryd.prog G 34 [dTab t, dNum most] (.v (.bool (fewF t most))) := by
  obtain ⟨next, tells⟩ := t
  refine PureC.of_body (tyOf_good _) Tryd.func34 rfl rfl (rs := [.tmp 4]) Tryd.results34 (by simp [Tryd.ntmps34]) fun X => ?_
  simp only [Tryd.ntmps34, List.map]
  refine AW_rg (tyOf_good _) [1, 2] [2] (fun _ _ => trivial) fun K' hK' => ?_
  repeat (refine sxf_next fun K2 hK2 => ?_; simp [dTab, dNum]; (repeat (refine ⟨by omega, ?_⟩)); refine hK2 _ ?_; clear hK2 K2)
  refine sxf_nil (hK' _ ?_)
  refine AW.st (by simp [dTab, dNum]; rfl) ?_
  clear hK' K'
  by_cases h1 : (next.length : Int) ≤ most
  · by_cases h2 : (tells.length : Int) ≤ 500
    · cases next with
      | nil =>
        simp only [List.length_nil, Int.natCast_zero, Int.ofNat_eq_natCast, Int.cast_ofNat_Int] at h1
        refine AW_rg (tyOf_good _) [4] [2] (fun _ _ => trivial) fun K' hK' => ?_
        repeat (refine sxf_next fun K2 hK2 => ?_; simp [dRows, dRow, dInts, h1, h2]; (repeat (refine ⟨by omega, ?_⟩)); refine hK2 _ ?_; clear hK2 K2)
        refine sxf_nil (hK' _ ?_)
        refine AW.st (by simp [dRows, dRow, dInts, h1, h2]; rfl) ?_
        clear hK' K'
        refine AW_ret ?_
        simp [D.le, D.le.go, takeMap]
        simp [fewF, h1, h2]
      | cons r next =>
        simp only [List.length_cons, Int.natCast_add, Int.cast_ofNat_Int] at h1
        have hz : ¬ ((next.length : Int) + 1 = 0) := by omega
        by_cases h3 : (r.length : Int) ≤ 16
        · refine AW_rg (tyOf_good _) [4] [2] (fun _ _ => trivial) fun K' hK' => ?_
          repeat (refine sxf_next fun K2 hK2 => ?_; simp [dRows, dRow, dInts, h1, h2, h3, hz]; (repeat (refine ⟨by omega, ?_⟩)); refine hK2 _ ?_; clear hK2 K2)
          refine sxf_nil (hK' _ ?_)
          refine AW.st (by simp [dRows, dRow, dInts, h1, h2, h3, hz]; rfl) ?_
          clear hK' K'
          refine AW_ret ?_
          simp [D.le, D.le.go, takeMap]
          simp [fewF, h1, h2, h3]
        · refine AW_rg (tyOf_good _) [4] [2] (fun _ _ => trivial) fun K' hK' => ?_
          repeat (refine sxf_next fun K2 hK2 => ?_; simp [dRows, dRow, dInts, h1, h2, h3, hz]; (repeat (refine ⟨by omega, ?_⟩)); refine hK2 _ ?_; clear hK2 K2)
          refine sxf_nil (hK' _ ?_)
          refine AW.st (by simp [dRows, dRow, dInts, h1, h2, h3, hz]; rfl) ?_
          clear hK' K'
          refine AW_ret ?_
          simp [D.le, D.le.go, takeMap]
          simp [fewF, h1, h2, h3]
    · refine AW_rg (tyOf_good _) [4] [2] (fun _ _ => trivial) fun K' hK' => ?_
      repeat (refine sxf_next fun K2 hK2 => ?_; simp [dRows, dRow, dInts, h1, h2]; (repeat (refine ⟨by omega, ?_⟩)); refine hK2 _ ?_; clear hK2 K2)
      refine sxf_nil (hK' _ ?_)
      refine AW.st (by simp [dRows, dRow, dInts, h1, h2]; rfl) ?_
      clear hK' K'
      refine AW_ret ?_
      simp [D.le, D.le.go, takeMap]
      simp [fewF, h1, h2]
  · refine AW_rg (tyOf_good _) [4] [2] (fun _ _ => trivial) fun K' hK' => ?_
    repeat (refine sxf_next fun K2 hK2 => ?_; simp [dRows, dRow, dInts, h1]; (repeat (refine ⟨by omega, ?_⟩)); refine hK2 _ ?_; clear hK2 K2)
    refine sxf_nil (hK' _ ?_)
    refine AW.st (by simp [dRows, dRow, dInts, h1]; rfl) ?_
    clear hK' K'
    refine AW_ret ?_
    simp [D.le, D.le.go, takeMap]
    simp [fewF, h1]
#print axioms few_spec
end Go.Proofs.YtoikggboakojlaaDoor

/-
  Which tables may be.
-/
namespace Go.Proofs.YtoikggboakojlaaDoor
set_option linter.unusedSimpArgs false
set_option linter.unusedVariables false
open Go.Av

/-- Whether an error is told, which one, and where. -/
def dErr : Option (Int × Option Nat) → D
  | none => .v .nilIface
  | some (c, none) => .ifc 27 (.v (.int .i64 c))
  | some (c, some s) => .ifc 109 (.ip [.v (.int .i64 c), .v (.int .i64 s)])

def rowF (t : Tab) (s : Nat) : Option Int :=
  if (t.next.getD s []).length ≠ (t.next.getD 0 []).length ∨ (t.tells.getD s []).length ≠ (t.next.getD 0 []).length then some 3
  else if (t.next.getD s []).any fun x => decide (x < 0) || decide ((t.next.length : Int) ≤ x) then some 2 else none
def rowsF (t : Tab) : Nat → Nat → Option (Int × Option Nat)
  | _, 0 => none
  | s, n + 1 => match rowF t s with
    | some c => some (c, some s)
    | none => rowsF t (s + 1) n
def checkF (t : Tab) : Option (Int × Option Nat) :=
  if t.next.length < 1 ∨ 500 < t.next.length ∨ 64 < (t.next.getD 0 []).length then some (4, none)
  else if t.tells.length ≠ t.next.length then some (3, none)
  else rowsF t 0 t.next.length

set_option maxHeartbeats 4000000 in
theorem check_spec (G : Glob) (t : Tab) : PureC Tryd.prog G 20 [dTab t] (dErr (checkF t)) := by
  obtain ⟨next, tells⟩ := t
  have hr2 : checkF ⟨next, tells⟩ = (if (next.length < 1 ∨ 500 < next.length ∨ 64 < (next.getD 0 []).length) then some (4, none)
      else if tells.length ≠ next.length then some (3, none) else rowsF ⟨next, tells⟩ 0 next.length) := rfl
  generalize hres : checkF ⟨next, tells⟩ = res
  rw [hr2] at hres
  refine PureC.of_body (tyOf_good _) Tryd.func20 rfl rfl (rs := [.tmp 2]) Tryd.results20 (by simp [Tryd.ntmps20]) fun X => ?_
  simp only [Tryd.ntmps20, List.map]
  refine AW_rg (tyOf_good _) [1] [1] (fun _ _ => trivial) fun K' hK' => ?_
  repeat (refine sxf_next fun K2 hK2 => ?_; simp [dTab]; (repeat (refine ⟨by omega, ?_⟩)); refine hK2 _ ?_; clear hK2 K2)
  refine sxf_nil (hK' _ ?_)
  refine AW.st (by simp [dTab]; rfl) ?_
  clear hK' K'
  refine AW_rg (tyOf_good _) [1, 3] [1, 3] (fun _ _ => trivial) fun K' hK' => ?_
  repeat (refine sxf_next fun K2 hK2 => ?_; simp [dRows]; (repeat (refine ⟨by omega, ?_⟩)); refine hK2 _ ?_; clear hK2 K2)
  refine sxf_nil (hK' _ ?_)
  refine AW.st (by simp [dRows]; rfl) ?_
  clear hK' K'
  refine AW_then fun K1 hK1 => ?_
  by_cases h1 : (next.length : Int) < 1
  · rw [if_pos (.inl (by omega))] at hres
    refine AW_rg (tyOf_good _) [1, 3, 21] [1, 3] (fun _ _ => trivial) fun K' hK' => ?_
    repeat (refine sxf_next fun K2 hK2 => ?_; simp [h1]; (repeat (refine ⟨by omega, ?_⟩)); refine hK2 _ ?_; clear hK2 K2)
    refine sxf_nil (hK' _ ?_)
    refine AW.st (by simp [h1]; rfl) ?_
    clear hK' K'
    refine AW_cond true rfl (fun _ => ?_) (fun h => by cases h)
    refine AW_rg (tyOf_good _) [2] [] (fun _ _ => trivial) fun K' hK' => ?_
    repeat (refine sxf_next fun K2 hK2 => ?_; simp; (repeat (refine ⟨by omega, ?_⟩)); refine hK2 _ ?_; clear hK2 K2)
    refine sxf_nil (hK' _ ?_)
    refine AW.st (by simp; rfl) ?_
    clear hK' K'
    refine AW_ret ?_
    simp [D.le, D.le.go, takeMap]
    simp [← hres, dErr, D.le]
  by_cases h2 : 500 < (next.length : Int)
  · rw [if_pos (.inr (.inl (by omega)))] at hres
    refine AW_rg (tyOf_good _) [1, 3, 21] [1, 3] (fun _ _ => trivial) fun K' hK' => ?_
    repeat (refine sxf_next fun K2 hK2 => ?_; simp [h1, h2]; (repeat (refine ⟨by omega, ?_⟩)); refine hK2 _ ?_; clear hK2 K2)
    refine sxf_nil (hK' _ ?_)
    refine AW.st (by simp [h1, h2]; rfl) ?_
    clear hK' K'
    refine AW_cond true rfl (fun _ => ?_) (fun h => by cases h)
    refine AW_rg (tyOf_good _) [2] [] (fun _ _ => trivial) fun K' hK' => ?_
    repeat (refine sxf_next fun K2 hK2 => ?_; simp; (repeat (refine ⟨by omega, ?_⟩)); refine hK2 _ ?_; clear hK2 K2)
    refine sxf_nil (hK' _ ?_)
    refine AW.st (by simp; rfl) ?_
    clear hK' K'
    refine AW_ret ?_
    simp [D.le, D.le.go, takeMap]
    simp [← hres, dErr, D.le]
  obtain ⟨r0, next', hnx⟩ : ∃ r0 next', next = r0 :: next' := by
    cases next with
    | nil => simp at h1
    | cons a b => exact ⟨a, b, rfl⟩
  have hg0 : next.getD 0 [] = r0 := by rw [hnx]; rfl
  have hgd : (next.map fun r => [dRow r]).getD 0 [] = [dRow r0] := by rw [hnx]; rfl
  have hpos : 0 < next.length := by omega
  simp only [hg0] at hres
  have hgq : next[0] = r0 := by subst hnx; rfl
  by_cases h3 : 64 < (r0.length : Int)
  · rw [if_pos (.inr (.inr (by omega)))] at hres
    refine AW_rg (tyOf_good _) [1, 3, 21] [1, 3] (fun _ _ => trivial) fun K' hK' => ?_
    repeat (refine sxf_next fun K2 hK2 => ?_; simp [h1, h2, h3, hgd, hpos, hgq, dRow, dInts]; (repeat (refine ⟨by omega, ?_⟩)); refine hK2 _ ?_; clear hK2 K2)
    refine sxf_nil (hK' _ ?_)
    refine AW.st (by simp [h1, h2, h3, hgd, hpos, hgq, dRow, dInts]; rfl) ?_
    clear hK' K'
    refine AW_cond true rfl (fun _ => ?_) (fun h => by cases h)
    refine AW_rg (tyOf_good _) [2] [] (fun _ _ => trivial) fun K' hK' => ?_
    repeat (refine sxf_next fun K2 hK2 => ?_; simp; (repeat (refine ⟨by omega, ?_⟩)); refine hK2 _ ?_; clear hK2 K2)
    refine sxf_nil (hK' _ ?_)
    refine AW.st (by simp; rfl) ?_
    clear hK' K'
    refine AW_ret ?_
    simp [D.le, D.le.go, takeMap]
    simp [← hres, dErr, D.le]
  rw [if_neg (by omega)] at hres
  refine AW_rg (tyOf_good _) [1, 3, 21] [1, 3] (fun _ _ => trivial) fun K' hK' => ?_
  repeat (refine sxf_next fun K2 hK2 => ?_; simp [h1, h2, h3, hgd, hpos, hgq, dRow, dInts]; (repeat (refine ⟨by omega, ?_⟩)); refine hK2 _ ?_; clear hK2 K2)
  refine sxf_nil (hK' _ ?_)
  refine AW.st (by simp [h1, h2, h3, hgd, hpos, hgq, dRow, dInts]; rfl) ?_
  clear hK' K'
  refine AW_cond false rfl (fun h => by cases h) (fun _ => ?_)
  refine AW_skip (hK1 _ ?_)
  refine AW_then fun K2 hK2 => ?_
  refine AW_rg (tyOf_good _) [1, 3, 27] [1, 3] (fun _ _ => trivial) fun K' hK' => ?_
  repeat (refine sxf_next fun K2 hK2 => ?_; simp [dRow, dInts]; (repeat (refine ⟨by omega, ?_⟩)); refine hK2 _ ?_; clear hK2 K2)
  refine sxf_nil (hK' _ ?_)
  refine AW.st (by simp [dRow, dInts]; rfl) ?_
  clear hK' K'
  refine AW_cond' (b := ¬ tells.length = next.length) (by simp [D.le, D.le.go, takeMap]) (fun hc => ?_) (fun hc => ?_)
  · rw [if_pos hc] at hres
    refine AW_rg (tyOf_good _) [2] [] (fun _ _ => trivial) fun K' hK' => ?_
    repeat (refine sxf_next fun K2 hK2 => ?_; simp; (repeat (refine ⟨by omega, ?_⟩)); refine hK2 _ ?_; clear hK2 K2)
    refine sxf_nil (hK' _ ?_)
    refine AW.st (by simp; rfl) ?_
    clear hK' K'
    refine AW_ret ?_
    simp [D.le, D.le.go, takeMap]
    simp [← hres, dErr, D.le]
  rw [if_neg hc] at hres
  have htl : tells.length = next.length := by omega
  refine AW_skip (hK2 _ ?_)
  refine AW_then fun K3 hK3 => ?_
  refine AW_rg (tyOf_good _) [1, 3, 31, 32] [1, 3] (fun _ _ => trivial) fun K' hK' => ?_
  repeat (refine sxf_next fun K2 hK2 => ?_; simp [dRow, dInts]; (repeat (refine ⟨by omega, ?_⟩)); refine hK2 _ ?_; clear hK2 K2)
  refine sxf_nil (hK' _ ?_)
  refine AW.st (by simp [dRow, dInts]; rfl) ?_
  clear hK' K'
  refine AW_for (S := Nat) (fun n => n ≤ next.length ∧ rowsF ⟨next, tells⟩ n (next.length - n) = rowsF ⟨next, tells⟩ 0 next.length) (fun n => ⟨lst [(1, .ref 1 0 0), (3, .ref 3 0 0), (31, int next.length), (32, int n)],
    hlst [(1, .box 25 [.d (dRows next), .d (dRows tells)]), (3, .box 3 [int next.length])]⟩) (fun n => next.length - n) 0 ?_ (by simp) ?_
  · refine Imp.to' (fun _ _ => trivial) (by simp [dRows, dRow, dInts]) (by simp [dRows, dRow, dInts])
  · rintro n ⟨hn, hrs⟩
    refine AW_rg (tyOf_good _) [1, 3, 31, 32, 33] [1, 3] (fun _ _ => trivial) fun K' hK' => ?_
    repeat (refine sxf_next fun K2 hK2 => ?_; simp; (repeat (refine ⟨by omega, ?_⟩)); refine hK2 _ ?_; clear hK2 K2)
    refine sxf_nil (hK' _ ?_)
    refine AW.st (by simp; rfl) ?_
    clear hK' K'
    refine AW_then fun K4 hK4 => ?_
    refine AW_cond' (b := n < next.length) (by simp [D.le, D.le.go, takeMap]) (fun hc => ?_) (fun hc => ?_)
    · refine AW_skip (hK4 _ ?_)
      refine AW_then fun K5 hK5 => ?_
      refine AW_block ?_
      refine AW_rg (tyOf_good _) [1, 3, 4, 31, 32] [1, 3] (fun _ _ => trivial) fun K' hK' => ?_
      repeat (refine sxf_next fun K2 hK2 => ?_; simp; (repeat (refine ⟨by omega, ?_⟩)); refine hK2 _ ?_; clear hK2 K2)
      refine sxf_nil (hK' _ ?_)
      refine AW.st (by simp; rfl) ?_
      clear hK' K'
      refine AW_then fun K6 hK6 => ?_
      have hstep : rowsF ⟨next, tells⟩ n (next.length - n) = match rowF ⟨next, tells⟩ n with
          | some c => some (c, some n)
          | none => rowsF ⟨next, tells⟩ (n + 1) (next.length - (n + 1)) := by
        have : next.length - n = (next.length - (n + 1)) + 1 := by omega
        rw [this]
        rfl
      rw [hstep] at hrs
      have htn : n < tells.length := by omega
      have hrow : rowF ⟨next, tells⟩ n = if next[n].length ≠ r0.length ∨ tells[n].length ≠ r0.length then some 3 else if next[n].any fun x => decide (x < 0) || decide ((next.length : Int) ≤ x) then some 2 else none := by
        simp [rowF, hc, htn, hpos, hgq]
      by_cases h4 : next[n].length = r0.length
      · by_cases h5 : tells[n].length = r0.length
        · rw [if_neg (by simp [h4, h5])] at hrow
          refine AW_rd (tyOf_good _) (by kernel_rfl) [1, 3, 4, 31, 32, 60] [1, 3] (fun _ _ => trivial) (by kernel_rfl) fun K' hK' => ?_
          repeat (refine sxd_next fun K2 hK2 => ?_; simp [dRows, h4, h5, hgd, hpos, hgq, hc, htn, dRow, dInts]; (repeat (refine ⟨by omega, ?_⟩)); refine hK2 _ ?_; clear hK2 K2)
          refine sxd_nil (hK' _ ?_)
          refine AW.st (by simp [dRows, h4, h5, hgd, hpos, hgq, hc, htn, dRow, dInts]; rfl) ?_
          clear hK' K'
          refine AW_cond false rfl (fun h => by cases h) (fun _ => ?_)
          refine AW_skip (hK6 _ ?_)
          refine AW_rg (tyOf_good _) [1, 3, 4, 31, 32, 71] [1, 3] (fun _ _ => trivial) fun K' hK' => ?_
          repeat (refine sxf_next fun K2 hK2 => ?_; simp [dRows, dRow, dInts, hc]; (repeat (refine ⟨by omega, ?_⟩)); refine hK2 _ ?_; clear hK2 K2)
          refine sxf_next fun K2 hK2 => ?_
          simp [dRows, dRow, dInts, hc]
          refine callK.lend (containsInt_spec G none dNum next[n] 62 [.ip [dNum next.length]] (fun x => decide (x < 0) || decide ((next.length : Int) ≤ x)) (by omega) (fun x _ => check1_spec G x next.length)) (by simp; rfl) (by first | exact D.leGo_refl _ | simp [takeMap, List.map_map, Function.comp_def, D.le, D.le.go, D.le_refl, D.leGo_refl, dRows, dRow, dInts, hc]) (by simp [D.scalar]) ?_
          refine hK2 _ ?_
          clear hK2 K2
          simp only [putd, upd_lst]
          repeat (refine sxf_next fun K2 hK2 => ?_; simp [dRows, dRow, dInts, hc]; (repeat (refine ⟨by omega, ?_⟩)); refine hK2 _ ?_; clear hK2 K2)
          refine sxf_nil (hK' _ ?_)
          refine AW.st (by simp [dRows, dRow, dInts, hc]; rfl) ?_
          clear hK' K'
          refine AW_cond _ rfl (fun hb => ?_) (fun hb => ?_)
          · rw [if_pos hb] at hrow
            refine AW_rg (tyOf_good _) [2] [74] (fun _ _ => trivial) fun K' hK' => ?_
            repeat (refine sxf_next fun K2 hK2 => ?_; simp; (repeat (refine ⟨by omega, ?_⟩)); refine hK2 _ ?_; clear hK2 K2)
            refine sxf_nil (hK' _ ?_)
            refine AW.st (by simp; rfl) ?_
            clear hK' K'
            refine AW_ret ?_
            simp [D.le, D.le.go, takeMap]
            rw [hrow] at hrs
            simp [← hres, ← hrs, dErr, D.le, D.le.go]
          · rw [if_neg (by simp [hb])] at hrow
            rw [hrow] at hrs
            refine AW_skip (hK5 _ ?_)
            refine AW_re (tyOf_good _) fun K' hK' => ?_
            repeat (refine sxf_next fun K2 hK2 => ?_; simp; (repeat (refine ⟨by omega, ?_⟩)); refine hK2 _ ?_; clear hK2 K2)
            refine sxf_nil (hK' _ ?_)
            clear hK' K'
            try simp only [thn, inb]
            refine Again.mk (n + 1) ⟨by omega, hrs⟩ (by omega) ?_
            refine Imp.to' (fun _ _ => trivial) (by simp [dRows, dRow, dInts]) (by simp [dRows, dRow, dInts])
        · rw [if_pos (.inr h5)] at hrow
          refine AW_rd (tyOf_good _) (by kernel_rfl) [1, 3, 4, 31, 32, 60] [1, 3] (fun _ _ => trivial) (by kernel_rfl) fun K' hK' => ?_
          repeat (refine sxd_next fun K2 hK2 => ?_; simp [dRows, h4, h5, hgd, hpos, hgq, hc, htn, dRow, dInts]; (repeat (refine ⟨by omega, ?_⟩)); refine hK2 _ ?_; clear hK2 K2)
          refine sxd_nil (hK' _ ?_)
          refine AW.st (by simp [dRows, h4, h5, hgd, hpos, hgq, hc, htn, dRow, dInts]; rfl) ?_
          clear hK' K'
          refine AW_cond true rfl (fun _ => ?_) (fun h => by cases h)
          refine AW_rg (tyOf_good _) [2] [63] (fun _ _ => trivial) fun K' hK' => ?_
          repeat (refine sxf_next fun K2 hK2 => ?_; simp; (repeat (refine ⟨by omega, ?_⟩)); refine hK2 _ ?_; clear hK2 K2)
          refine sxf_nil (hK' _ ?_)
          refine AW.st (by simp; rfl) ?_
          clear hK' K'
          refine AW_ret ?_
          simp [D.le, D.le.go, takeMap]
          rw [hrow] at hrs
          simp [← hres, ← hrs, dErr, D.le, D.le.go]
      · rw [if_pos (.inl h4)] at hrow
        refine AW_rd (tyOf_good _) (by kernel_rfl) [1, 3, 4, 31, 32, 60] [1, 3] (fun _ _ => trivial) (by kernel_rfl) fun K' hK' => ?_
        repeat (refine sxd_next fun K2 hK2 => ?_; simp [dRows, h4, hgd, hpos, hgq, hc, htn, dRow, dInts]; (repeat (refine ⟨by omega, ?_⟩)); refine hK2 _ ?_; clear hK2 K2)
        refine sxd_nil (hK' _ ?_)
        refine AW.st (by simp [dRows, h4, hgd, hpos, hgq, hc, htn, dRow, dInts]; rfl) ?_
        clear hK' K'
        refine AW_cond true rfl (fun _ => ?_) (fun h => by cases h)
        refine AW_rg (tyOf_good _) [2] [63] (fun _ _ => trivial) fun K' hK' => ?_
        repeat (refine sxf_next fun K2 hK2 => ?_; simp; (repeat (refine ⟨by omega, ?_⟩)); refine hK2 _ ?_; clear hK2 K2)
        refine sxf_nil (hK' _ ?_)
        refine AW.st (by simp; rfl) ?_
        clear hK' K'
        refine AW_ret ?_
        simp [D.le, D.le.go, takeMap]
        rw [hrow] at hrs
        simp [← hres, ← hrs, dErr, D.le, D.le.go]
    · refine AW_exit (hK3 _ ?_)
      refine AW_rg (tyOf_good _) [2] [] (fun _ _ => trivial) fun K' hK' => ?_
      repeat (refine sxf_next fun K2 hK2 => ?_; simp; (repeat (refine ⟨by omega, ?_⟩)); refine hK2 _ ?_; clear hK2 K2)
      refine sxf_nil (hK' _ ?_)
      refine AW.st (by simp; rfl) ?_
      clear hK' K'
      refine AW_ret ?_
      simp [D.le, D.le.go, takeMap]
      have hnn : n = next.length := by omega
      subst hnn
      simp [rowsF] at hrs
      rw [← hrs] at hres
      simp [← hres, dErr]
#print axioms check_spec
end Go.Proofs.YtoikggboakojlaaDoor

/-
  The rounds of blocks.
-/
namespace Go.Proofs.YtoikggboakojlaaDoor
set_option linter.unusedSimpArgs false
set_option linter.unusedVariables false
open Go.Av

def Tab.n (t : Tab) : Nat := t.next.length
/-- What part of a state's sign is there after i inputs. -/
def sigN (t : Tab) (now : List Int) (s i : Nat) : List Int := now.getD s 0 :: (List.range i).flatMap fun i => [(t.tells.getD s []).getD i 0, now.getD ((t.next.getD s []).getD i 0).toNat 0]
def sig (t : Tab) (now : List Int) (s : Nat) : List Int := sigN t now s (t.next.getD s []).length
def nextF (t : Tab) (now : List Int) : List Int := numberF ((List.range t.n).map (sig t now))
def iter (t : Tab) : Nat → List Int
  | 0 => List.replicate t.n 0
  | k + 1 => nextF t (iter t k)

theorem numberF_len (L : List (List Int)) : (numberF L).length = L.length := (numSt_len (Nat.le_refl _)).2
theorem iter_len (t : Tab) : ∀ k, (iter t k).length = t.n
  | 0 => by simp [iter]
  | k + 1 => by simp [iter, nextF, numberF_len]
theorem sigN_succ (t : Tab) (now : List Int) (s i : Nat) : sigN t now s (i + 1) = sigN t now s i ++ [(t.tells.getD s []).getD i 0, now.getD ((t.next.getD s []).getD i 0).toNat 0] := by
  simp [sigN, List.range_succ]
theorem sigN_len (t : Tab) (now : List Int) (s i : Nat) : (sigN t now s i).length = 1 + 2 * i := by
  induction i with
  | zero => simp [sigN]
  | succ i ih => rw [sigN_succ]; simp [ih]; omega

/-- What Check sees to. -/
structure Ok (t : Tab) : Prop where
  pos : 1 ≤ t.n
  most : t.n ≤ 500
  ins : (t.next.getD 0 []).length ≤ 64
  tells : t.tells.length = t.n
  nextLen : ∀ s, s < t.n → (t.next.getD s []).length = (t.next.getD 0 []).length
  tellsLen : ∀ s, s < t.n → (t.tells.getD s []).length = (t.next.getD 0 []).length
  there : ∀ s, s < t.n → ∀ x ∈ t.next.getD s [], 0 ≤ x ∧ x < t.n

theorem takeR {α : Type} (f : Nat → α) (n : Nat) : List.take n (List.map f (List.range n)) = List.map f (List.range n) := List.take_of_length_le (by simp)

def rowI (l : List Int) : Row := .sl 3 1 (l.map fun x => [dNum x])
def rowR (l : List (List Int)) : Row := .sl 32 1 (l.map fun r => [dRow r])
def boxT (t : Tab) : Row := .box 25 [.d (dRows t.next), .d (dRows t.tells)]

/-- The rounds are these, up to one that is its own next one. -/
def Stops (t : Tab) (k : Nat) : Prop := nextF t (iter t k) = iter t k ∧ ∀ j, j < k → nextF t (iter t j) ≠ iter t j

set_option maxHeartbeats 4000000 in
theorem rounds_spec (G : Glob) (t : Tab) (ok : Ok t) (k : Nat) (hk : k < 2^20) (hs : Stops t k) : PureC Tryd.prog G 58 [dTab t] (dRows ((List.range (k + 1)).map (iter t))) := by
  have hn500 : t.next.length ≤ 500 := ok.most
  refine PureC.of_body (tyOf_good _) Tryd.func58 rfl rfl (rs := [.tmp 2]) Tryd.results58 (by simp [Tryd.ntmps58]) fun X => ?_
  simp only [Tryd.ntmps58, List.map]
  refine AW_rg (tyOf_good _) [1] [1] (fun _ _ => trivial) fun K' hK' => ?_
  repeat (refine sxf_next fun K2 hK2 => ?_; simp [dTab]; (repeat (refine ⟨by omega, ?_⟩)); refine hK2 _ ?_; clear hK2 K2)
  refine sxf_nil (hK' _ ?_)
  refine AW.st (by simp [dTab]; rfl) ?_
  clear hK' K'
  refine AW_rg (tyOf_good _) [1, 3] [1] (fun _ _ => trivial) fun K' hK' => ?_
  repeat (refine sxf_next fun K2 hK2 => ?_; simp [dRows]; (repeat (refine ⟨by omega, ?_⟩)); refine hK2 _ ?_; clear hK2 K2)
  refine sxf_nil (hK' _ ?_)
  refine AW.st (by simp [dRows]; rfl) ?_
  clear hK' K'
  refine AW_rg (tyOf_good _) [1, 3, 4] [1, 17] (fun _ _ => trivial) fun K' hK' => ?_
  repeat (refine sxf_next fun K2 hK2 => ?_; simp; (repeat (refine ⟨by omega, ?_⟩)); refine hK2 _ ?_; clear hK2 K2)
  refine sxf_nil (hK' _ ?_)
  refine AW.st (by simp; rfl) ?_
  clear hK' K'
  refine AW_for (S := Nat) (fun m => m ≤ k) (fun m => ⟨lst [(1, .ref 1 0 0), (3, int t.next.length), (4, .own 17 0 (m + 1))], hlst [(1, boxT t), (17, rowR ((List.range (m + 1)).map (iter t)))]⟩) (fun m => k - m) 0 ?_ (by simp) ?_
  · refine Imp.to' (fun _ _ => trivial) (by simp [boxT, rowR, iter, dRow, dInts, dRows, Tab.n, dNum]) (by simp [boxT, rowR, iter, dRow, dInts, dRows, Tab.n, dNum])
  · intro m hm
    have hlen : (iter t m).length = t.next.length := iter_len t m
    refine AW_block ?_
    refine AW_rg (tyOf_good _) [1, 3, 4, 5] [1, 17] (fun _ _ => trivial) fun K' hK' => ?_
    repeat (refine sxf_next fun K2 hK2 => ?_; simp [rowR, boxT]; (repeat (refine ⟨by omega, ?_⟩)); refine hK2 _ ?_; clear hK2 K2)
    refine sxf_nil (hK' _ ?_)
    refine AW.st (by simp [rowR, boxT]; rfl) ?_
    clear hK' K'
    refine AW_rg (tyOf_good _) [1, 3, 4, 5, 6] [1, 17] (fun _ _ => trivial) fun K' hK' => ?_
    repeat (refine sxf_next fun K2 hK2 => ?_; simp; (repeat (refine ⟨by omega, ?_⟩)); refine hK2 _ ?_; clear hK2 K2)
    refine sxf_nil (hK' _ ?_)
    refine AW.st (by simp; rfl) ?_
    clear hK' K'
    refine AW_then fun K1 hK1 => ?_
    refine AW_rg (tyOf_good _) [1, 3, 4, 5, 6, 24, 25] [1, 17] (fun _ _ => trivial) fun K' hK' => ?_
    repeat (refine sxf_next fun K2 hK2 => ?_; simp; (repeat (refine ⟨by omega, ?_⟩)); refine hK2 _ ?_; clear hK2 K2)
    refine sxf_nil (hK' _ ?_)
    refine AW.st (by simp; rfl) ?_
    clear hK' K'
    refine AW_for (S := Nat) (fun s => s ≤ t.next.length) (fun s => ⟨lst [(1, .ref 1 0 0), (3, int t.next.length), (4, .own 17 0 (m + 1)), (5, .d (dRow (iter t m))), (6, .own 63 0 s), (24, int t.next.length), (25, int s)],
      hlst [(1, boxT t), (17, rowR ((List.range (m + 1)).map (iter t))), (63, rowR ((List.range s).map (sig t (iter t m))))]⟩) (fun s => t.next.length - s) 0 ?_ (by simp) ?_
    · refine (Imp.adopt 6 63 32 1 rfl rfl).trans ?_
      refine Imp.to' (fun _ _ => trivial) (by simp [boxT, rowR]) (by simp [boxT, rowR])
    · intro s hsn
      refine AW_rg (tyOf_good _) [1, 3, 4, 5, 6, 24, 25, 26] [1, 17, 63] (fun _ _ => trivial) fun K' hK' => ?_
      repeat (refine sxf_next fun K2 hK2 => ?_; simp [boxT, rowR]; (repeat (refine ⟨by omega, ?_⟩)); refine hK2 _ ?_; clear hK2 K2)
      refine sxf_nil (hK' _ ?_)
      refine AW.st (by simp [boxT, rowR]; rfl) ?_
      clear hK' K'
      refine AW_then fun K2 hK2 => ?_
      refine AW_cond' (b := s < t.next.length) (by simp [D.le, D.le.go, takeMap]) (fun hc => ?_) (fun hc => ?_)
      · refine AW_skip (hK2 _ ?_)
        have hT : s < t.tells.length := by have := ok.tells; simp only [Tab.n] at this; omega
        have hsl : s < (iter t m).length := by omega
        have hsl' : s < t.n := hc
        have hsl'' : s < t.next.length := hc
        have hgn : t.next.getD s [] = t.next[s] := by simp [hsl'']
        have hgt : t.tells.getD s [] = t.tells[s] := by simp [hT]
        refine AW_then fun K3 hK3 => ?_
        refine AW_block ?_
        refine AW_rg (tyOf_good _) [1, 3, 4, 5, 6, 7, 24, 25] [1, 17, 63] (fun _ _ => trivial) fun K' hK' => ?_
        repeat (refine sxf_next fun K2 hK2 => ?_; simp; (repeat (refine ⟨by omega, ?_⟩)); refine hK2 _ ?_; clear hK2 K2)
        refine sxf_nil (hK' _ ?_)
        refine AW.st (by simp; rfl) ?_
        clear hK' K'
        refine AW_rg (tyOf_good _) [1, 3, 4, 5, 6, 7, 8, 24, 25] [1, 17, 32, 63] (fun _ _ => trivial) fun K' hK' => ?_
        repeat (refine sxf_next fun K2 hK2 => ?_; simp [dRow, dInts, hsl]; (repeat (refine ⟨by omega, ?_⟩)); refine hK2 _ ?_; clear hK2 K2)
        refine sxf_nil (hK' _ ?_)
        refine AW.st (by simp [dRow, dInts, hsl]; rfl) ?_
        clear hK' K'
        refine AW_then fun K4 hK4 => ?_
        refine AW_rg (tyOf_good _) [1, 3, 4, 5, 6, 7, 8, 24, 25, 37, 38, 39] [1, 17, 32, 63] (fun _ _ => trivial) fun K' hK' => ?_
        repeat (refine sxf_next fun K2 hK2 => ?_; simp [dRows, dRow, dInts, hc]; (repeat (refine ⟨by omega, ?_⟩)); refine hK2 _ ?_; clear hK2 K2)
        refine sxf_nil (hK' _ ?_)
        refine AW.st (by simp [dRows, dRow, dInts, hc]; rfl) ?_
        clear hK' K'
        refine AW_for (S := Nat) (fun i => i ≤ t.next[s].length) (fun i => ⟨lst [(1, .ref 1 0 0), (3, int t.next.length), (4, .own 17 0 (m + 1)), (5, .d (dRow (iter t m))), (6, .own 63 0 s), (7, int s), (8, .own 32 0 (sigN t (iter t m) s i).length), (24, int t.next.length), (25, int s), (37, .d (dRow t.next[s])), (38, int t.next[s].length), (39, int i)],
          hlst [(1, boxT t), (17, rowR ((List.range (m + 1)).map (iter t))), (32, rowI (sigN t (iter t m) s i)), (63, rowR ((List.range s).map (sig t (iter t m))))]⟩) (fun i => t.next[s].length - i) 0 ?_ (by simp) ?_
        · refine Imp.to' (fun _ _ => trivial) (by simp [boxT, rowR, rowI, dRow, dInts, dRows, dNum, sigN, hsl]) (by simp [boxT, rowR, rowI, dRow, dInts, dRows, dNum, sigN, hsl])
        · intro i hi
          refine AW_rg (tyOf_good _) [1, 3, 4, 5, 6, 7, 8, 24, 25, 37, 38, 39, 40] [1, 17, 32, 63] (fun _ _ => trivial) fun K' hK' => ?_
          repeat (refine sxf_next fun K2 hK2 => ?_; simp [boxT, rowR, rowI]; (repeat (refine ⟨by omega, ?_⟩)); refine hK2 _ ?_; clear hK2 K2)
          refine sxf_nil (hK' _ ?_)
          refine AW.st (by simp [boxT, rowR, rowI]; rfl) ?_
          clear hK' K'
          refine AW_then fun K5 hK5 => ?_
          refine AW_cond' (b := i < t.next[s].length) (by simp [D.le, D.le.go, takeMap]) (fun hc => ?_) (fun hc => ?_)
          · have hil : i < t.next[s].length := hc
            have hn1 := ok.nextLen s hsl'
            have hn2 := ok.tellsLen s hsl'
            rw [hgn] at hn1
            rw [hgt] at hn2
            have hti : i < t.tells[s].length := by omega
            obtain ⟨hx0, hx1⟩ := ok.there s hsl' t.next[s][i] (by simp [hsl''])
            have hx2 : t.next[s][i] < (iter t m).length := by rw [hlen]; exact hx1
            have hx3 : t.next[s][i].toNat < (iter t m).length := by omega
            have hsg := sigN_succ t (iter t m) s i
            have hsgl := sigN_len t (iter t m) s i
            have hin := ok.ins
            have hi64 : t.next[s].length ≤ 64 := by omega
            refine AW_skip (hK5 _ ?_)
            refine AW_then fun K6 hK6 => ?_
            refine AW_block ?_
            refine AW_rg (tyOf_good _) [1, 3, 4, 5, 6, 7, 8, 9, 10, 24, 25, 37, 38, 39] [1, 17, 32, 63] (fun _ _ => trivial) fun K' hK' => ?_
            repeat (refine sxf_next fun K2 hK2 => ?_; simp [dRow, dInts, hil]; (repeat (refine ⟨by omega, ?_⟩)); refine hK2 _ ?_; clear hK2 K2)
            refine sxf_nil (hK' _ ?_)
            refine AW.st (by simp [dRow, dInts, hil]; rfl) ?_
            clear hK' K'
            refine AW_rde (tyOf_good _) (by kernel_rfl) (by kernel_rfl) fun K' hK' => ?_
            repeat (refine sxd_next fun K2 hK2 => ?_; simp [dRows, dRow, dInts, hT, hti, hx0, hx2, hx3, takeMap]; (repeat (refine ⟨by omega, ?_⟩)); refine hK2 _ ?_; clear hK2 K2)
            refine sxd_nil (hK' _ ?_)
            clear hK' K'
            refine hK6 _ (AW.norm [1, 3, 4, 5, 6, 7, 8, 24, 25, 37, 38, 39] [1, 17, 32, 63] (fun _ _ => trivial) (AW.st (by simp [dRows, dRow, dInts, hT, hti, hx0, hx2, hx3, takeMap]; rfl) ?_))
            refine AW_re (tyOf_good _) fun K' hK' => ?_
            repeat (refine sxf_next fun K2 hK2 => ?_; simp; (repeat (refine ⟨by omega, ?_⟩)); refine hK2 _ ?_; clear hK2 K2)
            refine sxf_nil (hK' _ ?_)
            clear hK' K'
            try simp only [thn, inb]
            refine Again.mk (i + 1) (by omega) (by omega) ?_
            refine Imp.to' (fun _ _ => trivial) (by simp [boxT, rowR, rowI, dRow, dInts, dRows, dNum, hsg, hT, hti, hx3, hil, hsl'', takeMap]) (by simp [boxT, rowR, rowI, dRow, dInts, dRows, dNum, hsg, hT, hti, hx3, hil, hsl'', takeMap])
          · have hil : i = t.next[s].length := by omega
            subst hil
            have hsig : sig t (iter t m) s = sigN t (iter t m) s t.next[s].length := by unfold sig; rw [hgn]
            have hsgl := sigN_len t (iter t m) s t.next[s].length
            refine AW_exit (hK4 _ ?_)
            refine AW_re (tyOf_good _) fun K' hK' => ?_
            repeat (refine sxf_next fun K2 hK2 => ?_; simp [rowI, rowR, takeMap, takeR]; (repeat (refine ⟨by omega, ?_⟩)); refine hK2 _ ?_; clear hK2 K2)
            refine sxf_nil (hK' _ ?_)
            clear hK' K'
            refine hK3 _ (AW.norm [1, 3, 4, 5, 6, 24, 25] [1, 17, 63] (fun _ _ => trivial) (AW.st (by simp [rowI, rowR, takeMap, takeR]; rfl) ?_))
            refine AW_re (tyOf_good _) fun K' hK' => ?_
            repeat (refine sxf_next fun K2 hK2 => ?_; simp; (repeat (refine ⟨by omega, ?_⟩)); refine hK2 _ ?_; clear hK2 K2)
            refine sxf_nil (hK' _ ?_)
            clear hK' K'
            try simp only [thn, inb]
            refine Again.mk (s + 1) (by omega) (by omega) ?_
            refine Imp.to' (fun _ _ => trivial) (by simp [boxT, rowR, rowI, dRow, dInts, dRows, dNum, List.range_succ, hsig, takeR]) (by simp [boxT, rowR, rowI, dRow, dInts, dRows, dNum, List.range_succ, hsig, takeR])
      · refine AW_exit (hK1 _ ?_)
        have hsn' : s = t.next.length := by omega
        subst hsn'
        refine AW.imp (Imp.freeze 63 trivial) ?_
        refine AW.st (by simp [rowR, boxT, takeR]; rfl) ?_
        have hin := ok.ins
        have hsl : ∀ r ∈ (List.range t.n).map (sig t (iter t m)), r.length < 2^40 := by
          intro r hr
          obtain ⟨s, hs, rfl⟩ := List.mem_map.1 hr
          have hs := List.mem_range.1 hs
          have h1 := ok.nextLen s hs
          have h2 := sigN_len t (iter t m) s (t.next.getD s []).length
          unfold sig
          omega
        have hnl : (nextF t (iter t m)).length = t.next.length := by unfold nextF; rw [numberF_len]; simp [Tab.n]
        refine AW_rg (tyOf_good _) [1, 3, 4, 5, 11] [1, 17] (fun _ _ => trivial) fun K' hK' => ?_
        repeat (refine sxf_next fun K2 hK2 => ?_; simp [rowR, boxT, dRows, Tab.n]; (repeat (refine ⟨by omega, ?_⟩)); refine hK2 _ ?_; clear hK2 K2)
        refine sxf_next fun K2 hK2 => ?_
        simp [rowR, boxT, dRows, Tab.n]
        refine callK.data (number_spec G ((List.range t.n).map (sig t (iter t m))) (by simp [Tab.n]; omega) hsl) (by simp; rfl) (by first | exact D.leGo_refl _ | simp [takeMap, List.map_map, Function.comp_def, D.le, D.le.go, D.le_refl, D.leGo_refl, rowR, boxT, dRows, Tab.n]) ?_
        refine hK2 _ ?_
        clear hK2 K2
        simp only [putd, upd_lst]
        repeat (refine sxf_next fun K2 hK2 => ?_; simp [rowR, boxT, dRows, Tab.n]; (repeat (refine ⟨by omega, ?_⟩)); refine hK2 _ ?_; clear hK2 K2)
        refine sxf_nil (hK' _ ?_)
        refine AW.st (by simp [rowR, boxT, dRows, Tab.n]; rfl) ?_
        clear hK' K'
        refine AW_then fun K7 hK7 => ?_
        refine AW_rg (tyOf_good _) [1, 3, 4, 11, 69] [1, 17] (fun _ _ => trivial) fun K' hK' => ?_
        repeat (refine sxf_next fun K2 hK2 => ?_; simp [boxT]; (repeat (refine ⟨by omega, ?_⟩)); refine hK2 _ ?_; clear hK2 K2)
        refine sxf_next fun K2 hK2 => ?_
        simp [boxT]
        refine callK.data (equal_spec G none none (nextF t (iter t m)) (iter t m) (by omega)) (by simp; rfl) (by first | exact D.leGo_refl _ | simp [takeMap, List.map_map, Function.comp_def, D.le, D.le.go, D.le_refl, D.leGo_refl, boxT]) ?_
        refine hK2 _ ?_
        clear hK2 K2
        simp only [putd, upd_lst]
        repeat (refine sxf_next fun K2 hK2 => ?_; simp [boxT]; (repeat (refine ⟨by omega, ?_⟩)); refine hK2 _ ?_; clear hK2 K2)
        refine sxf_nil (hK' _ ?_)
        refine AW.st (by simp [boxT]; rfl) ?_
        clear hK' K'
        refine AW_cond _ rfl (fun hb => ?_) (fun hb => ?_)
        · have he : nextF t (iter t m) = iter t m := by simpa using hb
          have hmk : m = k := by
            rcases Nat.lt_or_ge m k with h | h
            · exact absurd he (hs.2 m h)
            · omega
          subst hmk
          refine AW_rg (tyOf_good _) [2] [1, 17] (fun _ _ => trivial) fun K' hK' => ?_
          repeat (refine sxf_next fun K2 hK2 => ?_; simp [boxT]; (repeat (refine ⟨by omega, ?_⟩)); refine hK2 _ ?_; clear hK2 K2)
          refine sxf_nil (hK' _ ?_)
          refine AW.st (by simp [boxT]; rfl) ?_
          clear hK' K'
          refine AW_ret ?_
          simp [D.le, D.le.go, takeMap, dRows, dRow, dInts, takeR]
        · have hne : nextF t (iter t m) ≠ iter t m := by simpa using hb
          have hmk : m < k := by
            rcases Nat.lt_or_ge m k with h | h
            · exact h
            · have : m = k := by omega
              subst this
              exact absurd hs.1 hne
          refine AW_skip (hK7 _ ?_)
          refine AW_re (tyOf_good _) fun K' hK' => ?_
          repeat (refine sxf_next fun K2 hK2 => ?_; simp [dRow, dInts]; (repeat (refine ⟨by omega, ?_⟩)); refine hK2 _ ?_; clear hK2 K2)
          refine sxf_nil (hK' _ ?_)
          clear hK' K'
          try simp only [thn, inb]
          refine Again.mk (m + 1) (by omega) (by omega) ?_
          refine Imp.to' (fun _ _ => trivial) (by simp [boxT, rowR, rowI, dRow, dInts, dRows, dNum, List.range_succ, List.take_of_length_le, iter, nextF, Tab.n]) (by simp [boxT, rowR, rowI, dRow, dInts, dRows, dNum, List.range_succ, List.take_of_length_le, iter, nextF, Tab.n])
#print axioms rounds_spec
end Go.Proofs.YtoikggboakojlaaDoor

/-
  Plain facts of tables: numbers of lists, rounds, the table of blocks.
-/
namespace Go.Proofs.YtoikggboakojlaaDoor
set_option linter.unusedSimpArgs false
set_option linter.unusedVariables false

theorem idx_neg {α : Type} {p : α → Bool} {l : List α} (h : idx p l < 0) : ∀ x ∈ l, p x = false := by
  unfold idx at h
  split at h
  · omega
  · rename_i hn
    rw [List.findIdx?_eq_none_iff] at hn
    intro x hx
    simpa using hn x hx
theorem idx_pos {α : Type} {p : α → Bool} {l : List α} (h : ¬ idx p l < 0) : ∃ k, ∃ hk : k < l.length, idx p l = (k : Int) ∧ p l[k] = true := by
  unfold idx at h ⊢
  split
  · rename_i i hi
    rw [List.findIdx?_eq_some_iff_getElem] at hi
    obtain ⟨h1, h2, _⟩ := hi
    exact ⟨i, h1, rfl, h2⟩
  · rename_i hn
    simp [hn] at h

theorem getD_snoc {α : Type} (l : List α) (x d : α) (i : Nat) : (l ++ [x]).getD i d = if i < l.length then l.getD i d else if i = l.length then x else d := by
  simp only [List.getD_eq_getElem?_getD, List.getElem?_append]
  split
  · rfl
  · split
    · subst_vars; simp
    · rename_i h1 h2
      have : i - l.length = (i - l.length - 1) + 1 := by omega
      rw [this]; rfl

structure NumInv (L : List (List Int)) (n : Nat) (st : List (List Int) × List Int) : Prop where
  inj : ∀ k k', k < st.1.length → k' < st.1.length → st.1.getD k [] = st.1.getD k' [] → k = k'
  len : st.2.length = n
  hit : ∀ i, i < n → ∃ k, k < st.1.length ∧ st.2.getD i 0 = (k : Int) ∧ st.1.getD k [] = L.getD i []
  src : ∀ k, k < st.1.length → ∃ i, i < n ∧ st.1.getD k [] = L.getD i []

theorem num_inv {L : List (List Int)} : ∀ {n : Nat}, n ≤ L.length → NumInv L n (numSt L n)
  | 0, _ => ⟨by simp [numSt], by simp [numSt], fun i hi => by omega, by simp [numSt]⟩
  | n + 1, h => by
    have ih := num_inv (L := L) (n := n) (by omega)
    rw [numSt_succ (by omega)]
    generalize numSt L n = st at ih
    obtain ⟨seen, out⟩ := st
    obtain ⟨inj, len, hit, src⟩ := ih
    dsimp only at inj len hit src
    have hn : L.getD n [] = L[n] := by simp [List.getD_eq_getElem?_getD, show n < L.length by omega]
    unfold numStep
    dsimp only
    split
    · rename_i hneg
      have hnew : ∀ k, k < seen.length → seen.getD k [] ≠ L[n] := by
        intro k hk
        have := idx_neg hneg seen[k] (by simp)
        rw [List.getD_eq_getElem?_getD]
        simpa [hk] using this
      refine ⟨?_, by simp [len], ?_, ?_⟩
      · intro k k' hk hk' he
        simp only [List.length_append, List.length_cons, List.length_nil] at hk hk'
        simp only [getD_snoc] at he
        split at he <;> split at he <;> first | omega | skip
        · exact inj k k' (by assumption) (by assumption) he
        · split at he
          · exact absurd he (hnew k (by assumption))
          · omega
        · split at he
          · exact absurd he.symm (hnew k' (by assumption))
          · omega
      · intro i hi
        rcases Nat.lt_or_ge i n with h' | h'
        · obtain ⟨k, hk, h1, h2⟩ := hit i h'
          refine ⟨k, by simp; omega, ?_, ?_⟩
          · rw [getD_snoc, if_pos (by omega)]; exact h1
          · rw [getD_snoc, if_pos hk]; exact h2
        · have : i = n := by omega
          subst this
          refine ⟨seen.length, by simp, ?_, ?_⟩
          · rw [getD_snoc, if_neg (by omega), if_pos (by omega)]
          · rw [getD_snoc, if_neg (by omega), if_pos rfl, hn]
      · intro k hk
        simp only [List.length_append, List.length_cons, List.length_nil] at hk
        rcases Nat.lt_or_ge k seen.length with h' | h'
        · obtain ⟨i, hi, he⟩ := src k h'
          exact ⟨i, by omega, by rw [getD_snoc, if_pos h']; exact he⟩
        · exact ⟨n, by omega, by rw [getD_snoc, if_neg (by omega), if_pos (by omega), hn]⟩
    · rename_i hneg
      obtain ⟨q, hq, hqi, hqe⟩ := idx_pos hneg
      have hqe : seen[q] = L[n] := by simpa using hqe
      refine ⟨inj, by simp [len], ?_, ?_⟩
      · intro i hi
        rcases Nat.lt_or_ge i n with h' | h'
        · obtain ⟨k, hk, h1, h2⟩ := hit i h'
          exact ⟨k, hk, by dsimp only; rw [getD_snoc, if_pos (by omega)]; exact h1, h2⟩
        · have : i = n := by omega
          subst this
          refine ⟨q, hq, ?_, ?_⟩
          · dsimp only
            rw [getD_snoc, if_neg (by omega), if_pos (by omega)]; exact hqi
          · dsimp only
            rw [hn, ← hqe, List.getD_eq_getElem?_getD]; simp [hq]
      · intro k hk
        obtain ⟨i, hi, he⟩ := src k hk
        exact ⟨i, by omega, he⟩

/-- How many lists there are among the first ones. -/
def dn (L : List (List Int)) (n : Nat) : Nat := (numSt L n).1.length

theorem num_stay {L : List (List Int)} {n : Nat} : ∀ (d : Nat), n + d ≤ L.length → ∀ i, i < n → (numSt L (n + d)).2.getD i 0 = (numSt L n).2.getD i 0
  | 0, _, _, _ => rfl
  | d + 1, h, i, hi => by
    rw [← num_stay d (by omega) i hi, ← Nat.add_assoc, numSt_succ (by omega)]
    have hl := (num_inv (L := L) (n := n + d) (by omega)).len
    unfold numStep
    split <;> (dsimp only; rw [getD_snoc, if_pos (by omega)])
theorem numberF_at {L : List (List Int)} {n i : Nat} (h : n ≤ L.length) (hi : i < n) : (numberF L).getD i 0 = (numSt L n).2.getD i 0 := by
  have := num_stay (L := L) (n := n) (L.length - n) (by omega) i hi
  rw [show n + (L.length - n) = L.length by omega] at this
  exact this

theorem number_same {L : List (List Int)} {i j : Nat} (hi : i < L.length) (hj : j < L.length) : (numberF L).getD i 0 = (numberF L).getD j 0 ↔ L.getD i [] = L.getD j [] := by
  have h := num_inv (L := L) (n := L.length) (Nat.le_refl _)
  obtain ⟨k, hk, h1, h2⟩ := h.hit i hi
  obtain ⟨k', hk', h1', h2'⟩ := h.hit j hj
  unfold numberF
  rw [h1, h1', ← h2, ← h2']
  constructor
  · intro e
    have : k = k' := by omega
    rw [this]
  · intro e
    rw [h.inj k k' hk hk' e]

theorem number_new {L : List (List Int)} {n : Nat} (h : n < L.length) (hnew : ∀ i, i < n → L.getD i [] ≠ L.getD n []) : dn L (n + 1) = dn L n + 1 ∧ (numberF L).getD n 0 = (dn L n : Int) := by
  have hs := numSt_succ h
  have inv := num_inv (L := L) (n := n) (by omega)
  have hn : L.getD n [] = L[n] := by simp [List.getD_eq_getElem?_getD, h]
  have hidx : idx (fun x => x == L[n]) (numSt L n).1 < 0 := by
    apply Classical.byContradiction
    intro hc
    obtain ⟨q, hq, _, hqe⟩ := idx_pos hc
    obtain ⟨i, hi, he⟩ := inv.src q hq
    apply hnew i hi
    rw [hn, ← he, List.getD_eq_getElem?_getD]
    simpa [hq] using hqe
  have hl := inv.len
  unfold numStep at hs
  rw [if_pos hidx] at hs
  constructor
  · simp [dn, hs]
  · rw [numberF_at (n := n + 1) (by omega) (by omega), hs]
    dsimp only
    rw [getD_snoc, if_neg (by omega), if_pos (by omega)]
    rfl
theorem number_old {L : List (List Int)} {n i : Nat} (h : n < L.length) (hi : i < n) (he : L.getD i [] = L.getD n []) : dn L (n + 1) = dn L n ∧ ∃ k : Nat, (numberF L).getD n 0 = (k : Int) ∧ k < dn L n := by
  have hs := numSt_succ h
  have inv := num_inv (L := L) (n := n) (by omega)
  obtain ⟨k, hk, h1, h2⟩ := inv.hit i hi
  have hn : L.getD n [] = L[n] := by simp [List.getD_eq_getElem?_getD, h]
  have hidx : ¬ idx (fun x => x == L[n]) (numSt L n).1 < 0 := by
    intro hc
    have := idx_neg hc ((numSt L n).1[k]) (by simp)
    rw [he, hn, List.getD_eq_getElem?_getD] at h2
    simp [hk] at h2
    simp [h2] at this
  refine ⟨?_, k, ?_, hk⟩
  · unfold numStep at hs
    rw [if_neg hidx] at hs
    simp [dn, hs]
  · rw [← (number_same (L := L) (i := i) (j := n) (by omega) h).2 he, numberF_at (n := n) (by omega) hi, h1]

theorem number_le {L : List (List Int)} {n i : Nat} (hn : n ≤ L.length) (hi : i < n) : ∃ k : Nat, (numberF L).getD i 0 = (k : Int) ∧ k < dn L n := by
  obtain ⟨k, hk, h1, _⟩ := (num_inv hn).hit i hi
  exact ⟨k, by rw [numberF_at hn hi, h1], hk⟩
theorem dn_le {L : List (List Int)} {n : Nat} (hn : n ≤ L.length) : dn L n ≤ n := (numSt_len hn).1

theorem number_congr {L M : List (List Int)} (hl : L.length = M.length) (h : ∀ i j, i < L.length → j < L.length → (L.getD i [] = L.getD j [] ↔ M.getD i [] = M.getD j [])) : numberF L = numberF M := by
  have key : ∀ n, n ≤ L.length → dn L n = dn M n ∧ ∀ i, i < n → (numberF L).getD i 0 = (numberF M).getD i 0 := by
    intro n
    induction n with
    | zero => intro _; exact ⟨rfl, fun i hi => by omega⟩
    | succ n ih =>
      intro hn
      obtain ⟨h1, h2⟩ := ih (by omega)
      by_cases hnew : ∀ i, i < n → L.getD i [] ≠ L.getD n []
      · have hnew' : ∀ i, i < n → M.getD i [] ≠ M.getD n [] := fun i hi e => hnew i hi ((h i n (by omega) (by omega)).2 e)
        obtain ⟨a1, a2⟩ := number_new (by omega) hnew
        obtain ⟨b1, b2⟩ := number_new (by omega) hnew'
        refine ⟨by omega, fun i hi => ?_⟩
        rcases Nat.lt_or_ge i n with h' | h'
        · exact h2 i h'
        · have : i = n := by omega
          subst this
          rw [a2, b2, h1]
      · have ⟨i, hi⟩ := Classical.not_forall.1 hnew
        have ⟨hi, he⟩ := Classical.not_imp.1 hi
        have he := Classical.not_not.1 he
        have he' := (h i n (by omega) (by omega)).1 he
        have a1 := (number_old (by omega) hi he).1
        have b1 := (number_old (L := M) (by omega) hi he').1
        refine ⟨by omega, fun j hj => ?_⟩
        rcases Nat.lt_or_ge j n with h' | h'
        · exact h2 j h'
        · have : j = n := by omega
          subst this
          rw [← (number_same (L := L) (i := i) (j := j) (by omega) (by omega)).2 he, ← (number_same (L := M) (i := i) (j := j) (by omega) (by omega)).2 he']
          exact h2 i hi
  apply List.ext_getElem
  · rw [numberF_len, numberF_len, hl]
  · intro i h1 h2
    have := (key L.length (Nat.le_refl _)).2 i (by rw [numberF_len] at h1; exact h1)
    simpa [List.getD_eq_getElem?_getD, h1, h2] using this

/-- Lists that are all unlike are numbered 0, 1, 2, .. -/
theorem number_id {L : List (List Int)} (h : ∀ i j, i < L.length → j < L.length → L.getD i [] = L.getD j [] → i = j) : ∀ i, i < L.length → (numberF L).getD i 0 = (i : Int) := by
  have key : ∀ n, n ≤ L.length → dn L n = n := by
    intro n
    induction n with
    | zero => intro _; rfl
    | succ n ih =>
      intro hn
      rw [(number_new (L := L) (n := n) (by omega) (fun i hi e => by have := h i n (by omega) (by omega) e; omega)).1, ih (by omega)]
  intro i hi
  rw [(number_new (L := L) (n := i) hi (fun j hj e => by have := h j i (by omega) (by omega) e; omega)).2, key i (by omega)]
end Go.Proofs.YtoikggboakojlaaDoor

/-
  Plain facts of tables: the rounds come to an end; which states are alike.
-/
namespace Go.Proofs.YtoikggboakojlaaDoor
set_option linter.unusedSimpArgs false
set_option linter.unusedVariables false

def nx (t : Tab) (s c : Nat) : Nat := ((t.next.getD s []).getD c 0).toNat
def te (t : Tab) (s c : Nat) : Int := (t.tells.getD s []).getD c 0
def wd (t : Tab) : Nat := (t.next.getD 0 []).length
/-- After so many rounds two states have the same number. -/
def Al (t : Tab) (k i j : Nat) : Prop := (iter t k).getD i 0 = (iter t k).getD j 0

theorem Ok.nx_lt {t : Tab} (ok : Ok t) {s c : Nat} (hs : s < t.n) (hc : c < wd t) : nx t s c < t.n := by
  have hl := ok.nextLen s hs
  have hc : c < (t.next.getD 0 []).length := hc
  rw [← hl] at hc
  have hth := ok.there s hs
  unfold nx
  generalize t.next.getD s [] = r at hc hth
  have hm : r.getD c 0 ∈ r := by
    rw [List.getD_eq_getElem?_getD, List.getElem?_eq_getElem hc]
    exact List.getElem_mem hc
  have := hth _ hm
  omega

theorem sigN_same (t : Tab) (now : List Int) (s s' : Nat) : ∀ i, sigN t now s i = sigN t now s' i ↔ now.getD s 0 = now.getD s' 0 ∧ ∀ c, c < i → te t s c = te t s' c ∧ now.getD (nx t s c) 0 = now.getD (nx t s' c) 0
  | 0 => by simp [sigN]
  | i + 1 => by
    rw [sigN_succ, sigN_succ]
    constructor
    · intro h
      obtain ⟨h1, h2⟩ := List.append_inj' h rfl
      obtain ⟨h3, h4⟩ := (sigN_same t now s s' i).1 h1
      refine ⟨h3, fun c hc => ?_⟩
      rcases Nat.lt_or_ge c i with h' | h'
      · exact h4 c h'
      · have : c = i := by omega
        subst this
        simp only [List.cons.injEq, and_true] at h2
        exact h2
    · rintro ⟨h3, h4⟩
      rw [(sigN_same t now s s' i).2 ⟨h3, fun c hc => h4 c (by omega)⟩]
      obtain ⟨h5, h6⟩ := h4 i (by omega)
      unfold te at h5
      unfold nx at h6
      rw [h5, h6]

theorem sig_same {t : Tab} (ok : Ok t) (now : List Int) {s s' : Nat} (hs : s < t.n) (hs' : s' < t.n) :
    sig t now s = sig t now s' ↔ now.getD s 0 = now.getD s' 0 ∧ ∀ c, c < wd t → te t s c = te t s' c ∧ now.getD (nx t s c) 0 = now.getD (nx t s' c) 0 := by
  unfold sig
  rw [ok.nextLen s hs, ok.nextLen s' hs']
  exact sigN_same t now s s' _

theorem getD_sigs (t : Tab) (now : List Int) {s : Nat} (hs : s < t.n) : ((List.range t.n).map (sig t now)).getD s [] = sig t now s := by
  rw [List.getD_eq_getElem?_getD]
  simp [hs]

theorem al_succ {t : Tab} (ok : Ok t) {k i j : Nat} (hi : i < t.n) (hj : j < t.n) : Al t (k + 1) i j ↔ Al t k i j ∧ ∀ c, c < wd t → te t i c = te t j c ∧ Al t k (nx t i c) (nx t j c) := by
  unfold Al
  rw [iter, nextF, number_same (by simpa using hi) (by simpa using hj), getD_sigs t _ hi, getD_sigs t _ hj, sig_same ok _ hi hj]
theorem al_zero {t : Tab} {i j : Nat} (hi : i < t.n) (hj : j < t.n) : Al t 0 i j := by
  simp [Al, iter, List.getD_eq_getElem?_getD, hi, hj]
theorem al_down {t : Tab} (ok : Ok t) {i j : Nat} (hi : i < t.n) (hj : j < t.n) {k : Nat} : ∀ d, Al t (k + d) i j → Al t k i j
  | 0, h => h
  | d + 1, h => al_down ok hi hj d ((al_succ ok hi hj).1 h).1

/-- Rounds that part no more stay. -/
theorem iter_stay {t : Tab} {k : Nat} (h : nextF t (iter t k) = iter t k) : ∀ d, iter t (k + d) = iter t k
  | 0 => rfl
  | d + 1 => by rw [← Nat.add_assoc, iter, iter_stay h d, h]

theorem stable {t : Tab} (ok : Ok t) {k : Nat} (h : ∀ i j, i < t.n → j < t.n → Al t k i j → Al t (k + 1) i j) : nextF t (iter t k) = iter t k := by
  have hiff : ∀ i j, i < t.n → j < t.n → (Al t (k + 1) i j ↔ Al t k i j) := fun i j hi hj => ⟨al_down ok hi hj 1, h i j hi hj⟩
  have hs : ∀ m i j, i < t.n → j < t.n → (((List.range t.n).map (sig t (iter t m))).getD i [] = ((List.range t.n).map (sig t (iter t m))).getD j [] ↔ Al t (m + 1) i j) := by
    intro m i j hi hj
    unfold Al
    rw [iter, nextF, number_same (by simpa using hi) (by simpa using hj)]
  cases k with
  | zero =>
    apply List.ext_getElem
    · simp [nextF, numberF_len, iter]
    · intro i h1 h2
      have hi : i < t.n := by simpa [iter] using h2
      have h0 : 0 < t.n := by omega
      have e : Al t 1 i 0 := (hiff i 0 hi h0).2 (al_zero hi h0)
      have e0 : (iter t 1).getD 0 0 = 0 := by
        have := (number_new (L := (List.range t.n).map (sig t (iter t 0))) (n := 0) (by simpa using h0) (fun i hi => by omega)).2
        simpa [iter, nextF, dn, numSt] using this
      have h1' : i < (iter t 1).length := h1
      unfold Al at e
      rw [e0, List.getD_eq_getElem?_getD] at e
      have e' : (iter t 1)[i] = 0 := by simpa [h1'] using e
      have e2 : (iter t 0)[i] = 0 := by simp [iter]
      rw [e2, ← e']
      rfl
  | succ k =>
    show numberF _ = numberF _
    refine number_congr (by simp) fun i j hi hj => ?_
    have hi : i < t.n := by simpa using hi
    have hj : j < t.n := by simpa using hj
    rw [hs _ i j hi hj, hs _ i j hi hj]
    exact hiff i j hi hj

theorem countP_eq {α : Type} {p q : α → Bool} : ∀ {l : List α}, (∀ x ∈ l, p x = true → q x = true) → l.countP q ≤ l.countP p → ∀ x ∈ l, q x = true → p x = true
  | [], _, _, x, hx, _ => by simp at hx
  | y :: l, h, hc, x, hx, hq => by
    have hm : l.countP p ≤ l.countP q := List.countP_mono_left fun x hx => h x (by simp [hx])
    have hy := h y (by simp)
    simp only [List.countP_cons] at hc
    have h2 : l.countP q ≤ l.countP p ∧ (q y = true → p y = true) := by
      cases hpy : p y <;> cases hqy : q y <;> simp_all <;> omega
    rcases List.mem_cons.1 hx with rfl | hx
    · exact h2.2 hq
    · exact countP_eq (fun x hx => h x (by simp [hx])) h2.1 x hx hq

def pairs (n : Nat) : List (Nat × Nat) := (List.range n).flatMap fun i => (List.range n).map fun j => (i, j)
theorem mem_pairs {n : Nat} {p : Nat × Nat} : p ∈ pairs n ↔ p.1 < n ∧ p.2 < n := by
  unfold pairs
  simp only [List.mem_flatMap, List.mem_range, List.mem_map]
  constructor
  · rintro ⟨i, hi, j, hj, rfl⟩; exact ⟨hi, hj⟩
  · rintro ⟨h1, h2⟩; exact ⟨p.1, h1, p.2, h2, rfl⟩
theorem flat_len {α β : Type} (f : α → List β) (n : Nat) : ∀ (l : List α), (∀ x ∈ l, (f x).length = n) → (l.flatMap f).length = l.length * n
  | [], _ => by simp
  | x :: l, h => by
    rw [List.flatMap_cons, List.length_append, h x (by simp), flat_len f n l (fun y hy => h y (by simp [hy])), List.length_cons, Nat.add_mul, Nat.one_mul, Nat.add_comm]
theorem pairs_len (n : Nat) : (pairs n).length = n * n := by
  unfold pairs
  rw [flat_len _ n _ (by simp)]
  simp

open Classical in
noncomputable def cnt (t : Tab) (k : Nat) : Nat := (pairs t.n).countP fun p => decide (Al t k p.1 p.2)

theorem cnt_lt {t : Tab} (ok : Ok t) {k : Nat} (h : nextF t (iter t k) ≠ iter t k) : cnt t (k + 1) < cnt t k := by
  classical
  apply Classical.byContradiction
  intro hc
  apply h
  refine stable ok fun i j hi hj ha => ?_
  unfold cnt at hc
  have := countP_eq (p := fun p => decide (Al t (k + 1) p.1 p.2)) (q := fun p => decide (Al t k p.1 p.2)) (l := pairs t.n) (fun p hp hx => by
    have hp := mem_pairs.1 hp
    simp only [decide_eq_true_eq] at hx ⊢
    exact al_down ok hp.1 hp.2 1 hx) (by omega) (i, j) (mem_pairs.2 ⟨hi, hj⟩) (by simpa using ha)
  simpa using this

theorem first_such (P : Nat → Prop) : ∀ N, (∃ k, k ≤ N ∧ P k) → ∃ k, k ≤ N ∧ P k ∧ ∀ j, j < k → ¬ P j
  | 0, ⟨k, hk, h⟩ => ⟨0, by omega, by rwa [show k = 0 by omega] at h, fun j hj => by omega⟩
  | N + 1, ⟨k, hk, h⟩ => by
    by_cases hx : ∃ k, k ≤ N ∧ P k
    · obtain ⟨k, hk, r⟩ := first_such P N hx
      exact ⟨k, by omega, r⟩
    · exact ⟨k, hk, h, fun j hj hp => hx ⟨j, by omega, hp⟩⟩

theorem stops_ex {t : Tab} (ok : Ok t) : ∃ k, k ≤ t.n * t.n ∧ Stops t k := by
  refine first_such (fun k => nextF t (iter t k) = iter t k) _ ?_
  apply Classical.byContradiction
  intro hc
  have hall : ∀ k, k ≤ t.n * t.n → nextF t (iter t k) ≠ iter t k := fun k hk e => hc ⟨k, hk, e⟩
  have key : ∀ k, k ≤ t.n * t.n + 1 → cnt t k + k ≤ t.n * t.n := by
    intro k
    induction k with
    | zero =>
      intro _
      have h1 : cnt t 0 ≤ (pairs t.n).length := List.countP_le_length
      rw [pairs_len] at h1
      omega
    | succ k ih =>
      intro hk
      have h1 := ih (by omega)
      have h2 := cnt_lt ok (hall k (by omega))
      omega
  have := key (t.n * t.n + 1) (Nat.le_refl _)
  omega
theorem stops_small {t : Tab} (ok : Ok t) : ∃ k, k < 2^20 ∧ Stops t k := by
  obtain ⟨k, hk, h⟩ := stops_ex ok
  refine ⟨k, ?_, h⟩
  have h1 := ok.most
  have : t.n * t.n ≤ 500 * 500 := Nat.mul_le_mul h1 h1
  omega
theorem stops_one {t : Tab} {k k' : Nat} (h : Stops t k) (h' : Stops t k') : k = k' := by
  rcases Nat.lt_trichotomy k k' with hlt | rfl | hlt
  · exact absurd h.1 (h'.2 k hlt)
  · rfl
  · exact absurd h'.1 (h.2 k' hlt)

/-- What the rounds come to: alike now, then they go on so. -/
theorem al_fix {t : Tab} (ok : Ok t) {k : Nat} (h : nextF t (iter t k) = iter t k) {i j : Nat} (hi : i < t.n) (hj : j < t.n) (ha : Al t k i j) : ∀ c, c < wd t → te t i c = te t j c ∧ Al t k (nx t i c) (nx t j c) := by
  have : Al t (k + 1) i j := by unfold Al; rw [iter, h]; exact ha
  exact ((al_succ ok hi hj).1 this).2
theorem al_all {t : Tab} (ok : Ok t) {k : Nat} (h : nextF t (iter t k) = iter t k) {i j : Nat} (hi : i < t.n) (hj : j < t.n) (ha : Al t k i j) (m : Nat) : Al t m i j := by
  rcases Nat.le_total m k with hm | hm
  · exact al_down ok hi hj (k - m) (by rwa [show m + (k - m) = k by omega])
  · unfold Al
    rw [show m = k + (m - k) by omega, iter_stay h]
    exact ha
end Go.Proofs.YtoikggboakojlaaDoor

/-
  Plain facts of tables: which tables may be; the table of blocks; its own blocks are its states.
-/
namespace Go.Proofs.YtoikggboakojlaaDoor
set_option linter.unusedSimpArgs false
set_option linter.unusedVariables false

theorem rowsF_none {t : Tab} : ∀ {n s : Nat}, rowsF t s n = none ↔ ∀ i, s ≤ i → i < s + n → rowF t i = none
  | 0, s => by simp only [rowsF, true_iff]; intro i h1 h2; omega
  | n + 1, s => by
    unfold rowsF
    constructor
    · intro h i h1 h2
      split at h
      · cases h
      · rename_i hn
        rcases Nat.lt_or_ge s i with h' | h'
        · exact rowsF_none.1 h i (by omega) (by omega)
        · rw [show i = s by omega]; exact hn
    · intro h
      rw [h s (by omega) (by omega)]
      exact rowsF_none.2 fun i h1 h2 => h i (by omega) (by omega)
theorem rowF_none {t : Tab} {s : Nat} : rowF t s = none ↔ (t.next.getD s []).length = (t.next.getD 0 []).length ∧ (t.tells.getD s []).length = (t.next.getD 0 []).length ∧ ∀ x ∈ t.next.getD s [], 0 ≤ x ∧ x < (t.n : Int) := by
  unfold rowF Tab.n
  split
  · rename_i h
    simp only [reduceCtorEq, false_iff]
    rintro ⟨h1, h2, _⟩
    rcases h with h | h
    · exact h h1
    · exact h h2
  · rename_i h
    have h1 : (t.next.getD s []).length = (t.next.getD 0 []).length := by
      apply Classical.byContradiction; intro e; exact h (.inl e)
    have h2 : (t.tells.getD s []).length = (t.next.getD 0 []).length := by
      apply Classical.byContradiction; intro e; exact h (.inr e)
    split
    · rename_i ha
      simp only [reduceCtorEq, false_iff]
      rintro ⟨_, _, h3⟩
      obtain ⟨x, hx, hb⟩ := List.any_eq_true.1 ha
      have := h3 x hx
      simp at hb
      omega
    · rename_i ha
      simp only [true_iff]
      refine ⟨h1, h2, fun x hx => ?_⟩
      have : ¬ ((decide (x < 0) || decide ((t.next.length : Int) ≤ x)) = true) := fun e => ha (List.any_eq_true.2 ⟨x, hx, e⟩)
      simp at this
      omega
theorem ok_iff {t : Tab} : checkF t = none ↔ Ok t := by
  unfold checkF
  constructor
  · intro h
    split at h
    · cases h
    · split at h
      · cases h
      · have hr := fun (i : Nat) (hi : i < t.n) => rowF_none.1 (rowsF_none.1 h i (by omega) (by unfold Tab.n at hi; omega))
        exact ⟨by unfold Tab.n; omega, by unfold Tab.n; omega, by omega, by unfold Tab.n; omega, fun s hs => (hr s hs).1, fun s hs => (hr s hs).2.1, fun s hs => (hr s hs).2.2⟩
  · intro ok
    have h1 := ok.pos
    have h2 := ok.most
    have h3 := ok.ins
    have h4 := ok.tells
    unfold Tab.n at h1 h2 h4
    rw [if_neg (by omega), if_neg (by omega)]
    exact rowsF_none.2 fun i h1 h2 => rowF_none.2 ⟨ok.nextLen i (by unfold Tab.n; omega), ok.tellsLen i (by unfold Tab.n; omega), ok.there i (by unfold Tab.n; omega)⟩

def leastStep (t : Tab) (l : List Int) (st : List (List Int) × List (List Int)) (s : Nat) : List (List Int) × List (List Int) :=
  if l.getD s 0 < (st.1.length : Int) then st else (st.1 ++ [(t.next.getD s []).map fun x => l.getD x.toNat 0], st.2 ++ [t.tells.getD s []])
def leastSt (t : Tab) (l : List Int) (n : Nat) : List (List Int) × List (List Int) := (List.range n).foldl (leastStep t l) ([], [])
def leastF (t : Tab) (l : List Int) : Tab := ⟨(leastSt t l t.n).1, (leastSt t l t.n).2⟩

theorem leastSt_succ (t : Tab) (l : List Int) (n : Nat) : leastSt t l (n + 1) = leastStep t l (leastSt t l n) n := by
  simp [leastSt, List.range_succ]

structure LeastInv (t : Tab) (l : List Int) (S : List (List Int)) (n : Nat) (st : List (List Int) × List (List Int)) : Prop where
  len : st.2.length = st.1.length
  cnt : st.1.length = dn S n
  row : ∀ q, q < st.1.length → ∃ s, s < n ∧ l.getD s 0 = (q : Int) ∧ st.1.getD q [] = (t.next.getD s []).map (fun x => l.getD x.toNat 0) ∧ st.2.getD q [] = t.tells.getD s []

theorem least_inv {t : Tab} {l : List Int} {S : List (List Int)} (hS : S.length = t.n) (hl : l = numberF S) : ∀ {n : Nat}, n ≤ t.n → LeastInv t l S n (leastSt t l n)
  | 0, _ => ⟨rfl, rfl, fun q hq => by simp [leastSt] at hq⟩
  | n + 1, h => by
    have ih := least_inv hS hl (n := n) (by omega)
    rw [leastSt_succ]
    generalize leastSt t l n = st at ih
    obtain ⟨N, T⟩ := st
    obtain ⟨len, cnt, row⟩ := ih
    dsimp only at len cnt row
    unfold leastStep
    dsimp only
    by_cases hnew : ∀ i, i < n → S.getD i [] ≠ S.getD n []
    · obtain ⟨a1, a2⟩ := number_new (by omega) hnew
      rw [← hl] at a2
      rw [if_neg (by omega)]
      refine ⟨by simp [len], by simp [cnt, a1], fun q hq => ?_⟩
      simp only [List.length_append, List.length_cons, List.length_nil] at hq
      by_cases hq' : q < N.length
      · obtain ⟨s, hs, r1, r2, r3⟩ := row q hq'
        refine ⟨s, by omega, r1, ?_, ?_⟩
        · rw [getD_snoc, if_pos hq']; exact r2
        · rw [getD_snoc, if_pos (by omega)]; exact r3
      · refine ⟨n, by omega, by omega, ?_, ?_⟩
        · rw [getD_snoc, if_neg hq', if_pos (by omega)]
        · rw [getD_snoc, if_neg (by omega), if_pos (by omega)]
    · have ⟨i, hi⟩ := Classical.not_forall.1 hnew
      have ⟨hi, he⟩ := Classical.not_imp.1 hi
      have he := Classical.not_not.1 he
      obtain ⟨a1, k, a2, a3⟩ := number_old (by omega) hi he
      rw [← hl] at a2
      rw [if_pos (by omega)]
      exact ⟨len, by rw [cnt, a1], fun q hq => by obtain ⟨s, hs, r⟩ := row q hq; exact ⟨s, by omega, r⟩⟩

/-- The table of blocks, of numbers that go on so. -/
structure LeastIs (t : Tab) (l : List Int) (u : Tab) : Prop where
  ok : Ok u
  le : u.n ≤ t.n
  wide : wd u = wd t
  rep : ∀ q, q < u.n → ∃ s, s < t.n ∧ l.getD s 0 = (q : Int) ∧ ∀ c, c < wd t → te u q c = te t s c ∧ ((nx u q c : Nat) : Int) = l.getD (nx t s c) 0
  blk : ∀ s, s < t.n → ∃ q, q < u.n ∧ l.getD s 0 = (q : Int)

theorem least_is {t : Tab} (ok : Ok t) {l : List Int} (h : nextF t l = l) : LeastIs t l (leastF t l) := by
  have hS : ((List.range t.n).map (sig t l)).length = t.n := by simp
  have hl : l = numberF ((List.range t.n).map (sig t l)) := h.symm
  have inv := least_inv hS hl (Nat.le_refl t.n)
  obtain ⟨len, cnt, row⟩ := inv
  generalize hSS : (List.range t.n).map (sig t l) = S at hS hl cnt
  have hu1 : (leastF t l).next = (leastSt t l t.n).1 := rfl
  have hu2 : (leastF t l).tells = (leastSt t l t.n).2 := rfl
  rw [← hu1, ← hu2] at len row
  rw [← hu1] at cnt
  have hn : (leastF t l).n = dn S t.n := cnt
  have blk : ∀ s, s < t.n → ∃ q, q < (leastF t l).n ∧ l.getD s 0 = (q : Int) := by
    intro s hs
    obtain ⟨k, h1, h2⟩ := number_le (L := S) (n := t.n) (i := s) (by omega) hs
    exact ⟨k, by omega, by rw [hl, h1]⟩
  have hpos := ok.pos
  have hpos' : 0 < (leastF t l).n := by obtain ⟨q, hq, _⟩ := blk 0 (by omega); omega
  have hlen : ∀ q, q < (leastF t l).n → ((leastF t l).next.getD q []).length = wd t ∧ ((leastF t l).tells.getD q []).length = wd t := by
    intro q hq
    obtain ⟨s, hs, _, h2, h3⟩ := row q hq
    rw [h2, h3]
    exact ⟨by rw [List.length_map]; exact ok.nextLen s hs, ok.tellsLen s hs⟩
  have hw : wd (leastF t l) = wd t := (hlen 0 hpos').1
  have hle : (leastF t l).n ≤ t.n := by rw [hn]; exact dn_le (by omega)
  have hmost := ok.most
  refine ⟨⟨hpos', by omega, by have := ok.ins; unfold wd at hw; omega, len, fun s hs => by rw [(hlen s hs).1]; exact hw.symm, fun s hs => by rw [(hlen s hs).2]; exact hw.symm, ?_⟩, hle, hw, ?_, blk⟩
  · intro q hq x hx
    obtain ⟨s, hs, _, h2, _⟩ := row q hq
    rw [h2] at hx
    obtain ⟨y, hy, rfl⟩ := List.mem_map.1 hx
    have := ok.there s hs y hy
    obtain ⟨q', h1, h2⟩ := blk y.toNat (by omega)
    omega
  · intro q hq
    obtain ⟨s, hs, h1, h2, h3⟩ := row q hq
    refine ⟨s, hs, h1, fun c hc => ⟨by unfold te; rw [h3], ?_⟩⟩
    have hcl : c < (t.next.getD s []).length := by rw [ok.nextLen s hs]; exact hc
    have hnx := ok.nx_lt hs hc
    obtain ⟨q', h4, h5⟩ := blk _ hnx
    have e : ((leastF t l).next.getD q []).getD c 0 = l.getD (nx t s c) 0 := by
      rw [h2]
      unfold nx
      generalize t.next.getD s [] = r at hcl
      rw [List.getD_eq_getElem?_getD, List.getElem?_map, List.getD_eq_getElem?_getD (l := r), List.getElem?_eq_getElem hcl]
      rfl
    unfold nx at e ⊢
    rw [e]
    unfold nx at h5
    omega

theorem least_apart {t u : Tab} (ok : Ok t) {k k' : Nat} (h : nextF t (iter t k) = iter t k) (hu : LeastIs t (iter t k) u) (h' : nextF u (iter u k') = iter u k') :
    ∀ (r s s' q q' : Nat), s < t.n → s' < t.n → (iter t k).getD s 0 = (q : Int) → (iter t k).getD s' 0 = (q' : Int) → q < u.n → q' < u.n → Al u k' q q' → Al t r s s'
  | 0, s, s', _, _, hs, hs', _, _, _, _, _ => al_zero hs hs'
  | r + 1, s, s', q, q', hs, hs', hq, hq', hqn, hqn', ha => by
    obtain ⟨s1, hs1, e1, f1⟩ := hu.rep q hqn
    obtain ⟨s2, hs2, e2, f2⟩ := hu.rep q' hqn'
    have a1 : Al t (r + 1) s s1 := al_all ok h hs hs1 (by unfold Al; rw [hq, e1]) (r + 1)
    have a2 : Al t (r + 1) s' s2 := al_all ok h hs' hs2 (by unfold Al; rw [hq', e2]) (r + 1)
    have a3 : Al t (r + 1) s1 s2 := by
      refine (al_succ ok hs1 hs2).2 ⟨least_apart ok h hu h' r s1 s2 q q' hs1 hs2 e1 e2 hqn hqn' ha, fun c hc => ?_⟩
      have hc' : c < wd u := by rw [hu.wide]; exact hc
      obtain ⟨g1, g2⟩ := al_fix hu.ok h' hqn hqn' ha c hc'
      refine ⟨by rw [← (f1 c hc).1, ← (f2 c hc).1, g1], ?_⟩
      exact least_apart ok h hu h' r _ _ _ _ (ok.nx_lt hs1 hc) (ok.nx_lt hs2 hc) (f1 c hc).2.symm (f2 c hc).2.symm (hu.ok.nx_lt hqn hc') (hu.ok.nx_lt hqn' hc') g2
    unfold Al at a1 a2 a3 ⊢
    rw [a1, a2, a3]

/-- The table of blocks has its own states as its blocks. -/
theorem least_id {t u : Tab} (ok : Ok t) {k k' : Nat} (h : nextF t (iter t k) = iter t k) (hu : LeastIs t (iter t k) u) (h' : nextF u (iter u k') = iter u k') : ∀ i, i < u.n → (iter u k').getD i 0 = (i : Int) := by
  have inj : ∀ i j, i < u.n → j < u.n → Al u k' i j → i = j := by
    intro i j hi hj ha
    obtain ⟨s, hs, e, _⟩ := hu.rep i hi
    obtain ⟨s', hs', e', _⟩ := hu.rep j hj
    have := least_apart ok h hu h' k s s' i j hs hs' e e' hi hj ha
    unfold Al at this
    rw [e, e'] at this
    omega
  intro i hi
  rw [← h']
  unfold nextF
  refine number_id (fun i j hi hj he => ?_) i (by simpa using hi)
  have hi' : i < u.n := by simpa using hi
  have hj' : j < u.n := by simpa using hj
  refine inj i j hi' hj' ?_
  unfold Al
  rw [← h']
  exact (number_same hi hj).2 he
end Go.Proofs.YtoikggboakojlaaDoor

/-
  The blocks of a table.
-/
namespace Go.Proofs.YtoikggboakojlaaDoor
set_option linter.unusedSimpArgs false
set_option linter.unusedVariables false
open Go.Av

set_option maxHeartbeats 1000000 in
theorem blocks_bad (G : Glob) (t : Tab) (e : Int × Option Nat) (h : checkF t = some e) : PureC Tryd.prog G 17 [dTab t] (.tup [.sl (some false) [], dErr (some e)]) := by
  refine PureC.of_body (tyOf_good _) Tryd.func17 rfl rfl (rs := [.tmp 2, .tmp 3]) Tryd.results17 (by simp [Tryd.ntmps17]) fun X => ?_
  simp only [Tryd.ntmps17, List.map]
  refine AW_rg (tyOf_good _) [1] [1] (fun _ _ => trivial) fun K' hK' => ?_
  repeat (refine sxf_next fun K2 hK2 => ?_; simp [dTab]; (repeat (refine ⟨by omega, ?_⟩)); refine hK2 _ ?_; clear hK2 K2)
  refine sxf_nil (hK' _ ?_)
  refine AW.st (by simp [dTab]; rfl) ?_
  clear hK' K'
  refine AW_then fun K1 hK1 => ?_
  refine AW_rg (tyOf_good _) [1, 4] [1] (fun _ _ => trivial) fun K' hK' => ?_
  repeat (refine sxf_next fun K2 hK2 => ?_; simp; (repeat (refine ⟨by omega, ?_⟩)); refine hK2 _ ?_; clear hK2 K2)
  refine sxf_next fun K2 hK2 => ?_
  simp
  refine callK.data (check_spec G t) (by simp; rfl) (by first | exact D.leGo_refl _ | simp [takeMap, List.map_map, Function.comp_def, D.le, D.le.go, D.le_refl, D.leGo_refl]) ?_
  refine hK2 _ ?_
  clear hK2 K2
  simp only [putd, upd_lst]
  repeat (refine sxf_next fun K2 hK2 => ?_; simp; (repeat (refine ⟨by omega, ?_⟩)); refine hK2 _ ?_; clear hK2 K2)
  refine sxf_nil (hK' _ ?_)
  refine AW.st (by simp; rfl) ?_
  clear hK' K'
  rw [h]
  obtain ⟨c, s⟩ := e
  cases s
  · refine AW_rg (tyOf_good _) [1, 4, 9] [1] (fun _ _ => trivial) fun K' hK' => ?_
    repeat (refine sxf_next fun K2 hK2 => ?_; simp [dErr]; (repeat (refine ⟨by omega, ?_⟩)); refine hK2 _ ?_; clear hK2 K2)
    refine sxf_nil (hK' _ ?_)
    refine AW.st (by simp [dErr]; rfl) ?_
    clear hK' K'
    refine AW_cond true rfl (fun _ => ?_) (fun h => by cases h)
    refine AW_rg (tyOf_good _) [2, 3] [1] (fun _ _ => trivial) fun K' hK' => ?_
    repeat (refine sxf_next fun K2 hK2 => ?_; simp; (repeat (refine ⟨by omega, ?_⟩)); refine hK2 _ ?_; clear hK2 K2)
    refine sxf_nil (hK' _ ?_)
    refine AW.st (by simp; rfl) ?_
    clear hK' K'
    refine AW_ret ?_
    simp [D.le, D.le.go, takeMap, dErr]
  · refine AW_rg (tyOf_good _) [1, 4, 9] [1] (fun _ _ => trivial) fun K' hK' => ?_
    repeat (refine sxf_next fun K2 hK2 => ?_; simp [dErr]; (repeat (refine ⟨by omega, ?_⟩)); refine hK2 _ ?_; clear hK2 K2)
    refine sxf_nil (hK' _ ?_)
    refine AW.st (by simp [dErr]; rfl) ?_
    clear hK' K'
    refine AW_cond true rfl (fun _ => ?_) (fun h => by cases h)
    refine AW_rg (tyOf_good _) [2, 3] [1] (fun _ _ => trivial) fun K' hK' => ?_
    repeat (refine sxf_next fun K2 hK2 => ?_; simp; (repeat (refine ⟨by omega, ?_⟩)); refine hK2 _ ?_; clear hK2 K2)
    refine sxf_nil (hK' _ ?_)
    refine AW.st (by simp; rfl) ?_
    clear hK' K'
    refine AW_ret ?_
    simp [D.le, D.le.go, takeMap, dErr]

set_option maxHeartbeats 1000000 in
theorem blocks_good (G : Glob) (t : Tab) (ok : Ok t) (k : Nat) (hk : k < 2^20) (hs : Stops t k) : PureC Tryd.prog G 17 [dTab t] (.tup [dRow (iter t k), .v .nilIface]) := by
  have h : checkF t = none := ok_iff.2 ok
  refine PureC.of_body (tyOf_good _) Tryd.func17 rfl rfl (rs := [.tmp 2, .tmp 3]) Tryd.results17 (by simp [Tryd.ntmps17]) fun X => ?_
  simp only [Tryd.ntmps17, List.map]
  refine AW_rg (tyOf_good _) [1] [1] (fun _ _ => trivial) fun K' hK' => ?_
  repeat (refine sxf_next fun K2 hK2 => ?_; simp [dTab]; (repeat (refine ⟨by omega, ?_⟩)); refine hK2 _ ?_; clear hK2 K2)
  refine sxf_nil (hK' _ ?_)
  refine AW.st (by simp [dTab]; rfl) ?_
  clear hK' K'
  refine AW_then fun K1 hK1 => ?_
  refine AW_rg (tyOf_good _) [1, 4] [1] (fun _ _ => trivial) fun K' hK' => ?_
  repeat (refine sxf_next fun K2 hK2 => ?_; simp; (repeat (refine ⟨by omega, ?_⟩)); refine hK2 _ ?_; clear hK2 K2)
  refine sxf_next fun K2 hK2 => ?_
  simp
  refine callK.data (check_spec G t) (by simp; rfl) (by first | exact D.leGo_refl _ | simp [takeMap, List.map_map, Function.comp_def, D.le, D.le.go, D.le_refl, D.leGo_refl]) ?_
  refine hK2 _ ?_
  clear hK2 K2
  simp only [putd, upd_lst]
  repeat (refine sxf_next fun K2 hK2 => ?_; simp; (repeat (refine ⟨by omega, ?_⟩)); refine hK2 _ ?_; clear hK2 K2)
  refine sxf_nil (hK' _ ?_)
  refine AW.st (by simp; rfl) ?_
  clear hK' K'
  rw [h]
  refine AW_rg (tyOf_good _) [1, 4, 9] [1] (fun _ _ => trivial) fun K' hK' => ?_
  repeat (refine sxf_next fun K2 hK2 => ?_; simp [dErr]; (repeat (refine ⟨by omega, ?_⟩)); refine hK2 _ ?_; clear hK2 K2)
  refine sxf_nil (hK' _ ?_)
  refine AW.st (by simp [dErr]; rfl) ?_
  clear hK' K'
  refine AW_cond false rfl (fun h => by cases h) (fun _ => ?_)
  refine AW_skip (hK1 _ ?_)
  refine AW_rg (tyOf_good _) [5] [1] (fun _ _ => trivial) fun K' hK' => ?_
  repeat (refine sxf_next fun K2 hK2 => ?_; simp; (repeat (refine ⟨by omega, ?_⟩)); refine hK2 _ ?_; clear hK2 K2)
  refine sxf_next fun K2 hK2 => ?_
  simp
  refine callK.data (rounds_spec G t ok k hk hs) (by simp; rfl) (by first | exact D.leGo_refl _ | simp [takeMap, List.map_map, Function.comp_def, D.le, D.le.go, D.le_refl, D.leGo_refl]) ?_
  refine hK2 _ ?_
  clear hK2 K2
  simp only [putd, upd_lst]
  repeat (refine sxf_next fun K2 hK2 => ?_; simp; (repeat (refine ⟨by omega, ?_⟩)); refine hK2 _ ?_; clear hK2 K2)
  refine sxf_nil (hK' _ ?_)
  refine AW.st (by simp; rfl) ?_
  clear hK' K'
  refine AW_rg (tyOf_good _) [2, 3] [1] (fun _ _ => trivial) fun K' hK' => ?_
  repeat (refine sxf_next fun K2 hK2 => ?_; simp [dRows]; (repeat (refine ⟨by omega, ?_⟩)); refine hK2 _ ?_; clear hK2 K2)
  refine sxf_nil (hK' _ ?_)
  refine AW.st (by simp [dRows]; rfl) ?_
  clear hK' K'
  refine AW_ret ?_
  simp [D.le, D.le.go, takeMap, D.le_refl]
#print axioms blocks_bad
#print axioms blocks_good
end Go.Proofs.YtoikggboakojlaaDoor

/-
  Plain facts of pairs marked round by round.
-/
namespace Go.Proofs.YtoikggboakojlaaDoor
set_option linter.unusedSimpArgs false
set_option linter.unusedVariables false

def hitM (t : Tab) (d : Nat) (m : Nat → Nat → Nat) (a b i : Nat) : Bool := if d = 1 then te t a i != te t b i else m (nx t a i) (nx t b i) == d - 1
def mkM (t : Tab) (d : Nat) (m : Nat → Nat → Nat) (a b : Nat) : Nat := if m a b = 0 then (if (List.range (wd t)).any (hitM t d m a b) then d else 0) else m a b
def apM (t : Tab) : Nat → Nat → Nat → Nat
  | 0, _, _ => 0
  | d + 1, a, b => mkM t (d + 1) (apM t d) a b

theorem al_le {t : Tab} (ok : Ok t) {i j : Nat} (hi : i < t.n) (hj : j < t.n) {k e : Nat} (h : k ≤ e) (ha : Al t e i j) : Al t k i j := by
  obtain ⟨d, rfl⟩ := Nat.le.dest h
  exact al_down ok hi hj d ha

theorem apM_spec {t : Tab} (ok : Ok t) : ∀ d a b, a < t.n → b < t.n → (apM t d a b = 0 ↔ Al t d a b) ∧ (0 < apM t d a b → apM t d a b ≤ d ∧ Al t (apM t d a b - 1) a b ∧ ¬ Al t (apM t d a b) a b) := by
  intro d
  induction d with
  | zero => intro a b ha hb; exact ⟨by simp [apM, al_zero ha hb], by simp [apM]⟩
  | succ d ih =>
    intro a b ha hb
    obtain ⟨h1, h2⟩ := ih a b ha hb
    show (mkM t (d + 1) (apM t d) a b = 0 ↔ _) ∧ (0 < mkM t (d + 1) (apM t d) a b → mkM t (d + 1) (apM t d) a b ≤ d + 1 ∧ Al t (mkM t (d + 1) (apM t d) a b - 1) a b ∧ ¬ Al t (mkM t (d + 1) (apM t d) a b) a b)
    unfold mkM
    by_cases h0 : apM t d a b = 0
    · rw [if_pos h0]
      have hal := h1.1 h0
      by_cases hany : (List.range (wd t)).any (hitM t (d + 1) (apM t d) a b) = true
      · rw [if_pos hany]
        have hno : ¬ Al t (d + 1) a b := fun h => by
          obtain ⟨i, hi, hh⟩ := List.any_eq_true.1 hany
          have hi := List.mem_range.1 hi
          obtain ⟨_, hc⟩ := (al_succ ok ha hb).1 h
          obtain ⟨hc1, hc2⟩ := hc i hi
          unfold hitM at hh
          split at hh
          · simp [hc1] at hh
          · rename_i hd
            have hh : apM t d (nx t a i) (nx t b i) = d := by simpa using hh
            have hpos : 0 < apM t d (nx t a i) (nx t b i) := by omega
            have := ((ih _ _ (ok.nx_lt ha hi) (ok.nx_lt hb hi)).2 hpos).2.2
            rw [hh] at this
            exact this hc2
        exact ⟨⟨fun h => by omega, fun h => absurd h hno⟩, fun _ => ⟨Nat.le_refl _, by simpa using hal, hno⟩⟩
      · rw [if_neg hany]
        refine ⟨⟨fun _ => (al_succ ok ha hb).2 ⟨hal, fun c hc => ?_⟩, fun _ => rfl⟩, fun h => by omega⟩
        have hm : hitM t (d + 1) (apM t d) a b c = false := by
          simp only [Bool.not_eq_true] at hany
          exact List.any_eq_false.1 hany c (List.mem_range.2 hc) |> (by simpa using ·)
        unfold hitM at hm
        cases d with
        | zero =>
          rw [if_pos rfl] at hm
          exact ⟨by simpa using hm, al_zero (ok.nx_lt ha hc) (ok.nx_lt hb hc)⟩
        | succ d =>
          rw [if_neg (by omega)] at hm
          have hm : apM t (d + 1) (nx t a c) (nx t b c) ≠ d + 1 := by simpa using hm
          obtain ⟨hte, hal'⟩ := ((al_succ ok ha hb).1 hal).2 c hc
          refine ⟨hte, ?_⟩
          obtain ⟨g1, g2⟩ := ih (nx t a c) (nx t b c) (ok.nx_lt ha hc) (ok.nx_lt hb hc)
          refine g1.1 (Nat.eq_zero_of_not_pos fun hpos => ?_)
          obtain ⟨g3, _, g5⟩ := g2 hpos
          exact g5 (al_le ok (ok.nx_lt ha hc) (ok.nx_lt hb hc) (by omega) hal')
    · rw [if_neg h0]
      obtain ⟨g3, g4, g5⟩ := h2 (by omega)
      exact ⟨⟨fun h => absurd h h0, fun h => absurd (al_le ok ha hb (by omega) h) g5⟩, fun _ => ⟨by omega, g4, g5⟩⟩

/-- The matrix in the midst of a round: what lies ahead of (a, b) is done. -/
def mid (t : Tab) (d a b x y : Nat) : Nat := if x < a ∨ (x = a ∧ y < b) then apM t d x y else apM t (d - 1) x y

theorem mid_zero (t : Tab) (d : Nat) : mid t d 0 0 = apM t (d - 1) := by
  funext x y; unfold mid; rw [if_neg (by omega)]
theorem mid_here (t : Tab) (d a b : Nat) : mid t d a b a b = apM t (d - 1) a b := by
  unfold mid; rw [if_neg (by omega)]
theorem mid_end (t : Tab) (d a : Nat) {x : Nat} (h : x < a) (y : Nat) : mid t d a 0 x y = apM t d x y := by
  unfold mid; rw [if_pos (by omega)]
theorem mid_row (t : Tab) (d a n : Nat) {x y : Nat} (h : y < n) : mid t d a n x y = mid t d (a + 1) 0 x y := by
  unfold mid
  by_cases h1 : x < a ∨ (x = a ∧ y < n)
  · rw [if_pos h1, if_pos (by omega)]
  · rw [if_neg h1, if_neg (by omega)]
theorem mid_step (t : Tab) (d a b x y : Nat) : mid t d a (b + 1) x y = if x = a ∧ y = b then apM t d x y else mid t d a b x y := by
  unfold mid
  by_cases h : x = a ∧ y = b
  · rw [if_pos h, if_pos (by omega)]
  · rw [if_neg h]
    by_cases h1 : x < a ∨ (x = a ∧ y < b)
    · rw [if_pos h1, if_pos (by omega)]
    · rw [if_neg h1, if_neg (by omega)]
theorem apM_step (t : Tab) {d : Nat} (hd : 1 ≤ d) (x y : Nat) : apM t d x y = mkM t d (apM t (d - 1)) x y := by
  obtain ⟨e, rfl⟩ : ∃ e, d = e + 1 := ⟨d - 1, by omega⟩
  rfl
theorem mid_read (t : Tab) {d : Nat} (hd : 2 ≤ d) (a b x y : Nat) : mid t d a b x y = d - 1 ↔ apM t (d - 1) x y = d - 1 := by
  unfold mid
  split
  · rw [apM_step t (by omega)]
    unfold mkM
    by_cases h0 : apM t (d - 1) x y = 0
    · rw [if_pos h0]
      split <;> omega
    · rw [if_neg h0]
  · exact Iff.rfl
/-- A pair that is marked stays; one without a hit stays; one with a hit is marked. -/
theorem apM_marked (t : Tab) {d : Nat} (hd : 1 ≤ d) {a b : Nat} (h : apM t (d - 1) a b ≠ 0) : apM t d a b = apM t (d - 1) a b := by
  rw [apM_step t hd, mkM, if_neg h]
theorem apM_miss (t : Tab) {d : Nat} (hd : 1 ≤ d) {a b : Nat} (h : ∀ i, i < wd t → hitM t d (apM t (d - 1)) a b i = false) : apM t d a b = apM t (d - 1) a b := by
  rw [apM_step t hd, mkM]
  by_cases h0 : apM t (d - 1) a b = 0
  · rw [if_pos h0, if_neg, h0]
    simp only [Bool.not_eq_true]
    rw [List.any_eq_false]
    intro i hi
    simp [h i (List.mem_range.1 hi)]
  · rw [if_neg h0]
theorem apM_hit (t : Tab) {d : Nat} (hd : 1 ≤ d) {a b i : Nat} (h0 : apM t (d - 1) a b = 0) (hi : i < wd t) (h : hitM t d (apM t (d - 1)) a b i = true) : apM t d a b = d := by
  rw [apM_step t hd, mkM, if_pos h0, if_pos]
  exact List.any_eq_true.2 ⟨i, List.mem_range.2 hi, h⟩

/-- Something ahead of (a, b) was marked in this round. -/
def Chg (t : Tab) (d a b : Nat) : Prop := ∃ x y, x < t.n ∧ y < t.n ∧ (x < a ∨ (x = a ∧ y < b)) ∧ apM t d x y ≠ apM t (d - 1) x y

theorem chg_zero (t : Tab) (d : Nat) : ¬ Chg t d 0 0 := fun ⟨_, _, _, _, h, _⟩ => by omega
theorem chg_row (t : Tab) (d a : Nat) : Chg t d a t.n ↔ Chg t d (a + 1) 0 :=
  ⟨fun ⟨x, y, h1, h2, h3, h4⟩ => ⟨x, y, h1, h2, by omega, h4⟩, fun ⟨x, y, h1, h2, h3, h4⟩ => ⟨x, y, h1, h2, by omega, h4⟩⟩
theorem chg_same (t : Tab) (d a b : Nat) (h : apM t d a b = apM t (d - 1) a b) : Chg t d a (b + 1) ↔ Chg t d a b :=
  ⟨fun ⟨x, y, h1, h2, h3, h4⟩ => by
    by_cases hx : x = a ∧ y = b
    · obtain ⟨rfl, rfl⟩ := hx; exact absurd h h4
    · exact ⟨x, y, h1, h2, by omega, h4⟩, fun ⟨x, y, h1, h2, h3, h4⟩ => ⟨x, y, h1, h2, by omega, h4⟩⟩
theorem chg_new (t : Tab) {d a b : Nat} (ha : a < t.n) (hb : b < t.n) (h : apM t d a b ≠ apM t (d - 1) a b) : Chg t d a (b + 1) := ⟨a, b, ha, hb, by omega, h⟩

/-- A round that marks nothing: the rounds have come to their end. -/
theorem chg_none {t : Tab} (ok : Ok t) {d k : Nat} (hd : 1 ≤ d) (hs : Stops t k) (hk : d ≤ k + 1) (h : ¬ Chg t d t.n 0) : d = k + 1 := by
  refine Nat.le_antisymm hk (Nat.le_of_not_lt fun hlt => ?_)
  refine hs.2 (d - 1) (by omega) (stable ok fun i j hi hj hal => ?_)
  have hsame : apM t d i j = apM t (d - 1) i j := Classical.byContradiction fun hne => h ⟨i, j, hi, hj, by omega, hne⟩
  have h1 := (apM_spec ok (d - 1) i j hi hj).1.2 hal
  rw [show d - 1 + 1 = d by omega]
  exact (apM_spec ok d i j hi hj).1.1 (hsame.trans h1)
theorem chg_some {t : Tab} (ok : Ok t) {d k : Nat} (hd : 1 ≤ d) (hs : Stops t k) (hk : d ≤ k + 1) (h : Chg t d t.n 0) : d ≤ k := by
  refine Nat.le_of_not_lt fun hlt => ?_
  obtain rfl : d = k + 1 := by omega
  obtain ⟨x, y, hx, hy, _, hne⟩ := h
  refine hne ?_
  rw [Nat.add_sub_cancel] at hne ⊢
  by_cases h0 : apM t k x y = 0
  · have := al_all ok hs.1 hx hy ((apM_spec ok k x y hx hy).1.1 h0) (k + 1)
    rw [h0]
    exact (apM_spec ok (k + 1) x y hx hy).1.2 this
  · exact apM_marked t (d := k + 1) (by omega) h0
end Go.Proofs.YtoikggboakojlaaDoor

/-
  Pairs of states, marked round by round: the walk.
-/
namespace Go.Proofs.YtoikggboakojlaaDoor
set_option linter.unusedSimpArgs false
set_option linter.unusedVariables false
open Go.Av

def boxA (t : Tab) : Row := .box 26 [.d (dRows t.next), .d (dRows t.tells)]
def rowM (n : Nat) (f : Nat → Nat) : List (List D) := (List.range n).map fun y => [.v (.int .i64 (f y))]
def dMat (n : Nat) (m : Nat → Nat → Nat) : D := .sl none ((List.range n).map fun x => [.sl none (rowM n (m x))])
def cellsA (n c : Nat) : List AV := (List.range n).map fun i => if i < c then .own (i + 1000) 0 n else .d (.sl (some false) [])

theorem rowM_len (n : Nat) (f : Nat → Nat) : (rowM n f).length = n := by simp [rowM]
theorem rowM_get {n b : Nat} {f : Nat → Nat} (h : b < n) : (rowM n f)[b]? = some [.v (.int .i64 (f b))] := by simp [rowM, h]
theorem rowM_at {n b : Nat} {f : Nat → Nat} (h : b < (rowM n f).length) : (rowM n f)[b] = [.v (.int .i64 (f b))] := by simp [rowM]
theorem rowM_congr {n : Nat} {f g : Nat → Nat} (h : ∀ y, y < n → f y = g y) : rowM n f = rowM n g := by
  unfold rowM
  refine List.map_congr_left fun y hy => ?_
  rw [h y (List.mem_range.1 hy)]
theorem rowM_zero (n : Nat) : List.replicate n [D.v (.int .i64 0)] = rowM n fun _ => 0 := by
  unfold rowM
  refine List.ext_getElem (by simp) fun i h1 h2 => ?_
  simp
theorem rowM_set {n b v : Nat} {f : Nat → Nat} (h : b < n) : (rowM n f).set b [.v (.int .i64 v)] = rowM n fun y => if y = b then v else f y := by
  refine List.ext_getElem (by simp [rowM]) fun i h1 h2 => ?_
  rw [List.getElem_set]
  simp only [rowM, List.getElem_map, List.getElem_range]
  by_cases hi : b = i
  · subst hi; simp
  · rw [if_neg hi, if_neg (Ne.symm hi)]
theorem cellsA_len (n c : Nat) : (cellsA n c).length = n := by simp [cellsA]
theorem cellsA_zero (n : Nat) : List.replicate n (AV.d (.sl (some false) [])) = cellsA n 0 := by
  refine List.ext_getElem (by simp [cellsA]) fun i h1 h2 => ?_
  simp [cellsA]
theorem cellsA_all (n : Nat) : cellsA n n = (List.range n).map fun a => .own (a + 1000) 0 n := by
  unfold cellsA
  refine List.map_congr_left fun y hy => ?_
  rw [if_pos (List.mem_range.1 hy)]
theorem cellsA_kill {n c r : Nat} (hr : r < 1000) : (cellsA n c).map (AV.kill r) = cellsA n c := by
  unfold cellsA
  rw [List.map_map]
  refine List.map_congr_left fun y _ => ?_
  simp only [Function.comp]
  split
  · simp only [AV.kill]; rw [if_neg (by omega)]
  · rfl
theorem cellsA_get {n c x : Nat} (hx : x < n) (hc : x < c) : (cellsA n c)[x]? = some (.own (x + 1000) 0 n) := by simp [cellsA, hx, hc]
theorem cellsA_new {n c : Nat} (hc : c < n) : ((cellsA n c).take c ++ AV.own 26 0 n :: (cellsA n c).drop (c + 1)).map (AV.tr (renO 26 (c + 1000)) (renF 26 (c + 1000))) = cellsA n (c + 1) := by
  refine List.ext_getElem? fun i => ?_
  rw [List.getElem?_map, List.getElem?_append, List.length_take, cellsA_len, Nat.min_eq_left (by omega)]
  by_cases h1 : i < c
  · rw [if_pos h1, List.getElem?_take, if_pos h1, cellsA_get (by omega) h1, cellsA_get (by omega) (by omega)]
    simp [AV.tr, renO, ren]
  · rw [if_neg h1]
    by_cases h2 : i = c
    · subst h2
      rw [Nat.sub_self, cellsA_get hc (by omega)]
      simp [AV.tr, renO, ren]
    · obtain ⟨e, rfl⟩ : ∃ e, i = c + 1 + e := ⟨i - (c + 1), by omega⟩
      rw [show c + 1 + e - c = e + 1 by omega, List.getElem?_cons_succ, List.getElem?_drop]
      unfold cellsA
      simp only [List.getElem?_map, List.getElem?_range]
      by_cases h3 : c + 1 + e < n
      · simp [h3, AV.tr, show ¬ c + 1 + e < c by omega]
      · simp [h3]
theorem hup_snd {a b : Nat} {x y z : Row} (h : a ≠ b) : hup (hlst [(a, x), (b, y)]) b z = hlst [(a, x), (b, z)] := by
  funext q
  unfold hup
  by_cases hq : q = b
  · subst hq
    rw [if_pos rfl]
    have : (q == a) = false := by simpa using Ne.symm h
    simp [hlst, List.lookup, this]
  · rw [if_neg hq]
    have : (q == b) = false := by simpa using hq
    simp only [hlst, List.lookup, this]
theorem hmat_out {ty k : Nat} {M : Nat → List (List D)} {h : Heap} {x : Nat} (hx : ¬ x < k) : hmat ty k M h (x + 1000) = h (x + 1000) := by
  unfold hmat; rw [if_neg (by omega)]
theorem hmat_congr {ty k : Nat} {M M' : Nat → List (List D)} {h : Heap} (hM : ∀ i, i < k → M i = M' i) : hmat ty k M h = hmat ty k M' h := by
  funext q
  unfold hmat
  by_cases hr : 1000 ≤ q ∧ q < 1000 + k
  · rw [if_pos hr, if_pos hr, hM _ (by omega)]
  · rw [if_neg hr, if_neg hr]
theorem mid_same {t : Tab} {d a b : Nat} (h : apM t d a b = apM t (d - 1) a b) : mid t d a (b + 1) = mid t d a b := by
  funext x y
  rw [mid_step]
  split
  · rename_i e; obtain ⟨rfl, rfl⟩ := e; rw [mid_here, h]
  · rfl

theorem next_at {t : Tab} (ok : Ok t) {a i : Nat} (ha : a < t.next.length) (hi : i < wd t) (hia : i < t.next[a].length) : 0 ≤ t.next[a][i] ∧ t.next[a][i] < (t.next.length : Int) ∧ nx t a i = t.next[a][i].toNat := by
  have h := ok.there a ha
  rw [List.getD_eq_getElem?_getD, List.getElem?_eq_getElem ha] at h
  have h2 := h _ (List.getElem_mem hia)
  exact ⟨h2.1, h2.2, by simp [nx, List.getD_eq_getElem?_getD, ha, hia]⟩
theorem tells_at {t : Tab} (ok : Ok t) {a i : Nat} (ha : a < t.next.length) (hi : i < wd t) : ∃ (hta : a < t.tells.length) (hia : i < t.tells[a].length), te t a i = t.tells[a][i] := by
  have htl := ok.tells
  have hl := ok.tellsLen a ha
  have hta : a < t.tells.length := by rw [htl]; exact ha
  rw [List.getD_eq_getElem?_getD, List.getElem?_eq_getElem hta] at hl
  have hia : i < t.tells[a].length := by
    have : t.tells[a].length = wd t := hl
    omega
  exact ⟨hta, hia, by simp [te, List.getD_eq_getElem?_getD, hta, hia]⟩

theorem mid_write {t : Tab} {n d a b : Nat} (hb : b < n) (h : apM t d a b = d) : (fun x => if x = a then (rowM n (mid t d a b a)).set b [.v (.int .i64 d)] else rowM n (mid t d a b x)) = fun x => rowM n (mid t d a (b + 1) x) := by
  funext x
  by_cases hx : x = a
  · subst hx
    rw [if_pos rfl, rowM_set hb]
    refine rowM_congr fun y hy => ?_
    rw [mid_step]
    by_cases hy : y = b
    · subst hy; rw [if_pos rfl, if_pos ⟨rfl, rfl⟩, h]
    · rw [if_neg hy, if_neg (fun e => hy e.2)]
  · rw [if_neg hx]
    refine rowM_congr fun y hy => ?_
    rw [mid_step, if_neg (fun e => hx e.1)]


set_option maxHeartbeats 4000000 in
theorem apart_spec (G : Glob) (t : Tab) (ok : Ok t) (k : Nat) (hk : k < 2^20) (hs : Stops t k) : PureC Tryd.prog G 63 [dTab t] (dMat t.next.length (apM t k)) := by
  have hn500 : t.next.length ≤ 500 := ok.most
  have hpos : 1 ≤ t.next.length := ok.pos
  refine PureC.of_body (tyOf_good _) Tryd.func63 rfl rfl (rs := [.tmp 2]) Tryd.results63 (by simp [Tryd.ntmps63]) fun X => ?_
  simp only [Tryd.ntmps63, List.map]
  refine AW_rg (tyOf_good _) [1] [1] (fun _ _ => trivial) fun K' hK' => ?_
  repeat (refine sxf_next fun K2 hK2 => ?_; simp [dTab]; (repeat (refine ⟨by omega, ?_⟩)); refine hK2 _ ?_; clear hK2 K2)
  refine sxf_nil (hK' _ ?_)
  refine AW.st (by simp [dTab]; rfl) ?_
  clear hK' K'
  refine AW_rg (tyOf_good _) [1, 3] [1] (fun _ _ => trivial) fun K' hK' => ?_
  repeat (refine sxf_next fun K2 hK2 => ?_; simp [dRows]; (repeat (refine ⟨by omega, ?_⟩)); refine hK2 _ ?_; clear hK2 K2)
  refine sxf_nil (hK' _ ?_)
  refine AW.st (by simp [dRows]; rfl) ?_
  clear hK' K'
  refine AW_rg (tyOf_good _) [1, 3, 4] [1, 17] (fun _ _ => trivial) fun K' hK' => ?_
  repeat (refine sxf_next fun K2 hK2 => ?_; simp; (repeat (refine ⟨by omega, ?_⟩)); refine hK2 _ ?_; clear hK2 K2)
  refine sxf_nil (hK' _ ?_)
  refine AW.st (by simp; rfl) ?_
  clear hK' K'
  refine AW.imp (Imp.toBox 17 rfl (by intro h; have : t.next = [] := by simpa using congrArg List.length h
                                      rw [this] at hpos; simp at hpos)) ?_
  rw [hup_snd (by decide), List.map_replicate]
  refine AW.st (τ := ⟨lst [(1, .ref 1 0 0), (3, int t.next.length), (4, .own 17 0 t.next.length)], hmat 3 0 (fun _ => rowM t.next.length fun _ => 0) (hlst [(1, boxA t), (17, .box 32 (cellsA t.next.length 0))])⟩) (by rw [← hmat_zero, ← cellsA_zero]; rfl) ?_
  refine AW_then fun K1 hK1 => ?_
  refine AW_rgE (tyOf_good _) [1, 3, 4, 19, 20] fun K' hK' => ?_
  repeat (refine sxf_next fun K2 hK2 => ?_; simp [hmat_lo]; (repeat (refine ⟨by omega, ?_⟩)); refine hK2 _ ?_; clear hK2 K2)
  refine sxf_nil (hK' _ ?_)
  refine AW.st (by simp only [St.normE, liveL, lst, List.lookup]; rfl) ?_
  clear hK' K'
  refine AW_for (S := Nat) (fun c => c ≤ t.next.length) (fun c => ⟨lst [(1, .ref 1 0 0), (3, int t.next.length), (4, .own 17 0 t.next.length), (19, int t.next.length), (20, int c)],
    hmat 3 c (fun _ => rowM t.next.length fun _ => 0) (hlst [(1, boxA t), (17, .box 32 (cellsA t.next.length c))])⟩) (fun c => t.next.length - c) 0 ?_ (by omega) ?_
  · refine Imp.toE (by simp) ?_
    rfl
  · intro c hcn
    refine AW_rgE (tyOf_good _) [1, 3, 4, 19, 20, 21] fun K' hK' => ?_
    repeat (refine sxf_next fun K2 hK2 => ?_; simp; (repeat (refine ⟨by omega, ?_⟩)); refine hK2 _ ?_; clear hK2 K2)
    refine sxf_nil (hK' _ ?_)
    refine AW.st (by simp only [St.normE, liveL, lst, List.lookup]; rfl) ?_
    clear hK' K'
    refine AW_then fun K2 hK2 => ?_
    refine AW_cond' (b := c < t.next.length) (by simp [D.le, D.le.go, takeMap]) (fun hc => ?_) (fun hc => ?_)
    · refine AW_skip (hK2 _ ?_)
      refine AW_then fun K3 hK3 => ?_
      refine AW_block ?_
      refine AW_rgE (tyOf_good _) [1, 3, 4, 5, 19, 20] fun K' hK' => ?_
      repeat (refine sxf_next fun K2 hK2 => ?_; simp; (repeat (refine ⟨by omega, ?_⟩)); refine hK2 _ ?_; clear hK2 K2)
      refine sxf_nil (hK' _ ?_)
      refine AW.st (by simp only [St.normE, liveL, lst, List.lookup]; rfl) ?_
      clear hK' K'
      refine AW_re (tyOf_good _) fun K' hK' => ?_
      repeat (refine sxf_next fun K2 hK2 => ?_; simp [hmat_lo, hup_hmat_lo, killH_hmat, cellsA_len, cellsA_kill, boxA, hc]; (repeat (refine ⟨by omega, ?_⟩)); refine hK2 _ ?_; clear hK2 K2)
      refine sxf_nil (hK' _ ?_)
      clear hK' K'
      refine hK3 _ (AW.normE [1, 3, 4, 19, 20] (AW.st (by simp only [St.normE, liveL, lst, List.lookup]; rfl) ?_))
      refine AW_re (tyOf_good _) fun K' hK' => ?_
      repeat (refine sxf_next fun K2 hK2 => ?_; simp [hmat_lo]; (repeat (refine ⟨by omega, ?_⟩)); refine hK2 _ ?_; clear hK2 K2)
      refine sxf_nil (hK' _ ?_)
      clear hK' K'
      try simp only [thn, inb]
      refine Again.mk (c + 1) (by omega) (by omega) ?_
      refine (Imp.ren trivial (r := 26) (r' := c + 1000) (by dsimp only; rw [hmat_out (by omega)]; simp [hlst, List.lookup])).trans ?_
      refine Imp.toE (by simp [trE_lst, lst, List.lookup, AV.tr, renO, renF, ren, int]) ?_
      dsimp only
      refine ren_hmat (k := c) (r := 26) (by omega) (fun _ _ => rfl) (by rw [← rowM_zero]; rfl) (fun q h1 h2 => ?_) rfl
      by_cases hq17 : q = 17
      · subst hq17
        exact congrArg (fun x => some (Row.box 32 x)) (cellsA_new hc)
      · by_cases hq1 : q = 1
        · subst hq1; rfl
        · have e17 : (q == 17) = false := by simpa using hq17
          have e1 : (q == 1) = false := by simpa using hq1
          have e26 : (q == 26) = false := by simpa using h1
          simp only [hlst, List.lookup, e17, e1, e26, Option.map_none]
    · obtain rfl : c = t.next.length := by omega
      refine AW_exit (hK1 _ ?_)
      refine AW_rgE (tyOf_good _) [1, 3, 4, 6] fun K' hK' => ?_
      repeat (refine sxf_next fun K2 hK2 => ?_; simp; (repeat (refine ⟨by omega, ?_⟩)); refine hK2 _ ?_; clear hK2 K2)
      refine sxf_nil (hK' _ ?_)
      refine AW.st (by simp only [St.normE, liveL, lst, List.lookup]; rfl) ?_
      clear hK' K'
      have hcell : cellsA t.next.length t.next.length = (List.range t.next.length).map fun a => .own (a + 1000) 0 t.next.length := cellsA_all _
      generalize hcA : cellsA t.next.length t.next.length = cA at hcell
      have hget : ∀ x, x < t.next.length → cA[x]? = some (.own (x + 1000) 0 t.next.length) := fun x hx => by rw [← hcA]; exact cellsA_get hx hx
      have hgetA : ∀ x (hx : x < cA.length), cA[x] = .own (x + 1000) 0 t.next.length := fun x hx => by
        have : x < t.next.length := by rw [← hcA, cellsA_len] at hx; exact hx
        exact Option.some.inj ((List.getElem?_eq_getElem hx).symm.trans (hget x this))
      have hlenA : cA.length = t.next.length := by rw [← hcA]; exact cellsA_len _ _
      refine AW_for (S := Nat) (fun d => 1 ≤ d ∧ d ≤ k + 1) (fun d => ⟨lst [(1, .ref 1 0 0), (3, int t.next.length), (4, .own 17 0 t.next.length), (6, int d)],
        hmat 3 t.next.length (fun x => rowM t.next.length (apM t (d - 1) x)) (hlst [(1, boxA t), (17, .box 32 cA)])⟩) (fun d => k + 2 - d) 1 ?_ (by omega) ?_
      · refine Imp.toE (by simp) ?_
        rfl
      · rintro d ⟨hd1, hdk⟩
        refine AW_then fun K4 hK4 => ?_
        refine AW_block ?_
        refine AW_rgE (tyOf_good _) [1, 3, 4, 6, 7] fun K' hK' => ?_
        repeat (refine sxf_next fun K2 hK2 => ?_; simp; (repeat (refine ⟨by omega, ?_⟩)); refine hK2 _ ?_; clear hK2 K2)
        refine sxf_nil (hK' _ ?_)
        refine AW.st (by simp only [St.normE, liveL, lst, List.lookup]; rfl) ?_
        clear hK' K'
        refine AW_then fun K5 hK5 => ?_
        refine AW_rgE (tyOf_good _) [1, 3, 4, 6, 7, 31, 32] fun K' hK' => ?_
        repeat (refine sxf_next fun K2 hK2 => ?_; simp; (repeat (refine ⟨by omega, ?_⟩)); refine hK2 _ ?_; clear hK2 K2)
        refine sxf_nil (hK' _ ?_)
        refine AW.st (by simp only [St.normE, liveL, lst, List.lookup]; rfl) ?_
        clear hK' K'
        refine AW_for (S := Nat × Bool) (fun s => s.1 ≤ t.next.length ∧ (s.2 = true ↔ Chg t d s.1 0)) (fun s => ⟨lst [(1, .ref 1 0 0), (3, int t.next.length), (4, .own 17 0 t.next.length), (6, int d), (7, Av.bool s.2), (31, int t.next.length), (32, int s.1)],
          hmat 3 t.next.length (fun x => rowM t.next.length (mid t d s.1 0 x)) (hlst [(1, boxA t), (17, .box 32 cA)])⟩) (fun s => t.next.length - s.1) (0, false) ?_ ⟨by simp, by simp [chg_zero]⟩ ?_
        · refine Imp.toE (by simp) ?_
          simp only [mid_zero]
        · rintro ⟨a, mb⟩ ⟨han, hmb⟩
          dsimp only at han hmb ⊢
          refine AW_rgE (tyOf_good _) [1, 3, 4, 6, 7, 31, 32, 33] fun K' hK' => ?_
          repeat (refine sxf_next fun K2 hK2 => ?_; simp; (repeat (refine ⟨by omega, ?_⟩)); refine hK2 _ ?_; clear hK2 K2)
          refine sxf_nil (hK' _ ?_)
          refine AW.st (by simp only [St.normE, liveL, lst, List.lookup]; rfl) ?_
          clear hK' K'
          refine AW_then fun K6 hK6 => ?_
          refine AW_cond' (b := a < t.next.length) (by simp [D.le, D.le.go, takeMap]) (fun hc => ?_) (fun hc => ?_)
          · have ha : a < t.next.length := hc
            refine AW_skip (hK6 _ ?_)
            refine AW_then fun K7 hK7 => ?_
            refine AW_block ?_
            refine AW_rgE (tyOf_good _) [1, 3, 4, 6, 7, 8, 31, 32] fun K' hK' => ?_
            repeat (refine sxf_next fun K2 hK2 => ?_; simp; (repeat (refine ⟨by omega, ?_⟩)); refine hK2 _ ?_; clear hK2 K2)
            refine sxf_nil (hK' _ ?_)
            refine AW.st (by simp only [St.normE, liveL, lst, List.lookup]; rfl) ?_
            clear hK' K'
            refine AW_rgE (tyOf_good _) [1, 3, 4, 6, 7, 8, 31, 32, 35, 36] fun K' hK' => ?_
            repeat (refine sxf_next fun K2 hK2 => ?_; simp; (repeat (refine ⟨by omega, ?_⟩)); refine hK2 _ ?_; clear hK2 K2)
            refine sxf_nil (hK' _ ?_)
            refine AW.st (by simp only [St.normE, liveL, lst, List.lookup]; rfl) ?_
            clear hK' K'
            refine AW_for (S := Nat × Bool) (fun s => s.1 ≤ t.next.length ∧ (s.2 = true ↔ Chg t d a s.1)) (fun s => ⟨lst [(1, .ref 1 0 0), (3, int t.next.length), (4, .own 17 0 t.next.length), (6, int d), (7, Av.bool s.2), (8, int a), (31, int t.next.length), (32, int a), (35, int t.next.length), (36, int s.1)],
              hmat 3 t.next.length (fun x => rowM t.next.length (mid t d a s.1 x)) (hlst [(1, boxA t), (17, .box 32 cA)])⟩) (fun s => t.next.length - s.1) (0, mb) ?_ ⟨by simp, hmb⟩ ?_
            · refine Imp.toE (by simp) ?_
              rfl
            · rintro ⟨b, mc⟩ ⟨hbn, hmc⟩
              dsimp only at hbn hmc ⊢
              refine AW_rgE (tyOf_good _) [1, 3, 4, 6, 7, 8, 31, 32, 35, 36, 37] fun K' hK' => ?_
              repeat (refine sxf_next fun K2 hK2 => ?_; simp; (repeat (refine ⟨by omega, ?_⟩)); refine hK2 _ ?_; clear hK2 K2)
              refine sxf_nil (hK' _ ?_)
              refine AW.st (by simp only [St.normE, liveL, lst, List.lookup]; rfl) ?_
              clear hK' K'
              refine AW_then fun K8 hK8 => ?_
              refine AW_cond' (b := b < t.next.length) (by simp [D.le, D.le.go, takeMap]) (fun hc => ?_) (fun hc => ?_)
              · have hb : b < t.next.length := hc
                refine AW_skip (hK8 _ ?_)
                refine AW_then fun K9 hK9 => ?_
                refine AW_block ?_
                refine AW_rgE (tyOf_good _) [1, 3, 4, 6, 7, 8, 9, 31, 32, 35, 36] fun K' hK' => ?_
                repeat (refine sxf_next fun K2 hK2 => ?_; simp; (repeat (refine ⟨by omega, ?_⟩)); refine hK2 _ ?_; clear hK2 K2)
                refine sxf_nil (hK' _ ?_)
                refine AW.st (by simp only [St.normE, liveL, lst, List.lookup]; rfl) ?_
                clear hK' K'
                refine AW_then fun K10 hK10 => ?_
                refine AW_rgE (tyOf_good _) [1, 3, 4, 6, 7, 8, 9, 31, 32, 35, 36, 46] fun K' hK' => ?_
                repeat (refine sxf_next fun K2 hK2 => ?_; simp [hmat_lo, hmat_hi, hup_hmat_lo, hup_hmat_hi, hget, hgetA, hlenA, rowM_len, rowM_get, rowM_at, ha, hb, mid_here]; (repeat (refine ⟨by omega, ?_⟩)); refine hK2 _ ?_; clear hK2 K2)
                refine sxf_nil (hK' _ ?_)
                refine AW.st (by simp only [St.normE, liveL, lst, List.lookup]; rfl) ?_
                clear hK' K'
                refine AW_cond' (b := 0 < apM t (d - 1) a b) (by simp [D.le, D.le.go, takeMap]) (fun hc => ?_) (fun hc => ?_)
                · have hsame := apM_marked t hd1 (a := a) (b := b) (by omega)
                  refine AW_exit (hK9 _ ?_)
                  refine AW_re (tyOf_good _) fun K' hK' => ?_
                  repeat (refine sxf_next fun K2 hK2 => ?_; simp; (repeat (refine ⟨by omega, ?_⟩)); refine hK2 _ ?_; clear hK2 K2)
                  refine sxf_nil (hK' _ ?_)
                  clear hK' K'
                  try simp only [thn, inb]
                  refine Again.mk (b + 1, mc) ⟨hb, by show mc = true ↔ Chg t d a (b + 1); rw [chg_same _ _ _ _ hsame]; exact hmc⟩ (by dsimp only; omega) ?_
                  refine Imp.toE (by simp) ?_
                  rw [mid_same hsame]
                · have h0 : apM t (d - 1) a b = 0 := by omega
                  refine AW_skip (hK10 _ ?_)
                  have hwa : t.next[a].length = wd t := by have h1 := ok.nextLen a ha; rw [List.getD_eq_getElem?_getD, List.getElem?_eq_getElem ha] at h1; exact h1
                  have hwb : t.next[b].length = wd t := by have h1 := ok.nextLen b hb; rw [List.getD_eq_getElem?_getD, List.getElem?_eq_getElem hb] at h1; exact h1
                  have hw64 : wd t ≤ 64 := ok.ins
                  refine AW_rgE (tyOf_good _) [1, 3, 4, 6, 7, 8, 9, 31, 32, 35, 36, 52, 53] fun K' hK' => ?_
                  repeat (refine sxf_next fun K2 hK2 => ?_; simp [hmat_lo, boxA, dRows, dRow, dInts, ha, hwa]; (repeat (refine ⟨by omega, ?_⟩)); refine hK2 _ ?_; clear hK2 K2)
                  refine sxf_nil (hK' _ ?_)
                  refine AW.st (by simp only [St.normE, liveL, lst, List.lookup]; rfl) ?_
                  clear hK' K'
                  refine AW_for (S := Nat) (fun i => i ≤ wd t ∧ ∀ j, j < i → hitM t d (apM t (d - 1)) a b j = false) (fun i => ⟨lst [(1, .ref 1 0 0), (3, int t.next.length), (4, .own 17 0 t.next.length), (6, int d), (7, Av.bool mc), (8, int a), (9, int b), (31, int t.next.length), (32, int a), (35, int t.next.length), (36, int b), (52, int (wd t)), (53, int i)],
                    hmat 3 t.next.length (fun x => rowM t.next.length (mid t d a b x)) (hlst [(1, boxA t), (17, .box 32 cA)])⟩) (fun i => wd t - i) 0 ?_ (by simp) ?_
                  · refine Imp.toE (by simp) ?_
                    rfl
                  · rintro i ⟨hi, hmiss⟩
                    refine AW_rgE (tyOf_good _) [1, 3, 4, 6, 7, 8, 9, 31, 32, 35, 36, 52, 53, 54] fun K' hK' => ?_
                    repeat (refine sxf_next fun K2 hK2 => ?_; simp; (repeat (refine ⟨by omega, ?_⟩)); refine hK2 _ ?_; clear hK2 K2)
                    refine sxf_nil (hK' _ ?_)
                    refine AW.st (by simp only [St.normE, liveL, lst, List.lookup]; rfl) ?_
                    clear hK' K'
                    refine AW_then fun K11 hK11 => ?_
                    refine AW_cond' (b := i < wd t) (by simp [D.le, D.le.go, takeMap]) (fun hc => ?_) (fun hc => ?_)
                    · have hiw : i < wd t := hc
                      refine AW_skip (hK11 _ ?_)
                      refine AW_then fun K12 hK12 => ?_
                      refine AW_block ?_
                      refine AW_rgE (tyOf_good _) [1, 3, 4, 6, 7, 8, 9, 10, 31, 32, 35, 36, 52, 53] fun K' hK' => ?_
                      repeat (refine sxf_next fun K2 hK2 => ?_; simp; (repeat (refine ⟨by omega, ?_⟩)); refine hK2 _ ?_; clear hK2 K2)
                      refine sxf_nil (hK' _ ?_)
                      refine AW.st (by simp only [St.normE, liveL, lst, List.lookup]; rfl) ?_
                      clear hK' K'
                      have hia : i < t.next[a].length := by omega
                      have hib : i < t.next[b].length := by omega
                      refine AW_rdE (tyOf_good _) (by kernel_rfl) [1, 3, 4, 6, 7, 8, 9, 10, 11, 12, 31, 32, 35, 36, 52, 53] (by kernel_rfl) fun K' hK' => ?_
                      repeat (refine sxd_next fun K2 hK2 => ?_; simp [hmat_lo, boxA, dRows, dRow, dInts, ha, hb, hia, hib]; (repeat (refine ⟨by omega, ?_⟩)); refine hK2 _ ?_; clear hK2 K2)
                      refine sxd_nil (hK' _ ?_)
                      refine AW.st (by simp only [St.normE, liveL, lst, List.lookup]; rfl) ?_
                      clear hK' K'
                      have hxp := next_at ok ha hiw hia
                      have hyp := next_at ok hb hiw hib
                      have hx0 := hxp.1
                      have hx2 := hxp.2.1
                      have hnxa := hxp.2.2
                      have hy0 := hyp.1
                      have hy2 := hyp.2.1
                      have hnxb := hyp.2.2
                      have hta := (tells_at ok ha hiw).choose
                      have htb := (tells_at ok hb hiw).choose
                      have hia2 := (tells_at ok ha hiw).choose_spec.choose
                      have hib2 := (tells_at ok hb hiw).choose_spec.choose
                      have htea : te t a i = t.tells[a][i] := (tells_at ok ha hiw).choose_spec.choose_spec
                      have hteb : te t b i = t.tells[b][i] := (tells_at ok hb hiw).choose_spec.choose_spec
                      have hxn : t.next[a][i].toNat < t.next.length := by omega
                      have hyn : t.next[b][i].toNat < t.next.length := by omega
                      by_cases hd : d = 1
                      · subst hd
                        by_cases ht : t.tells[a][i] = t.tells[b][i]
                        · refine AW_rdE (tyOf_good _) (by kernel_rfl) [1, 3, 4, 6, 7, 8, 9, 31, 32, 35, 36, 52, 53, 108] (by kernel_rfl) fun K' hK' => ?_
                          repeat (refine sxd_next fun K2 hK2 => ?_; simp [ht, dRows, dRow, dInts, boxA, hmat_lo, hta, htb, hia2, hib2]; (repeat (refine ⟨by omega, ?_⟩)); refine hK2 _ ?_; clear hK2 K2)
                          refine sxd_nil (hK' _ ?_)
                          refine AW.st (by simp only [St.normE, liveL, lst, List.lookup]; rfl) ?_
                          clear hK' K'
                          refine AW_cond false rfl (fun h => by cases h) (fun _ => ?_)
                          refine AW_skip (hK12 _ ?_)
                          refine AW_re (tyOf_good _) fun K' hK' => ?_
                          repeat (refine sxf_next fun K2 hK2 => ?_; simp; (repeat (refine ⟨by omega, ?_⟩)); refine hK2 _ ?_; clear hK2 K2)
                          refine sxf_nil (hK' _ ?_)
                          clear hK' K'
                          try simp only [thn, inb]
                          refine Again.mk (i + 1) ⟨by omega, fun j hj => ?_⟩ (by omega) ?_
                          · rcases Nat.lt_or_ge j i with h | h
                            · exact hmiss j h
                            · rw [show j = i by omega]; exact by simp [hitM, htea, hteb, ht]
                          refine Imp.toE (by simp) ?_
                          rfl
                        · refine AW_rdE (tyOf_good _) (by kernel_rfl) [1, 3, 4, 6, 7, 8, 9, 31, 32, 35, 36, 52, 53, 108] (by kernel_rfl) fun K' hK' => ?_
                          repeat (refine sxd_next fun K2 hK2 => ?_; simp [ht, dRows, dRow, dInts, boxA, hmat_lo, hta, htb, hia2, hib2]; (repeat (refine ⟨by omega, ?_⟩)); refine hK2 _ ?_; clear hK2 K2)
                          refine sxd_nil (hK' _ ?_)
                          refine AW.st (by simp only [St.normE, liveL, lst, List.lookup]; rfl) ?_
                          clear hK' K'
                          refine AW_cond true rfl (fun _ => ?_) (fun h => by cases h)
                          refine AW_rgE (tyOf_good _) [1, 3, 4, 6, 8, 31, 32, 35, 36] fun K' hK' => ?_
                          repeat (refine sxf_next fun K2 hK2 => ?_; simp [hmat_lo, hmat_hi, hup_hmat_lo, hup_hmat_hi, hget, hgetA, hlenA, rowM_len, rowM_get, rowM_at, ha, hb]; (repeat (refine ⟨by omega, ?_⟩)); refine hK2 _ ?_; clear hK2 K2)
                          refine sxf_nil (hK' _ ?_)
                          refine AW.st (by simp only [St.normE, liveL, lst, List.lookup]; rfl) ?_
                          clear hK' K'
                          refine AW_rgE (tyOf_good _) [1, 3, 4, 6, 7, 8, 31, 32, 35, 36] fun K' hK' => ?_
                          repeat (refine sxf_next fun K2 hK2 => ?_; simp; (repeat (refine ⟨by omega, ?_⟩)); refine hK2 _ ?_; clear hK2 K2)
                          refine sxf_nil (hK' _ ?_)
                          refine AW.st (by simp only [St.normE, liveL, lst, List.lookup]; rfl) ?_
                          clear hK' K'
                          refine AW_exit (hK9 _ ?_)
                          refine AW_re (tyOf_good _) fun K' hK' => ?_
                          repeat (refine sxf_next fun K2 hK2 => ?_; simp; (repeat (refine ⟨by omega, ?_⟩)); refine hK2 _ ?_; clear hK2 K2)
                          refine sxf_nil (hK' _ ?_)
                          clear hK' K'
                          try simp only [thn, inb]
                          have hnew : apM t 1 a b = 1 := apM_hit t hd1 h0 hiw (by simp [hitM, htea, hteb, ht])
                          refine Again.mk (b + 1, true) ⟨hb, iff_of_true rfl (chg_new t ha hb (by omega))⟩ (by dsimp only; omega) ?_
                          refine Imp.toE (by simp) ?_
                          exact congrArg (fun M => hmat 3 t.next.length M (hlst [(1, boxA t), (17, .box 32 cA)])) (mid_write hb hnew)
                      · have hd2 : (1 : Int) < (d : Int) := by omega
                        have hdi : ¬ (d : Int) = 1 := by omega
                        have hrd := mid_read t (d := d) (by omega) a b t.next[a][i].toNat t.next[b][i].toNat
                        by_cases hr : mid t d a b t.next[a][i].toNat t.next[b][i].toNat = d - 1
                        · have hri : ((mid t d a b t.next[a][i].toNat t.next[b][i].toNat : Nat) : Int) = (d : Int) - 1 := by omega
                          refine AW_rdE (tyOf_good _) (by kernel_rfl) [1, 3, 4, 6, 7, 8, 9, 31, 32, 35, 36, 52, 53, 108] (by kernel_rfl) fun K' hK' => ?_
                          repeat (refine sxd_next fun K2 hK2 => ?_; simp [hri, hd, hd2, hdi, hx0, hx2, hy0, hy2, hxn, hyn, hmat_lo, hmat_hi, hup_hmat_lo, hup_hmat_hi, hget, hgetA, hlenA, rowM_len, rowM_get, rowM_at, ha, hb]; (repeat (refine ⟨by omega, ?_⟩)); refine hK2 _ ?_; clear hK2 K2)
                          refine sxd_nil (hK' _ ?_)
                          refine AW.st (by simp only [St.normE, liveL, lst, List.lookup]; rfl) ?_
                          clear hK' K'
                          refine AW_cond true rfl (fun _ => ?_) (fun h => by cases h)
                          refine AW_rgE (tyOf_good _) [1, 3, 4, 6, 8, 31, 32, 35, 36] fun K' hK' => ?_
                          repeat (refine sxf_next fun K2 hK2 => ?_; simp [hmat_lo, hmat_hi, hup_hmat_lo, hup_hmat_hi, hget, hgetA, hlenA, rowM_len, rowM_get, rowM_at, ha, hb]; (repeat (refine ⟨by omega, ?_⟩)); refine hK2 _ ?_; clear hK2 K2)
                          refine sxf_nil (hK' _ ?_)
                          refine AW.st (by simp only [St.normE, liveL, lst, List.lookup]; rfl) ?_
                          clear hK' K'
                          refine AW_rgE (tyOf_good _) [1, 3, 4, 6, 7, 8, 31, 32, 35, 36] fun K' hK' => ?_
                          repeat (refine sxf_next fun K2 hK2 => ?_; simp; (repeat (refine ⟨by omega, ?_⟩)); refine hK2 _ ?_; clear hK2 K2)
                          refine sxf_nil (hK' _ ?_)
                          refine AW.st (by simp only [St.normE, liveL, lst, List.lookup]; rfl) ?_
                          clear hK' K'
                          refine AW_exit (hK9 _ ?_)
                          refine AW_re (tyOf_good _) fun K' hK' => ?_
                          repeat (refine sxf_next fun K2 hK2 => ?_; simp; (repeat (refine ⟨by omega, ?_⟩)); refine hK2 _ ?_; clear hK2 K2)
                          refine sxf_nil (hK' _ ?_)
                          clear hK' K'
                          try simp only [thn, inb]
                          have hnew : apM t d a b = d := apM_hit t hd1 h0 hiw (by simp [hitM, hd, hnxa, hnxb, hrd.1 hr])
                          refine Again.mk (b + 1, true) ⟨hb, iff_of_true rfl (chg_new t ha hb (by omega))⟩ (by dsimp only; omega) ?_
                          refine Imp.toE (by simp) ?_
                          exact congrArg (fun M => hmat 3 t.next.length M (hlst [(1, boxA t), (17, .box 32 cA)])) (mid_write hb hnew)
                        · have hri : ¬ ((mid t d a b t.next[a][i].toNat t.next[b][i].toNat : Nat) : Int) = (d : Int) - 1 := by omega
                          refine AW_rdE (tyOf_good _) (by kernel_rfl) [1, 3, 4, 6, 7, 8, 9, 31, 32, 35, 36, 52, 53, 108] (by kernel_rfl) fun K' hK' => ?_
                          repeat (refine sxd_next fun K2 hK2 => ?_; simp [hri, hd, hd2, hdi, hx0, hx2, hy0, hy2, hxn, hyn, hmat_lo, hmat_hi, hup_hmat_lo, hup_hmat_hi, hget, hgetA, hlenA, rowM_len, rowM_get, rowM_at, ha, hb]; (repeat (refine ⟨by omega, ?_⟩)); refine hK2 _ ?_; clear hK2 K2)
                          refine sxd_nil (hK' _ ?_)
                          refine AW.st (by simp only [St.normE, liveL, lst, List.lookup]; rfl) ?_
                          clear hK' K'
                          refine AW_cond false rfl (fun h => by cases h) (fun _ => ?_)
                          refine AW_skip (hK12 _ ?_)
                          refine AW_re (tyOf_good _) fun K' hK' => ?_
                          repeat (refine sxf_next fun K2 hK2 => ?_; simp; (repeat (refine ⟨by omega, ?_⟩)); refine hK2 _ ?_; clear hK2 K2)
                          refine sxf_nil (hK' _ ?_)
                          clear hK' K'
                          try simp only [thn, inb]
                          refine Again.mk (i + 1) ⟨by omega, fun j hj => ?_⟩ (by omega) ?_
                          · rcases Nat.lt_or_ge j i with h | h
                            · exact hmiss j h
                            · rw [show j = i by omega]; exact by simp [hitM, hd, hnxa, hnxb]; exact fun h => hr (hrd.2 h)
                          refine Imp.toE (by simp) ?_
                          rfl
                    · obtain rfl : i = wd t := by omega
                      have hsame := apM_miss t hd1 hmiss
                      refine AW_exit (hK9 _ ?_)
                      refine AW_re (tyOf_good _) fun K' hK' => ?_
                      repeat (refine sxf_next fun K2 hK2 => ?_; simp; (repeat (refine ⟨by omega, ?_⟩)); refine hK2 _ ?_; clear hK2 K2)
                      refine sxf_nil (hK' _ ?_)
                      clear hK' K'
                      try simp only [thn, inb]
                      refine Again.mk (b + 1, mc) ⟨hb, by show mc = true ↔ Chg t d a (b + 1); rw [chg_same _ _ _ _ hsame]; exact hmc⟩ (by dsimp only; omega) ?_
                      refine Imp.toE (by simp) ?_
                      rw [mid_same hsame]
              · obtain rfl : b = t.next.length := by omega
                refine AW_exit (hK7 _ ?_)
                refine AW_re (tyOf_good _) fun K' hK' => ?_
                repeat (refine sxf_next fun K2 hK2 => ?_; simp; (repeat (refine ⟨by omega, ?_⟩)); refine hK2 _ ?_; clear hK2 K2)
                refine sxf_nil (hK' _ ?_)
                clear hK' K'
                try simp only [thn, inb]
                refine Again.mk (a + 1, mc) ⟨ha, by show mc = true ↔ Chg t d (a + 1) 0; rw [← chg_row]; exact hmc⟩ (by dsimp only; omega) ?_
                refine Imp.toE (by simp) ?_
                exact hmat_congr fun x _ => rowM_congr fun y hy => mid_row t d a _ hy
          · obtain rfl : a = t.next.length := by omega
            refine AW_exit (hK5 _ ?_)
            cases mb with
            | false =>
              refine AW_rgE (tyOf_good _) [1, 3, 4, 6, 120] fun K' hK' => ?_
              repeat (refine sxf_next fun K2 hK2 => ?_; simp; (repeat (refine ⟨by omega, ?_⟩)); refine hK2 _ ?_; clear hK2 K2)
              refine sxf_nil (hK' _ ?_)
              refine AW.st (by simp only [St.normE, liveL, lst, List.lookup]; rfl) ?_
              clear hK' K'
              refine AW_cond true rfl (fun _ => ?_) (fun h => by cases h)
              have hch : ¬ Chg t d t.n 0 := fun h => by simpa using hmb.2 h
              have hdk' : d = k + 1 := chg_none ok hd1 hs hdk hch
              have hE : ∀ hl : Heap, hmat 3 t.next.length (fun x => rowM t.next.length (mid t d t.next.length 0 x)) hl = hmat 3 t.next.length (fun x => rowM t.next.length (apM t k x)) hl := fun hl => hmat_congr fun x hx => rowM_congr fun y hy => by
                rw [mid_end t d _ hx]
                have : apM t d x y = apM t (d - 1) x y := Classical.byContradiction fun hne => hch ⟨x, y, hx, hy, .inl hx, hne⟩
                rw [this, hdk', Nat.add_sub_cancel]
              rw [hE]
              refine AW.imp (Imp.freezeM (tyO := 32) (fun _ => trivial) 4 rfl (by decide) (by simp [hlst, List.lookup, hcell]) (fun x _ => rowM_len _ _)) ?_
              refine AW_rg (tyOf_good _) [2] [] (fun _ _ => trivial) fun K' hK' => ?_
              repeat (refine sxf_next fun K2 hK2 => ?_; simp; (repeat (refine ⟨by omega, ?_⟩)); refine hK2 _ ?_; clear hK2 K2)
              refine sxf_nil (hK' _ ?_)
              refine AW.st (by simp; rfl) ?_
              clear hK' K'
              refine AW_ret ?_
              simp [D.le, D.le.go, takeMap, dMat]
            | true =>
              refine AW_rgE (tyOf_good _) [1, 3, 4, 6, 120] fun K' hK' => ?_
              repeat (refine sxf_next fun K2 hK2 => ?_; simp; (repeat (refine ⟨by omega, ?_⟩)); refine hK2 _ ?_; clear hK2 K2)
              refine sxf_nil (hK' _ ?_)
              refine AW.st (by simp only [St.normE, liveL, lst, List.lookup]; rfl) ?_
              clear hK' K'
              refine AW_cond false rfl (fun h => by cases h) (fun _ => ?_)
              refine AW_skip (hK4 _ ?_)
              refine AW_re (tyOf_good _) fun K' hK' => ?_
              repeat (refine sxf_next fun K2 hK2 => ?_; simp; (repeat (refine ⟨by omega, ?_⟩)); refine hK2 _ ?_; clear hK2 K2)
              refine sxf_nil (hK' _ ?_)
              clear hK' K'
              try simp only [thn, inb]
              refine Again.mk (d + 1) ⟨by omega, by have := chg_some ok hd1 hs hdk (hmb.1 rfl); omega⟩ (by omega) ?_
              refine Imp.toE (by simp) ?_
              exact hmat_congr fun x hx => rowM_congr fun y hy => mid_end t d _ hx y
#print axioms apart_spec
end Go.Proofs.YtoikggboakojlaaDoor

/-
  The table of blocks.
-/
namespace Go.Proofs.YtoikggboakojlaaDoor
set_option linter.unusedSimpArgs false
set_option linter.unusedVariables false
open Go.Av

theorem leastSt_len (t : Tab) (l : List Int) : ∀ n, (leastSt t l n).1.length ≤ n ∧ (leastSt t l n).2.length = (leastSt t l n).1.length
  | 0 => by simp [leastSt]
  | n + 1 => by
    have ih := leastSt_len t l n
    rw [leastSt_succ]
    unfold leastStep
    split
    · omega
    · simp; omega

set_option maxHeartbeats 1000000 in
theorem least_bad (G : Glob) (t : Tab) (e : Int × Option Nat) (h : checkF t = some e) : PureC Tryd.prog G 18 [dTab t] (.tup [dTab ⟨[], []⟩, dErr (some e)]) := by
  refine PureC.of_body (tyOf_good _) Tryd.func18 rfl rfl (rs := [.cell 2 25, .tmp 3]) Tryd.results18 (by simp [Tryd.ntmps18]) fun X => ?_
  simp only [Tryd.ntmps18, List.map]
  refine AW_rg (tyOf_good _) [1, 2] [1, 2] (fun _ _ => trivial) fun K' hK' => ?_
  repeat (refine sxf_next fun K2 hK2 => ?_; simp [dTab]; (repeat (refine ⟨by omega, ?_⟩)); refine hK2 _ ?_; clear hK2 K2)
  refine sxf_nil (hK' _ ?_)
  refine AW.st (by simp [dTab]; rfl) ?_
  clear hK' K'
  refine AW_rg (tyOf_good _) [1, 2, 4, 5] [1, 2] (fun _ _ => trivial) fun K' hK' => ?_
  repeat (refine sxf_next fun K2 hK2 => ?_; simp; (repeat (refine ⟨by omega, ?_⟩)); refine hK2 _ ?_; clear hK2 K2)
  refine sxf_next fun K2 hK2 => ?_
  simp
  refine callK.data (blocks_bad G t e h) (by simp; rfl) (by first | exact D.leGo_refl _ | simp [takeMap, List.map_map, Function.comp_def, D.le, D.le.go, D.le_refl, D.leGo_refl]) ?_
  refine hK2 _ ?_
  clear hK2 K2
  simp only [putd, upd_lst]
  repeat (refine sxf_next fun K2 hK2 => ?_; simp; (repeat (refine ⟨by omega, ?_⟩)); refine hK2 _ ?_; clear hK2 K2)
  refine sxf_nil (hK' _ ?_)
  refine AW.st (by simp; rfl) ?_
  clear hK' K'
  refine AW_then fun K1 hK1 => ?_
  obtain ⟨c, s⟩ := e
  cases s
  · refine AW_rg (tyOf_good _) [1, 2, 4, 5, 18] [1, 2] (fun _ _ => trivial) fun K' hK' => ?_
    repeat (refine sxf_next fun K2 hK2 => ?_; simp [dErr]; (repeat (refine ⟨by omega, ?_⟩)); refine hK2 _ ?_; clear hK2 K2)
    refine sxf_nil (hK' _ ?_)
    refine AW.st (by simp [dErr]; rfl) ?_
    clear hK' K'
    refine AW_cond true rfl (fun _ => ?_) (fun h => by cases h)
    refine AW_rg (tyOf_good _) [2, 3] [1, 2] (fun _ _ => trivial) fun K' hK' => ?_
    repeat (refine sxf_next fun K2 hK2 => ?_; simp [dErr]; (repeat (refine ⟨by omega, ?_⟩)); refine hK2 _ ?_; clear hK2 K2)
    refine sxf_nil (hK' _ ?_)
    refine AW.st (by simp [dErr]; rfl) ?_
    clear hK' K'
    refine AW_ret ?_
    simp [D.le, D.le.go, takeMap, dErr, dTab, dRows]
  · refine AW_rg (tyOf_good _) [1, 2, 4, 5, 18] [1, 2] (fun _ _ => trivial) fun K' hK' => ?_
    repeat (refine sxf_next fun K2 hK2 => ?_; simp [dErr]; (repeat (refine ⟨by omega, ?_⟩)); refine hK2 _ ?_; clear hK2 K2)
    refine sxf_nil (hK' _ ?_)
    refine AW.st (by simp [dErr]; rfl) ?_
    clear hK' K'
    refine AW_cond true rfl (fun _ => ?_) (fun h => by cases h)
    refine AW_rg (tyOf_good _) [2, 3] [1, 2] (fun _ _ => trivial) fun K' hK' => ?_
    repeat (refine sxf_next fun K2 hK2 => ?_; simp [dErr]; (repeat (refine ⟨by omega, ?_⟩)); refine hK2 _ ?_; clear hK2 K2)
    refine sxf_nil (hK' _ ?_)
    refine AW.st (by simp [dErr]; rfl) ?_
    clear hK' K'
    refine AW_ret ?_
    simp [D.le, D.le.go, takeMap, dErr, dTab, dRows]

def pre (l row : List Int) (i : Nat) : List Int := (row.take i).map fun x => l.getD x.toNat 0
theorem pre_zero (l row : List Int) : pre l row 0 = [] := by simp [pre]
theorem pre_succ (l : List Int) {row : List Int} {i : Nat} (h : i < row.length) : pre l row (i + 1) = pre l row i ++ [l.getD row[i].toNat 0] := by
  unfold pre
  rw [List.take_succ_eq_append_getElem h, List.map_append]
  rfl
theorem pre_all (l row : List Int) : pre l row row.length = row.map fun x => l.getD x.toNat 0 := by simp [pre]
theorem pre_len (l : List Int) {row : List Int} {i : Nat} (h : i ≤ row.length) : (pre l row i).length = i := by simp [pre]; omega

set_option maxHeartbeats 2000000 in
theorem least_good (G : Glob) (t : Tab) (ok : Ok t) (k : Nat) (hk : k < 2^20) (hs : Stops t k) : PureC Tryd.prog G 18 [dTab t] (.tup [dTab (leastF t (iter t k)), .v .nilIface]) := by
  have hblocks := blocks_good G t ok k hk hs
  have hlen : (iter t k).length = t.next.length := iter_len t k
  have is := least_is ok hs.1
  generalize iter t k = l at hblocks hlen is
  have hmost : t.next.length ≤ 500 := ok.most
  refine PureC.of_body (tyOf_good _) Tryd.func18 rfl rfl (rs := [.cell 2 25, .tmp 3]) Tryd.results18 (by simp [Tryd.ntmps18]) fun X => ?_
  simp only [Tryd.ntmps18, List.map]
  refine AW_rg (tyOf_good _) [1, 2] [1, 2] (fun _ _ => trivial) fun K' hK' => ?_
  repeat (refine sxf_next fun K2 hK2 => ?_; simp [dTab]; (repeat (refine ⟨by omega, ?_⟩)); refine hK2 _ ?_; clear hK2 K2)
  refine sxf_nil (hK' _ ?_)
  refine AW.st (by simp [dTab]; rfl) ?_
  clear hK' K'
  refine AW_rg (tyOf_good _) [1, 2, 4, 5] [1, 2] (fun _ _ => trivial) fun K' hK' => ?_
  repeat (refine sxf_next fun K2 hK2 => ?_; simp; (repeat (refine ⟨by omega, ?_⟩)); refine hK2 _ ?_; clear hK2 K2)
  refine sxf_next fun K2 hK2 => ?_
  simp
  refine callK.data (hblocks) (by simp; rfl) (by first | exact D.leGo_refl _ | simp [takeMap, List.map_map, Function.comp_def, D.le, D.le.go, D.le_refl, D.leGo_refl]) ?_
  refine hK2 _ ?_
  clear hK2 K2
  simp only [putd, upd_lst]
  repeat (refine sxf_next fun K2 hK2 => ?_; simp; (repeat (refine ⟨by omega, ?_⟩)); refine hK2 _ ?_; clear hK2 K2)
  refine sxf_nil (hK' _ ?_)
  refine AW.st (by simp; rfl) ?_
  clear hK' K'
  refine AW_then fun K1 hK1 => ?_
  refine AW_rg (tyOf_good _) [1, 2, 4, 5, 18] [1, 2] (fun _ _ => trivial) fun K' hK' => ?_
  repeat (refine sxf_next fun K2 hK2 => ?_; simp; (repeat (refine ⟨by omega, ?_⟩)); refine hK2 _ ?_; clear hK2 K2)
  refine sxf_nil (hK' _ ?_)
  refine AW.st (by simp; rfl) ?_
  clear hK' K'
  refine AW_cond false rfl (fun h => by cases h) (fun _ => ?_)
  refine AW_skip (hK1 _ ?_)
  refine AW_rg (tyOf_good _) [1, 2, 4, 6] [1, 2, 6] (fun _ _ => trivial) fun K' hK' => ?_
  repeat (refine sxf_next fun K2 hK2 => ?_; simp; (repeat (refine ⟨by omega, ?_⟩)); refine hK2 _ ?_; clear hK2 K2)
  refine sxf_nil (hK' _ ?_)
  refine AW.st (by simp; rfl) ?_
  clear hK' K'
  refine AW_then fun K2 hK2 => ?_
  refine AW_rg (tyOf_good _) [1, 2, 4, 6, 21, 22, 23] [1, 2, 6] (fun _ _ => trivial) fun K' hK' => ?_
  repeat (refine sxf_next fun K2 hK2 => ?_; simp [dRow, dInts]; (repeat (refine ⟨by omega, ?_⟩)); refine hK2 _ ?_; clear hK2 K2)
  refine sxf_nil (hK' _ ?_)
  refine AW.st (by simp [dRow, dInts]; rfl) ?_
  clear hK' K'
  refine AW_for (S := Nat) (fun n => n ≤ t.next.length) (fun n => ⟨lst [(1, .ref 1 0 0), (2, .ref 2 0 0), (4, .d (dRow l)), (6, .ref 6 0 0), (21, .d (dRow l)), (22, int t.next.length), (23, int n)],
    hlst [(1, boxT t), (2, .box 25 [.d (.sl (some false) []), .d (.sl (some false) [])]), (6, .box 25 [.own 55 0 (leastSt t l n).1.length, .own 65 0 (leastSt t l n).1.length]), (55, rowR (leastSt t l n).1), (65, rowR (leastSt t l n).2)]⟩) (fun n => t.next.length - n) 0 ?_ (by simp) ?_
  · refine (Imp.adoptCell 6 0 55 32 1 rfl rfl rfl).trans ((Imp.adoptCell 6 1 65 32 1 rfl rfl rfl).trans ?_)
    refine Imp.to' (fun _ _ => trivial) (by simp [boxT, rowR, dRow, dInts, dRows, leastSt, hlen]) (by simp [boxT, rowR, dRow, dInts, dRows, leastSt, hlen])
  · intro n hn
    obtain ⟨hN, hT⟩ := leastSt_len t l n
    have hnext := leastSt_succ t l n
    generalize hst : leastSt t l n = st at hN hT hnext
    obtain ⟨Ns, Ts⟩ := st
    dsimp only at hN hT hnext
    have htT : ∀ f : List Int → List D, List.take Ns.length (List.map f Ts) = List.map f Ts := fun f => List.take_of_length_le (by simp [hT])
    refine AW_rg (tyOf_good _) [1, 2, 4, 6, 21, 22, 23, 24] [1, 2, 6, 55, 65] (fun _ _ => trivial) fun K' hK' => ?_
    repeat (refine sxf_next fun K2 hK2 => ?_; simp [rowR, boxT]; (repeat (refine ⟨by omega, ?_⟩)); refine hK2 _ ?_; clear hK2 K2)
    refine sxf_nil (hK' _ ?_)
    refine AW.st (by simp [rowR, boxT]; rfl) ?_
    clear hK' K'
    refine AW_then fun K3 hK3 => ?_
    refine AW_cond' (b := n < t.next.length) (by simp [D.le, D.le.go, takeMap]) (fun hc => ?_) (fun hc => ?_)
    · refine AW_skip (hK3 _ ?_)
      have hnl : n < l.length := by omega
      have hnt : n < t.n := hc
      have hgn : t.next.getD n [] = t.next[n] := by rw [List.getD_eq_getElem?_getD, List.getElem?_eq_getElem hc]; rfl
      have hln : l.getD n 0 = l[n] := by simp [hnl]
      have htl : n < t.tells.length := by have := ok.tells; unfold Tab.n at hnt this; omega
      have hgt : t.tells.getD n [] = t.tells[n] := by simp [htl]
      refine AW_then fun K4 hK4 => ?_
      refine AW_block ?_
      refine AW_rg (tyOf_good _) [1, 2, 4, 6, 7, 8, 21, 22, 23] [1, 2, 6, 55, 65] (fun _ _ => trivial) fun K' hK' => ?_
      repeat (refine sxf_next fun K2 hK2 => ?_; simp [dRow, dInts, hnl]; (repeat (refine ⟨by omega, ?_⟩)); refine hK2 _ ?_; clear hK2 K2)
      refine sxf_nil (hK' _ ?_)
      refine AW.st (by simp [dRow, dInts, hnl]; rfl) ?_
      clear hK' K'
      refine AW_then fun K5 hK5 => ?_
      refine AW_rg (tyOf_good _) [1, 2, 4, 6, 7, 21, 22, 23, 32] [1, 2, 6, 55, 65] (fun _ _ => trivial) fun K' hK' => ?_
      repeat (refine sxf_next fun K2 hK2 => ?_; simp [rowR, boxT]; (repeat (refine ⟨by omega, ?_⟩)); refine hK2 _ ?_; clear hK2 K2)
      refine sxf_nil (hK' _ ?_)
      refine AW.st (by simp [rowR, boxT]; rfl) ?_
      clear hK' K'
      unfold leastStep at hnext
      dsimp only at hnext
      rw [hln, hgn, hgt] at hnext
      refine AW_cond' (b := l[n] < (Ns.length : Int)) (by simp [D.le, D.le.go, takeMap]) (fun hc => ?_) (fun hc => ?_)
      · rw [if_pos hc] at hnext
        refine AW_exit (hK4 _ ?_)
        refine AW_re (tyOf_good _) fun K' hK' => ?_
        repeat (refine sxf_next fun K2 hK2 => ?_; simp; (repeat (refine ⟨by omega, ?_⟩)); refine hK2 _ ?_; clear hK2 K2)
        refine sxf_nil (hK' _ ?_)
        clear hK' K'
        try simp only [thn, inb]
        refine Again.mk (n + 1) (by omega) (by omega) ?_
        refine Imp.to' (fun _ _ => trivial) (by simp [boxT, rowR, dRow, dInts, hnext]) (by simp [boxT, rowR, dRow, dInts, hnext])
      · rw [if_neg hc] at hnext
        refine AW_skip (hK5 _ ?_)
        refine AW_rg (tyOf_good _) [1, 2, 4, 6, 7, 9, 21, 22, 23] [1, 2, 6, 55, 65] (fun _ _ => trivial) fun K' hK' => ?_
        repeat (refine sxf_next fun K2 hK2 => ?_; simp; (repeat (refine ⟨by omega, ?_⟩)); refine hK2 _ ?_; clear hK2 K2)
        refine sxf_nil (hK' _ ?_)
        refine AW.st (by simp; rfl) ?_
        clear hK' K'
        refine AW_then fun K6 hK6 => ?_
        rename_i hcn
        refine AW_rg (tyOf_good _) [1, 2, 4, 6, 7, 9, 21, 22, 23, 37, 38, 39] [1, 2, 6, 55, 65] (fun _ _ => trivial) fun K' hK' => ?_
        repeat (refine sxf_next fun K2 hK2 => ?_; simp [boxT, dRows, dRow, dInts, hcn]; (repeat (refine ⟨by omega, ?_⟩)); refine hK2 _ ?_; clear hK2 K2)
        refine sxf_nil (hK' _ ?_)
        refine AW.st (by simp [boxT, dRows, dRow, dInts, hcn]; rfl) ?_
        clear hK' K'
        have hw := ok.nextLen n hnt
        have hw2 := ok.tellsLen n hnt
        have hin := ok.ins
        have hth := ok.there n hnt
        rw [hgn] at hw hth
        rw [hgt] at hw2
        generalize hr : t.next[n] = row at hw hth hnext
        refine AW_for (S := Nat) (fun i => i ≤ row.length) (fun i => ⟨lst [(1, .ref 1 0 0), (2, .ref 2 0 0), (4, .d (dRow l)), (6, .ref 6 0 0), (7, int n), (9, .own 70 0 i), (21, .d (dRow l)), (22, int t.next.length), (23, int n), (37, .d (dRow row)), (38, int row.length), (39, int i)],
          hlst [(1, boxT t), (2, .box 25 [.d (.sl (some false) []), .d (.sl (some false) [])]), (6, .box 25 [.own 55 0 Ns.length, .own 65 0 Ns.length]), (55, rowR Ns), (65, rowR Ts), (70, rowI (pre l row i))]⟩) (fun i => row.length - i) 0 ?_ (by simp) ?_
        · refine (Imp.adopt 9 70 3 1 rfl rfl).trans ?_
          refine Imp.to' (fun _ _ => trivial) (by simp [boxT, rowR, rowI, dRow, dInts, dRows, pre_zero]) (by simp [boxT, rowR, rowI, dRow, dInts, dRows, pre_zero])
        · intro i hi
          have hpl := pre_len l hi
          refine AW_rg (tyOf_good _) [1, 2, 4, 6, 7, 9, 21, 22, 23, 37, 38, 39, 40] [1, 2, 6, 55, 65, 70] (fun _ _ => trivial) fun K' hK' => ?_
          repeat (refine sxf_next fun K2 hK2 => ?_; simp [rowI, rowR, boxT]; (repeat (refine ⟨by omega, ?_⟩)); refine hK2 _ ?_; clear hK2 K2)
          refine sxf_nil (hK' _ ?_)
          refine AW.st (by simp [rowI, rowR, boxT]; rfl) ?_
          clear hK' K'
          refine AW_then fun K7 hK7 => ?_
          refine AW_cond' (b := i < row.length) (by simp [D.le, D.le.go, takeMap]) (fun hc => ?_) (fun hc => ?_)
          · refine AW_skip (hK7 _ ?_)
            rename_i hil
            have hil : i < row.length := hc
            obtain ⟨hx0, hx1⟩ := hth row[i] (by simp)
            have hx2 : row[i] < (l.length : Int) := by rw [hlen]; exact hx1
            have hx3 : row[i].toNat < l.length := by omega
            have htk := pre_succ l hil
            have hpt : ∀ f : Int → List D, List.take i (List.map f (pre l row i)) = List.map f (pre l row i) := fun f => List.take_of_length_le (by simp [hpl])
            refine AW_then fun K8 hK8 => ?_
            refine AW_block ?_
            refine AW_rg (tyOf_good _) [1, 2, 4, 6, 7, 9, 11, 21, 22, 23, 37, 38, 39] [1, 2, 6, 55, 65, 70] (fun _ _ => trivial) fun K' hK' => ?_
            repeat (refine sxf_next fun K2 hK2 => ?_; simp [dRow, dInts, hil]; (repeat (refine ⟨by omega, ?_⟩)); refine hK2 _ ?_; clear hK2 K2)
            refine sxf_nil (hK' _ ?_)
            refine AW.st (by simp [dRow, dInts, hil]; rfl) ?_
            clear hK' K'
            refine AW_re (tyOf_good _) fun K' hK' => ?_
            repeat (refine sxf_next fun K2 hK2 => ?_; simp [dRow, dInts, hx0, hx2, hx3, takeMap]; (repeat (refine ⟨by omega, ?_⟩)); refine hK2 _ ?_; clear hK2 K2)
            refine sxf_nil (hK' _ ?_)
            clear hK' K'
            refine hK8 _ (AW.norm [1, 2, 4, 6, 7, 9, 21, 22, 23, 37, 38, 39] [1, 2, 6, 55, 65, 70] (fun _ _ => trivial) (AW.st (by simp [dRow, dInts, hx0, hx2, hx3, takeMap]; rfl) ?_))
            refine AW_re (tyOf_good _) fun K' hK' => ?_
            repeat (refine sxf_next fun K2 hK2 => ?_; simp; (repeat (refine ⟨by omega, ?_⟩)); refine hK2 _ ?_; clear hK2 K2)
            refine sxf_nil (hK' _ ?_)
            clear hK' K'
            try simp only [thn, inb]
            refine Again.mk (i + 1) (by omega) (by omega) ?_
            refine Imp.to' (fun _ _ => trivial) (by simp [boxT, rowR, rowI, dRow, dInts, dRows, dNum, htk, hil, hx3, hpt]) (by simp [boxT, rowR, rowI, dRow, dInts, dRows, dNum, htk, hil, hx3, hpt])
          · have hil : i = row.length := by omega
            subst hil
            refine AW_exit (hK6 _ ?_)
            have hpl := pre_len l (Nat.le_refl row.length)
            refine AW.imp (Imp.freeze 70 trivial) ?_
            refine AW.st (by simp [rowI, rowR, boxT, hpl]; rfl) ?_
            refine AW_rle (tyOf_good _) (by kernel_rfl) ([(4, (55, 54)), (14, (65, 64))]) ([(5, [55]), (6, [55]), (7, [55]), (8, [55]), (9, [55]), (10, [55]), (11, [55]), (15, [65])]) ([0, 1, 2, 5, 6, 7, 8, 9, 10, 11, 3, 4, 12, 13, 15, 14, 16, 17, 18]) (by kernel_rfl) fun K' hK' => ?_
            repeat (refine sxl_nextO rfl fun K2 hK2 => ?_; simp [rowI, rowR, boxT, dRow, dInts, dRows, htl, takeMap]; (repeat (refine ⟨by omega, ?_⟩)); refine hK2 _ ?_; clear hK2 K2)
            refine sxl_nextO rfl fun K2 hK2 => ?_
            simp [rowI, rowR, boxT, dRow, dInts, dRows, htl, takeMap]
            refine callD.mk (clone_spec G t.tells[n] (by omega)) (by simp; rfl) (by simp; rfl) (by first | exact D.leGo_refl _ | simp [takeMap, List.map_map, Function.comp_def, D.le, D.le.go, D.le_refl, D.leGo_refl, rowI, rowR, boxT, dRow, dInts, dRows, htl, takeMap]) (by simp) ?_
            refine hK2 _ ?_
            clear hK2 K2
            simp only [putd, upd_lst]
            repeat (refine sxl_nextO rfl fun K2 hK2 => ?_; simp [rowI, rowR, boxT, dRow, dInts, dRows, htl, takeMap]; (repeat (refine ⟨by omega, ?_⟩)); refine hK2 _ ?_; clear hK2 K2)
            refine sxl_nilO (hK' _ ?_)
            clear hK' K'
            refine hK4 _ (AW.norm [1, 2, 4, 6, 21, 22, 23] [1, 2, 6, 55, 65] (fun _ _ => trivial) (AW.st (by simp [rowI, rowR, boxT, dRow, dInts, dRows, htl, takeMap]; rfl) ?_))
            refine AW_re (tyOf_good _) fun K' hK' => ?_
            repeat (refine sxf_next fun K2 hK2 => ?_; simp; (repeat (refine ⟨by omega, ?_⟩)); refine hK2 _ ?_; clear hK2 K2)
            refine sxf_nil (hK' _ ?_)
            clear hK' K'
            try simp only [thn, inb]
            refine Again.mk (n + 1) (by omega) (by omega) ?_
            refine Imp.to' (fun _ _ => trivial) (by simp [boxT, rowR, rowI, dRow, dInts, dRows, dNum, hnext, hT, hpl, pre_all, takeMap, htT]) (by simp [boxT, rowR, rowI, dRow, dInts, dRows, dNum, hnext, hT, hpl, pre_all, takeMap, htT])
    · refine AW_exit (hK2 _ ?_)
      have hnn : n = t.next.length := by omega
      subst hnn
      have hle : leastF t l = ⟨Ns, Ts⟩ := by unfold leastF Tab.n; rw [hst]
      refine AW_rg (tyOf_good _) [2, 3] [2, 55, 65] (fun _ _ => trivial) fun K' hK' => ?_
      repeat (refine sxf_next fun K2 hK2 => ?_; simp; (repeat (refine ⟨by omega, ?_⟩)); refine hK2 _ ?_; clear hK2 K2)
      refine sxf_nil (hK' _ ?_)
      refine AW.st (by simp; rfl) ?_
      clear hK' K'
      refine AW_ret ?_
      simp [D.le, D.le.go, takeMap, dTab, dRows, rowR, hle, hT, htT]
#print axioms least_bad
#print axioms least_good
end Go.Proofs.YtoikggboakojlaaDoor

/-
  The least inputs by which two states are told apart.
-/
namespace Go.Proofs.YtoikggboakojlaaDoor
set_option linter.unusedSimpArgs false
set_option linter.unusedVariables false
open Go.Av

/-- By input i two states are told apart, where k inputs are wanted. -/
def hitF (t : Tab) (k a b i : Nat) : Bool := if k = 1 then te t a i != te t b i else (iter t (k - 1)).getD (nx t a i) 0 != (iter t (k - 1)).getD (nx t b i) 0
def partF (t : Tab) : Nat → Nat → Nat → List Int
  | 0, _, _ => []
  | k + 1, a, b => match (List.range (wd t)).find? (hitF t (k + 1) a b) with
    | some i => (i : Int) :: partF t k (nx t a i) (nx t b i)
    | none => partF t k a b

/-- Two states have unlike numbers. -/
def apartF (a b : Nat) (l : List Int) : Bool := l.getD a 0 != l.getD b 0
def rndF (t : Tab) (k : Nat) : List (List Int) := (List.range (k + 1)).map (iter t)
theorem rndF_len (t : Tab) (k : Nat) : (rndF t k).length = k + 1 := by simp [rndF]
theorem rndF_get (t : Tab) (k q : Nat) (h : q < (rndF t k).length) : (rndF t k)[q] = iter t q := by simp [rndF]
theorem rndF_mem {t : Tab} {k : Nat} {x : List Int} (h : x ∈ rndF t k) : x.length = t.n := by
  obtain ⟨m, _, rfl⟩ := List.mem_map.1 h
  exact iter_len t m

theorem find_hit {p : Nat → Bool} {n i : Nat} (hi : i < n) (h : p i = true) (hb : ∀ j, j < i → p j = false) : (List.range n).find? p = some i := by
  rw [List.find?_range_eq_some]
  exact ⟨h, List.mem_range.2 hi, fun j hj => by simp [hb j hj]⟩
theorem find_miss {p : Nat → Bool} {n : Nat} (hb : ∀ j, j < n → p j = false) : (List.range n).find? p = none := by
  rw [List.find?_eq_none]
  intro x hx
  simp [hb x (List.mem_range.1 hx)]

theorem partF_hit {t : Tab} {k a b i : Nat} (hi : i < wd t) (h : hitF t (k + 1) a b i = true) (hb : ∀ j, j < i → hitF t (k + 1) a b j = false) : partF t (k + 1) a b = (i : Int) :: partF t k (nx t a i) (nx t b i) := by
  conv => lhs; unfold partF
  rw [find_hit hi h hb]
theorem partF_miss {t : Tab} {k a b : Nat} (hb : ∀ j, j < wd t → hitF t (k + 1) a b j = false) : partF t (k + 1) a b = partF t k a b := by
  conv => lhs; unfold partF
  rw [find_miss hb]

set_option maxHeartbeats 1000000 in
theorem part_bad (G : Glob) (t : Tab) (a b : Int) (e : Int × Option Nat) (h : checkF t = some e) : PureC Tryd.prog G 25 [dTab t, dNum a, dNum b] (.tup [.sl (some false) [], dErr (some e)]) := by
  refine PureC.of_body (tyOf_good _) Tryd.func25 rfl rfl (rs := [.tmp 6, .tmp 7]) Tryd.results25 (by simp [Tryd.ntmps25]) fun X => ?_
  simp only [Tryd.ntmps25, List.map]
  refine AW_rg (tyOf_good _) [3, 4, 5] [3, 4, 5] (fun _ _ => trivial) fun K' hK' => ?_
  repeat (refine sxf_next fun K2 hK2 => ?_; simp [dTab, dNum]; (repeat (refine ⟨by omega, ?_⟩)); refine hK2 _ ?_; clear hK2 K2)
  refine sxf_nil (hK' _ ?_)
  refine AW.st (by simp [dTab, dNum]; rfl) ?_
  clear hK' K'
  refine AW_then fun K1 hK1 => ?_
  refine AW_rg (tyOf_good _) [3, 4, 5, 8] [3, 4, 5] (fun _ _ => trivial) fun K' hK' => ?_
  repeat (refine sxf_next fun K2 hK2 => ?_; simp; (repeat (refine ⟨by omega, ?_⟩)); refine hK2 _ ?_; clear hK2 K2)
  refine sxf_next fun K2 hK2 => ?_
  simp
  refine callK.data (check_spec G t) (by simp; rfl) (by first | exact D.leGo_refl _ | simp [takeMap, List.map_map, Function.comp_def, D.le, D.le.go, D.le_refl, D.leGo_refl]) ?_
  refine hK2 _ ?_
  clear hK2 K2
  simp only [putd, upd_lst]
  repeat (refine sxf_next fun K2 hK2 => ?_; simp; (repeat (refine ⟨by omega, ?_⟩)); refine hK2 _ ?_; clear hK2 K2)
  refine sxf_nil (hK' _ ?_)
  refine AW.st (by simp; rfl) ?_
  clear hK' K'
  rw [h]
  obtain ⟨c, s⟩ := e
  cases s
  · refine AW_rg (tyOf_good _) [3, 4, 5, 8, 18] [3, 4, 5] (fun _ _ => trivial) fun K' hK' => ?_
    repeat (refine sxf_next fun K2 hK2 => ?_; simp [dErr]; (repeat (refine ⟨by omega, ?_⟩)); refine hK2 _ ?_; clear hK2 K2)
    refine sxf_nil (hK' _ ?_)
    refine AW.st (by simp [dErr]; rfl) ?_
    clear hK' K'
    refine AW_cond true rfl (fun _ => ?_) (fun h => by cases h)
    refine AW_rg (tyOf_good _) [6, 7] [3, 4, 5] (fun _ _ => trivial) fun K' hK' => ?_
    repeat (refine sxf_next fun K2 hK2 => ?_; simp; (repeat (refine ⟨by omega, ?_⟩)); refine hK2 _ ?_; clear hK2 K2)
    refine sxf_nil (hK' _ ?_)
    refine AW.st (by simp; rfl) ?_
    clear hK' K'
    refine AW_ret ?_
    simp [D.le, D.le.go, takeMap, dErr]
  · refine AW_rg (tyOf_good _) [3, 4, 5, 8, 18] [3, 4, 5] (fun _ _ => trivial) fun K' hK' => ?_
    repeat (refine sxf_next fun K2 hK2 => ?_; simp [dErr]; (repeat (refine ⟨by omega, ?_⟩)); refine hK2 _ ?_; clear hK2 K2)
    refine sxf_nil (hK' _ ?_)
    refine AW.st (by simp [dErr]; rfl) ?_
    clear hK' K'
    refine AW_cond true rfl (fun _ => ?_) (fun h => by cases h)
    refine AW_rg (tyOf_good _) [6, 7] [3, 4, 5] (fun _ _ => trivial) fun K' hK' => ?_
    repeat (refine sxf_next fun K2 hK2 => ?_; simp; (repeat (refine ⟨by omega, ?_⟩)); refine hK2 _ ?_; clear hK2 K2)
    refine sxf_nil (hK' _ ?_)
    refine AW.st (by simp; rfl) ?_
    clear hK' K'
    refine AW_ret ?_
    simp [D.le, D.le.go, takeMap, dErr]

set_option maxHeartbeats 1000000 in
theorem part_range (G : Glob) (t : Tab) (a b : Int) (ok : Ok t) (h : a < 0 ∨ (t.n : Int) ≤ a ∨ b < 0 ∨ (t.n : Int) ≤ b) : PureC Tryd.prog G 25 [dTab t, dNum a, dNum b] (.tup [.sl (some false) [], dErr (some (2, none))]) := by
  have hch : checkF t = none := ok_iff.2 ok
  unfold Tab.n at h
  refine PureC.of_body (tyOf_good _) Tryd.func25 rfl rfl (rs := [.tmp 6, .tmp 7]) Tryd.results25 (by simp [Tryd.ntmps25]) fun X => ?_
  simp only [Tryd.ntmps25, List.map]
  refine AW_rg (tyOf_good _) [3, 4, 5] [3, 4, 5] (fun _ _ => trivial) fun K' hK' => ?_
  repeat (refine sxf_next fun K2 hK2 => ?_; simp [dTab, dNum]; (repeat (refine ⟨by omega, ?_⟩)); refine hK2 _ ?_; clear hK2 K2)
  refine sxf_nil (hK' _ ?_)
  refine AW.st (by simp [dTab, dNum]; rfl) ?_
  clear hK' K'
  refine AW_then fun K1 hK1 => ?_
  refine AW_rg (tyOf_good _) [3, 4, 5, 8] [3, 4, 5] (fun _ _ => trivial) fun K' hK' => ?_
  repeat (refine sxf_next fun K2 hK2 => ?_; simp; (repeat (refine ⟨by omega, ?_⟩)); refine hK2 _ ?_; clear hK2 K2)
  refine sxf_next fun K2 hK2 => ?_
  simp
  refine callK.data (check_spec G t) (by simp; rfl) (by first | exact D.leGo_refl _ | simp [takeMap, List.map_map, Function.comp_def, D.le, D.le.go, D.le_refl, D.leGo_refl]) ?_
  refine hK2 _ ?_
  clear hK2 K2
  simp only [putd, upd_lst]
  repeat (refine sxf_next fun K2 hK2 => ?_; simp; (repeat (refine ⟨by omega, ?_⟩)); refine hK2 _ ?_; clear hK2 K2)
  refine sxf_nil (hK' _ ?_)
  refine AW.st (by simp; rfl) ?_
  clear hK' K'
  rw [hch]
  refine AW_rg (tyOf_good _) [3, 4, 5, 8, 18] [3, 4, 5] (fun _ _ => trivial) fun K' hK' => ?_
  repeat (refine sxf_next fun K2 hK2 => ?_; simp [dErr]; (repeat (refine ⟨by omega, ?_⟩)); refine hK2 _ ?_; clear hK2 K2)
  refine sxf_nil (hK' _ ?_)
  refine AW.st (by simp [dErr]; rfl) ?_
  clear hK' K'
  refine AW_cond false rfl (fun h => by cases h) (fun _ => ?_)
  refine AW_skip (hK1 _ ?_)
  refine AW_then fun K2 hK2 => ?_
  by_cases h1 : a < 0
  · refine AW_rg (tyOf_good _) [3, 4, 5, 39] [3, 4, 5] (fun _ _ => trivial) fun K' hK' => ?_
    repeat (refine sxf_next fun K2 hK2 => ?_; simp [h1, dRows]; (repeat (refine ⟨by omega, ?_⟩)); refine hK2 _ ?_; clear hK2 K2)
    refine sxf_nil (hK' _ ?_)
    refine AW.st (by simp [h1, dRows]; rfl) ?_
    clear hK' K'
    refine AW_cond true rfl (fun _ => ?_) (fun h => by cases h)
    refine AW_rg (tyOf_good _) [6, 7] [3, 4, 5] (fun _ _ => trivial) fun K' hK' => ?_
    repeat (refine sxf_next fun K2 hK2 => ?_; simp; (repeat (refine ⟨by omega, ?_⟩)); refine hK2 _ ?_; clear hK2 K2)
    refine sxf_nil (hK' _ ?_)
    refine AW.st (by simp; rfl) ?_
    clear hK' K'
    refine AW_ret ?_
    simp [D.le, D.le.go, takeMap, dErr]
  by_cases h2 : (t.next.length : Int) ≤ a
  · refine AW_rg (tyOf_good _) [3, 4, 5, 39] [3, 4, 5] (fun _ _ => trivial) fun K' hK' => ?_
    repeat (refine sxf_next fun K2 hK2 => ?_; simp [h1, h2, dRows]; (repeat (refine ⟨by omega, ?_⟩)); refine hK2 _ ?_; clear hK2 K2)
    refine sxf_nil (hK' _ ?_)
    refine AW.st (by simp [h1, h2, dRows]; rfl) ?_
    clear hK' K'
    refine AW_cond true rfl (fun _ => ?_) (fun h => by cases h)
    refine AW_rg (tyOf_good _) [6, 7] [3, 4, 5] (fun _ _ => trivial) fun K' hK' => ?_
    repeat (refine sxf_next fun K2 hK2 => ?_; simp; (repeat (refine ⟨by omega, ?_⟩)); refine hK2 _ ?_; clear hK2 K2)
    refine sxf_nil (hK' _ ?_)
    refine AW.st (by simp; rfl) ?_
    clear hK' K'
    refine AW_ret ?_
    simp [D.le, D.le.go, takeMap, dErr]
  by_cases h3 : b < 0
  · refine AW_rg (tyOf_good _) [3, 4, 5, 39] [3, 4, 5] (fun _ _ => trivial) fun K' hK' => ?_
    repeat (refine sxf_next fun K2 hK2 => ?_; simp [h1, h2, h3, dRows]; (repeat (refine ⟨by omega, ?_⟩)); refine hK2 _ ?_; clear hK2 K2)
    refine sxf_nil (hK' _ ?_)
    refine AW.st (by simp [h1, h2, h3, dRows]; rfl) ?_
    clear hK' K'
    refine AW_cond true rfl (fun _ => ?_) (fun h => by cases h)
    refine AW_rg (tyOf_good _) [6, 7] [3, 4, 5] (fun _ _ => trivial) fun K' hK' => ?_
    repeat (refine sxf_next fun K2 hK2 => ?_; simp; (repeat (refine ⟨by omega, ?_⟩)); refine hK2 _ ?_; clear hK2 K2)
    refine sxf_nil (hK' _ ?_)
    refine AW.st (by simp; rfl) ?_
    clear hK' K'
    refine AW_ret ?_
    simp [D.le, D.le.go, takeMap, dErr]
  have h4 : (t.next.length : Int) ≤ b := by omega
  refine AW_rg (tyOf_good _) [3, 4, 5, 39] [3, 4, 5] (fun _ _ => trivial) fun K' hK' => ?_
  repeat (refine sxf_next fun K2 hK2 => ?_; simp [h1, h2, h3, h4, dRows]; (repeat (refine ⟨by omega, ?_⟩)); refine hK2 _ ?_; clear hK2 K2)
  refine sxf_nil (hK' _ ?_)
  refine AW.st (by simp [h1, h2, h3, h4, dRows]; rfl) ?_
  clear hK' K'
  refine AW_cond true rfl (fun _ => ?_) (fun h => by cases h)
  refine AW_rg (tyOf_good _) [6, 7] [3, 4, 5] (fun _ _ => trivial) fun K' hK' => ?_
  repeat (refine sxf_next fun K2 hK2 => ?_; simp; (repeat (refine ⟨by omega, ?_⟩)); refine hK2 _ ?_; clear hK2 K2)
  refine sxf_nil (hK' _ ?_)
  refine AW.st (by simp; rfl) ?_
  clear hK' K'
  refine AW_ret ?_
  simp [D.le, D.le.go, takeMap, dErr]
#print axioms part_bad
#print axioms part_range
end Go.Proofs.YtoikggboakojlaaDoor

/-
  Plain facts of tables: what is told of inputs; the inputs that part two states.
-/
namespace Go.Proofs.YtoikggboakojlaaDoor
set_option linter.unusedSimpArgs false
set_option linter.unusedVariables false

/-- What is told of inputs. -/
def tellF (t : Tab) : Nat → List Nat → List Int
  | _, [] => []
  | s, i :: l => te t s i :: tellF t (nx t s i) l
/-- Where they lead. -/
def goF (t : Tab) : Nat → List Nat → Nat
  | s, [] => s
  | s, i :: l => goF t (nx t s i) l

theorem tellF_len (t : Tab) : ∀ (l : List Nat) (s : Nat), (tellF t s l).length = l.length
  | [], _ => rfl
  | i :: l, s => by simp [tellF, tellF_len t l]
theorem tellF_snoc (t : Tab) (i : Nat) : ∀ (l : List Nat) (s : Nat), tellF t s (l ++ [i]) = tellF t s l ++ [te t (goF t s l) i]
  | [], s => rfl
  | j :: l, s => by simp [tellF, goF, tellF_snoc t i l]
theorem goF_snoc (t : Tab) (i : Nat) : ∀ (l : List Nat) (s : Nat), goF t s (l ++ [i]) = nx t (goF t s l) i
  | [], s => rfl
  | j :: l, s => by simp [goF, goF_snoc t i l]
theorem goF_lt {t : Tab} (ok : Ok t) : ∀ (l : List Nat) (s : Nat), s < t.n → (∀ c ∈ l, c < wd t) → goF t s l < t.n
  | [], s, hs, _ => hs
  | i :: l, s, hs, h => goF_lt ok l _ (ok.nx_lt hs (h i (by simp))) fun c hc => h c (by simp [hc])

/-- States that are alike tell the same. -/
theorem tell_alike {t : Tab} (ok : Ok t) {k : Nat} (h : nextF t (iter t k) = iter t k) : ∀ (l : List Nat) (a b : Nat), a < t.n → b < t.n → Al t k a b → (∀ c ∈ l, c < wd t) → tellF t a l = tellF t b l
  | [], _, _, _, _, _, _ => rfl
  | i :: l, a, b, ha, hb, hab, hl => by
    have hi := hl i (by simp)
    obtain ⟨h1, h2⟩ := al_fix ok h ha hb hab i hi
    simp only [tellF, h1]
    rw [tell_alike ok h l _ _ (ok.nx_lt ha hi) (ok.nx_lt hb hi) h2 fun c hc => hl c (by simp [hc])]
/-- The table of blocks tells what its states do. -/
theorem tell_least {t u : Tab} (ok : Ok t) {k : Nat} (h : nextF t (iter t k) = iter t k) (hu : LeastIs t (iter t k) u) : ∀ (l : List Nat) (a q : Nat), a < t.n → q < u.n → (iter t k).getD a 0 = (q : Int) → (∀ c ∈ l, c < wd t) → tellF t a l = tellF u q l
  | [], _, _, _, _, _, _ => rfl
  | i :: l, a, q, ha, hq, he, hl => by
    have hi := hl i (by simp)
    obtain ⟨s, hs, e1, f⟩ := hu.rep q hq
    obtain ⟨h1, h2⟩ := al_fix ok h ha hs (by unfold Al; rw [he, e1]) i hi
    simp only [tellF, h1, (f i hi).1]
    have h3 := (f i hi).2
    unfold Al at h2
    rw [tell_least ok h hu l (nx t a i) (nx u q i) (ok.nx_lt ha hi) (hu.ok.nx_lt hq (by rw [hu.wide]; exact hi)) (by rw [h2, h3]) fun c hc => hl c (by simp [hc])]

theorem not_al {t : Tab} (ok : Ok t) {d a b : Nat} (ha : a < t.n) (hb : b < t.n) (h1 : Al t d a b) (h2 : ¬ Al t (d + 1) a b) : ∃ c, c < wd t ∧ hitF t (d + 1) a b c = true := by
  apply Classical.byContradiction
  intro hc
  apply h2
  refine (al_succ ok ha hb).2 ⟨h1, fun c hcw => ?_⟩
  have hno : ¬ hitF t (d + 1) a b c = true := fun e => hc ⟨c, hcw, e⟩
  unfold hitF at hno
  cases d with
  | zero =>
    simp at hno
    exact ⟨hno, al_zero (ok.nx_lt ha hcw) (ok.nx_lt hb hcw)⟩
  | succ d =>
    rw [if_neg (by omega)] at hno
    simp only [Nat.add_sub_cancel, bne_iff_ne, ne_eq, Classical.not_not] at hno
    exact ⟨(((al_succ ok ha hb).1 h1).2 c hcw).1, hno⟩

/-- The first one that fits. -/
theorem first_below {p : Nat → Bool} : ∀ {n : Nat}, (∃ c, c < n ∧ p c = true) → ∃ i, i < n ∧ p i = true ∧ ∀ j, j < i → p j = false
  | 0, ⟨c, hc, _⟩ => by omega
  | n + 1, h => by
    by_cases hx : ∃ c, c < n ∧ p c = true
    · obtain ⟨i, hi, r⟩ := first_below hx
      exact ⟨i, by omega, r⟩
    · obtain ⟨c, hc, hp⟩ := h
      have hcn : c = n := by
        apply Classical.byContradiction
        intro hne
        exact hx ⟨c, by omega, hp⟩
      subst hcn
      exact ⟨c, by omega, hp, fun j hj => by
        cases hpj : p j with
        | false => rfl
        | true => exact absurd ⟨j, hj, hpj⟩ hx⟩

/-- The inputs that are told part two states, at the last one alone. -/
theorem part_tells {t : Tab} (ok : Ok t) : ∀ (d a b : Nat), a < t.n → b < t.n → Al t d a b → ¬ Al t (d + 1) a b →
    ∃ L : List Nat, partF t (d + 1) a b = L.map (fun (c : Nat) => (c : Int)) ∧ L.length = d + 1 ∧ (∀ c ∈ L, c < wd t) ∧ ∃ pre x y, tellF t a L = pre ++ [x] ∧ tellF t b L = pre ++ [y] ∧ x ≠ y ∧ pre.length = d
  | 0, a, b, ha, hb, h1, h2 => by
    obtain ⟨i, hi, hp, hn⟩ := first_below (not_al ok ha hb h1 h2)
    refine ⟨[i], by rw [partF_hit hi hp hn]; rfl, rfl, by simpa using hi, [], te t a i, te t b i, rfl, rfl, ?_, rfl⟩
    simpa [hitF] using hp
  | d + 1, a, b, ha, hb, h1, h2 => by
    obtain ⟨i, hi, hp, hn⟩ := first_below (not_al ok ha hb h1 h2)
    have hh := ((al_succ ok ha hb).1 h1).2 i hi
    have hna : ¬ Al t (d + 1) (nx t a i) (nx t b i) := by
      unfold hitF at hp
      rw [if_neg (by omega)] at hp
      simp only [Nat.add_sub_cancel, bne_iff_ne, ne_eq] at hp
      exact hp
    obtain ⟨L, e1, e2, e3, pre, x, y, e4, e5, e6, e7⟩ := part_tells ok d _ _ (ok.nx_lt ha hi) (ok.nx_lt hb hi) hh.2 hna
    refine ⟨i :: L, by rw [partF_hit hi hp hn, e1]; rfl, by simp [e2], ?_, te t a i :: pre, x, y, by simp [tellF, e4], by simp [tellF, e5, hh.1], e6, by simp [e7]⟩
    intro c hc
    rcases List.mem_cons.1 hc with rfl | hc
    · exact hi
    · exact e3 c hc

theorem apart_iff {t : Tab} {a b m : Nat} : apartF a b (iter t m) = true ↔ ¬ Al t m a b := by simp [apartF, Al]

theorem idx_same {t : Tab} (ok : Ok t) {k a b : Nat} (ha : a < t.n) (hb : b < t.n) (h : Al t k a b) : idx (apartF a b) (rndF t k) < 0 := by
  rw [idx_miss]
  · omega
  · intro i hi
    rw [rndF_get]
    rw [rndF_len] at hi
    cases he : apartF a b (iter t i) with
    | false => rfl
    | true => exact absurd (al_down ok ha hb (k - i) (by rwa [show i + (k - i) = k by omega])) (apart_iff.1 he)
theorem idx_apart {t : Tab} {k a b : Nat} (ok : Ok t) (ha : a < t.n) (hb : b < t.n) (h : ¬ Al t k a b) : ∃ d, d + 1 ≤ k ∧ idx (apartF a b) (rndF t k) = ((d + 1 : Nat) : Int) ∧ Al t d a b ∧ ¬ Al t (d + 1) a b := by
  obtain ⟨d, hd, h1, h2⟩ := first_such (fun m => ¬ Al t m a b) k ⟨k, Nat.le_refl _, h⟩
  cases d with
  | zero => exact absurd (al_zero ha hb) h1
  | succ d =>
    refine ⟨d, hd, ?_, Classical.not_not.1 (h2 d (by omega)), h1⟩
    have hlen := rndF_len t k
    refine idx_hit (by omega) ?_ ?_
    · rw [rndF_get]
      exact apart_iff.2 h1
    · intro i hi
      rw [rndF_get]
      cases he : apartF a b (iter t i) with
      | false => rfl
      | true => exact absurd (apart_iff.1 he) (h2 i hi)
end Go.Proofs.YtoikggboakojlaaDoor
