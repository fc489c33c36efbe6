/-
  Texts that belong together, in one file: Ty, F2.
-/
import Derived.Test.YtfehigldhedkgaaGreatDoorEs5
import Derived.Test.YtfehigldhedkgaaGreatDoorProg
/-
  What the types of this seat's translation are: closed facts, by program (wip/tools/gen_ty.py).
-/
namespace Go.Proofs.YtfehigldhedkgaaGreatDoor
open Go.Av
@[simp] theorem ty0 : tyOf Tryz.prog 0 = some ⟨.tuple #[], 1, 0, .tuple #[]⟩ := by kernel_rfl
@[simp] theorem ty1 : tyOf Tryz.prog 1 = some ⟨.func #[] #[] false, 1, 8, .nilFunc⟩ := by kernel_rfl
@[simp] theorem ty2 : tyOf Tryz.prog 2 = some ⟨.int .i64, 1, 8, .int .i64 0⟩ := by kernel_rfl
@[simp] theorem ty3 : tyOf Tryz.prog 3 = some ⟨.int .i64, 1, 8, .int .i64 0⟩ := by kernel_rfl
@[simp] theorem ty4 : tyOf Tryz.prog 4 = some ⟨.bool, 1, 1, .bool false⟩ := by kernel_rfl
@[simp] theorem ty5 : tyOf Tryz.prog 5 = some ⟨.int .u8, 1, 1, .int .u8 0⟩ := by kernel_rfl
@[simp] theorem ty7 : tyOf Tryz.prog 7 = some ⟨.struct #[{ name := "x", type := 2, offset := 0, embedded := false, tag := "", pkgPath := "runtime", byteOffset := 0 }, { name := "y", type := 3, offset := 1, embedded := false, tag := "", pkgPath := "runtime", byteOffset := 8 }, { name := "signed", type := 4, offset := 2, embedded := false, tag := "", pkgPath := "runtime", byteOffset := 16 }, { name := "code", type := 6, offset := 3, embedded := false, tag := "", pkgPath := "runtime", byteOffset := 17 }], 4, 24, .agg #[.int .i64 0, .int .i64 0, .bool false, .int .u8 0]⟩ := by kernel_rfl
@[simp] theorem ty9 : tyOf Tryz.prog 9 = some ⟨.string, 1, 16, .string ⟨#[]⟩⟩ := by kernel_rfl
@[simp] theorem ty12 : tyOf Tryz.prog 12 = some ⟨.int .u64, 1, 8, .int .u64 0⟩ := by kernel_rfl
@[simp] theorem ty13 : tyOf Tryz.prog 13 = some ⟨.struct #[{ name := "msg", type := 9, offset := 0, embedded := false, tag := "", pkgPath := "runtime", byteOffset := 0 }, { name := "addr", type := 12, offset := 1, embedded := false, tag := "", pkgPath := "runtime", byteOffset := 16 }], 2, 24, .agg #[.string ⟨#[]⟩, .int .u64 0]⟩ := by kernel_rfl
@[simp] theorem ty15 : tyOf Tryz.prog 15 = some ⟨.pointer 143, 1, 8, .pointer none⟩ := by kernel_rfl
@[simp] theorem ty16 : tyOf Tryz.prog 16 = some ⟨.pointer 146, 1, 8, .pointer none⟩ := by kernel_rfl
@[simp] theorem ty17 : tyOf Tryz.prog 17 = some ⟨.pointer 154, 1, 8, .pointer none⟩ := by kernel_rfl
@[simp] theorem ty18 : tyOf Tryz.prog 18 = some ⟨.struct #[{ name := "typ", type := 17, offset := 0, embedded := false, tag := "", pkgPath := "internal/runtime/maps", byteOffset := 0 }], 1, 8, .agg #[.pointer none]⟩ := by kernel_rfl
@[simp] theorem ty20 : tyOf Tryz.prog 20 = some ⟨.interface #[], 1, 16, .nilIface⟩ := by kernel_rfl
@[simp] theorem ty21 : tyOf Tryz.prog 21 = some ⟨.int .i32, 1, 4, .int .i32 0⟩ := by kernel_rfl
@[simp] theorem ty22 : tyOf Tryz.prog 22 = some ⟨.slice 9, 1, 24, .slice none 0 0⟩ := by kernel_rfl
@[simp] theorem ty23 : tyOf Tryz.prog 23 = some ⟨.interface #[("Text", 94)], 1, 16, .nilIface⟩ := by kernel_rfl
@[simp] theorem ty24 : tyOf Tryz.prog 24 = some ⟨.interface #[("Text", 94)], 1, 16, .nilIface⟩ := by kernel_rfl
@[simp] theorem ty25 : tyOf Tryz.prog 25 = some ⟨.pointer 61, 1, 8, .pointer none⟩ := by kernel_rfl
@[simp] theorem ty26 : tyOf Tryz.prog 26 = some ⟨.tuple #[24, 25, 4], 1, 0, .tuple #[.nilIface, .pointer none, .bool false]⟩ := by kernel_rfl
@[simp] theorem ty27 : tyOf Tryz.prog 27 = some ⟨.func #[9] #[24, 25, 4] false, 1, 8, .nilFunc⟩ := by kernel_rfl
@[simp] theorem ty28 : tyOf Tryz.prog 28 = some ⟨.func #[9] #[4] false, 1, 8, .nilFunc⟩ := by kernel_rfl
@[simp] theorem ty29 : tyOf Tryz.prog 29 = some ⟨.func #[22] #[28] false, 1, 8, .nilFunc⟩ := by kernel_rfl
@[simp] theorem ty30 : tyOf Tryz.prog 30 = some ⟨.func #[24, 28, 28] #[4] false, 1, 8, .nilFunc⟩ := by kernel_rfl
@[simp] theorem ty31 : tyOf Tryz.prog 31 = some ⟨.func #[28, 28] #[4] false, 1, 8, .nilFunc⟩ := by kernel_rfl
@[simp] theorem ty32 : tyOf Tryz.prog 32 = some ⟨.func #[22, 22] #[4] false, 1, 8, .nilFunc⟩ := by kernel_rfl
@[simp] theorem ty33 : tyOf Tryz.prog 33 = some ⟨.func #[24] #[22] false, 1, 8, .nilFunc⟩ := by kernel_rfl
@[simp] theorem ty34 : tyOf Tryz.prog 34 = some ⟨.func #[] #[22] false, 1, 8, .nilFunc⟩ := by kernel_rfl
@[simp] theorem ty35 : tyOf Tryz.prog 35 = some ⟨.func #[24] #[3] false, 1, 8, .nilFunc⟩ := by kernel_rfl
@[simp] theorem ty36 : tyOf Tryz.prog 36 = some ⟨.func #[] #[3] false, 1, 8, .nilFunc⟩ := by kernel_rfl
@[simp] theorem ty37 : tyOf Tryz.prog 37 = some ⟨.func #[9, 22, 22] #[4] false, 1, 8, .nilFunc⟩ := by kernel_rfl
@[simp] theorem ty38 : tyOf Tryz.prog 38 = some ⟨.int .i64, 1, 8, .int .i64 0⟩ := by kernel_rfl
@[simp] theorem ty39 : tyOf Tryz.prog 39 = some ⟨.struct #[{ name := "Err", type := 38, offset := 0, embedded := false, tag := "", pkgPath := "", byteOffset := 0 }, { name := "Place", type := 3, offset := 1, embedded := false, tag := "", pkgPath := "", byteOffset := 8 }], 2, 16, .agg #[.int .i64 0, .int .i64 0]⟩ := by kernel_rfl
@[simp] theorem ty40 : tyOf Tryz.prog 40 = some ⟨.struct #[{ name := "Err", type := 38, offset := 0, embedded := false, tag := "", pkgPath := "", byteOffset := 0 }, { name := "Place", type := 3, offset := 1, embedded := false, tag := "", pkgPath := "", byteOffset := 8 }], 2, 16, .agg #[.int .i64 0, .int .i64 0]⟩ := by kernel_rfl
@[simp] theorem ty41 : tyOf Tryz.prog 41 = some ⟨.tuple #[25, 40], 1, 0, .tuple #[.pointer none, .agg #[.int .i64 0, .int .i64 0]]⟩ := by kernel_rfl
@[simp] theorem ty42 : tyOf Tryz.prog 42 = some ⟨.func #[9] #[25, 40] false, 1, 8, .nilFunc⟩ := by kernel_rfl
@[simp] theorem ty43 : tyOf Tryz.prog 43 = some ⟨.interface #[("Error", 94)], 1, 16, .nilIface⟩ := by kernel_rfl
@[simp] theorem ty44 : tyOf Tryz.prog 44 = some ⟨.interface #[("Error", 94)], 1, 16, .nilIface⟩ := by kernel_rfl
@[simp] theorem ty45 : tyOf Tryz.prog 45 = some ⟨.tuple #[24, 44], 1, 0, .tuple #[.nilIface, .nilIface]⟩ := by kernel_rfl
@[simp] theorem ty46 : tyOf Tryz.prog 46 = some ⟨.func #[9] #[24, 44] false, 1, 8, .nilFunc⟩ := by kernel_rfl
@[simp] theorem ty47 : tyOf Tryz.prog 47 = some ⟨.bool, 1, 1, .bool false⟩ := by kernel_rfl
@[simp] theorem ty48 : tyOf Tryz.prog 48 = some ⟨.string, 1, 16, .string ⟨#[]⟩⟩ := by kernel_rfl
@[simp] theorem ty49 : tyOf Tryz.prog 49 = some ⟨.string, 1, 16, .string ⟨#[]⟩⟩ := by kernel_rfl
@[simp] theorem ty50 : tyOf Tryz.prog 50 = some ⟨.string, 1, 16, .string ⟨#[]⟩⟩ := by kernel_rfl
@[simp] theorem ty51 : tyOf Tryz.prog 51 = some ⟨.struct #[{ name := "Of", type := 24, offset := 0, embedded := false, tag := "", pkgPath := "", byteOffset := 0 }], 1, 16, .agg #[.nilIface]⟩ := by kernel_rfl
@[simp] theorem ty52 : tyOf Tryz.prog 52 = some ⟨.struct #[{ name := "Of", type := 24, offset := 0, embedded := false, tag := "", pkgPath := "", byteOffset := 0 }], 1, 16, .agg #[.nilIface]⟩ := by kernel_rfl
@[simp] theorem ty53 : tyOf Tryz.prog 53 = some ⟨.slice 24, 1, 24, .slice none 0 0⟩ := by kernel_rfl
@[simp] theorem ty54 : tyOf Tryz.prog 54 = some ⟨.slice 24, 1, 24, .slice none 0 0⟩ := by kernel_rfl
@[simp] theorem ty55 : tyOf Tryz.prog 55 = some ⟨.func #[54, 56] #[4] false, 1, 8, .nilFunc⟩ := by kernel_rfl
@[simp] theorem ty56 : tyOf Tryz.prog 56 = some ⟨.func #[24] #[4] false, 1, 8, .nilFunc⟩ := by kernel_rfl
@[simp] theorem ty57 : tyOf Tryz.prog 57 = some ⟨.slice 24, 1, 24, .slice none 0 0⟩ := by kernel_rfl
@[simp] theorem ty58 : tyOf Tryz.prog 58 = some ⟨.func #[57, 56] #[4] false, 1, 8, .nilFunc⟩ := by kernel_rfl
@[simp] theorem ty59 : tyOf Tryz.prog 59 = some ⟨.slice 25, 1, 24, .slice none 0 0⟩ := by kernel_rfl
@[simp] theorem ty60 : tyOf Tryz.prog 60 = some ⟨.struct #[{ name := "Kind", type := 9, offset := 0, embedded := false, tag := "", pkgPath := "", byteOffset := 0 }, { name := "Name", type := 9, offset := 1, embedded := false, tag := "", pkgPath := "", byteOffset := 16 }, { name := "Of", type := 59, offset := 2, embedded := false, tag := "", pkgPath := "", byteOffset := 32 }], 3, 56, .agg #[.string ⟨#[]⟩, .string ⟨#[]⟩, .slice none 0 0]⟩ := by kernel_rfl
@[simp] theorem ty61 : tyOf Tryz.prog 61 = some ⟨.struct #[{ name := "Kind", type := 9, offset := 0, embedded := false, tag := "", pkgPath := "", byteOffset := 0 }, { name := "Name", type := 9, offset := 1, embedded := false, tag := "", pkgPath := "", byteOffset := 16 }, { name := "Of", type := 59, offset := 2, embedded := false, tag := "", pkgPath := "", byteOffset := 32 }], 3, 56, .agg #[.string ⟨#[]⟩, .string ⟨#[]⟩, .slice none 0 0]⟩ := by kernel_rfl
@[simp] theorem ty62 : tyOf Tryz.prog 62 = some ⟨.func #[24, 63] #[22] false, 1, 8, .nilFunc⟩ := by kernel_rfl
@[simp] theorem ty63 : tyOf Tryz.prog 63 = some ⟨.func #[24] #[9] false, 1, 8, .nilFunc⟩ := by kernel_rfl
@[simp] theorem ty64 : tyOf Tryz.prog 64 = some ⟨.func #[9] #[22] false, 1, 8, .nilFunc⟩ := by kernel_rfl
@[simp] theorem ty65 : tyOf Tryz.prog 65 = some ⟨.func #[24, 66] #[] false, 1, 8, .nilFunc⟩ := by kernel_rfl
@[simp] theorem ty66 : tyOf Tryz.prog 66 = some ⟨.func #[24] #[] false, 1, 8, .nilFunc⟩ := by kernel_rfl
@[simp] theorem ty67 : tyOf Tryz.prog 67 = some ⟨.func #[38] #[40] false, 1, 8, .nilFunc⟩ := by kernel_rfl
@[simp] theorem ty68 : tyOf Tryz.prog 68 = some ⟨.pointer 70, 1, 8, .pointer none⟩ := by kernel_rfl
@[simp] theorem ty69 : tyOf Tryz.prog 69 = some ⟨.struct #[{ name := "s", type := 9, offset := 0, embedded := false, tag := "", pkgPath := "signalcabin/signalcabinref", byteOffset := 0 }, { name := "i", type := 3, offset := 1, embedded := false, tag := "", pkgPath := "signalcabin/signalcabinref", byteOffset := 16 }, { name := "f", type := 40, offset := 2, embedded := false, tag := "", pkgPath := "signalcabin/signalcabinref", byteOffset := 24 }], 4, 40, .agg #[.string ⟨#[]⟩, .int .i64 0, .int .i64 0, .int .i64 0]⟩ := by kernel_rfl
@[simp] theorem ty70 : tyOf Tryz.prog 70 = some ⟨.struct #[{ name := "s", type := 9, offset := 0, embedded := false, tag := "", pkgPath := "signalcabin/signalcabinref", byteOffset := 0 }, { name := "i", type := 3, offset := 1, embedded := false, tag := "", pkgPath := "signalcabin/signalcabinref", byteOffset := 16 }, { name := "f", type := 40, offset := 2, embedded := false, tag := "", pkgPath := "signalcabin/signalcabinref", byteOffset := 24 }], 4, 40, .agg #[.string ⟨#[]⟩, .int .i64 0, .int .i64 0, .int .i64 0]⟩ := by kernel_rfl
@[simp] theorem ty71 : tyOf Tryz.prog 71 = some ⟨.func #[3] #[25] false, 1, 8, .nilFunc⟩ := by kernel_rfl
@[simp] theorem ty72 : tyOf Tryz.prog 72 = some ⟨.func #[] #[5] false, 1, 8, .nilFunc⟩ := by kernel_rfl
@[simp] theorem ty73 : tyOf Tryz.prog 73 = some ⟨.func #[38] #[25] false, 1, 8, .nilFunc⟩ := by kernel_rfl
@[simp] theorem ty74 : tyOf Tryz.prog 74 = some ⟨.pointer 76, 1, 8, .pointer none⟩ := by kernel_rfl
@[simp] theorem ty75 : tyOf Tryz.prog 75 = some ⟨.struct #[{ name := "text", type := 9, offset := 0, embedded := false, tag := "", pkgPath := "signalcabin/expr", byteOffset := 0 }, { name := "at", type := 3, offset := 1, embedded := false, tag := "", pkgPath := "signalcabin/expr", byteOffset := 16 }], 2, 24, .agg #[.string ⟨#[]⟩, .int .i64 0]⟩ := by kernel_rfl
@[simp] theorem ty76 : tyOf Tryz.prog 76 = some ⟨.struct #[{ name := "text", type := 9, offset := 0, embedded := false, tag := "", pkgPath := "signalcabin/expr", byteOffset := 0 }, { name := "at", type := 3, offset := 1, embedded := false, tag := "", pkgPath := "signalcabin/expr", byteOffset := 16 }], 2, 24, .agg #[.string ⟨#[]⟩, .int .i64 0]⟩ := by kernel_rfl
@[simp] theorem ty77 : tyOf Tryz.prog 77 = some ⟨.func #[3] #[24, 44] false, 1, 8, .nilFunc⟩ := by kernel_rfl
@[simp] theorem ty78 : tyOf Tryz.prog 78 = some ⟨.func #[38] #[44] false, 1, 8, .nilFunc⟩ := by kernel_rfl
@[simp] theorem ty79 : tyOf Tryz.prog 79 = some ⟨.func #[54, 56] #[3] false, 1, 8, .nilFunc⟩ := by kernel_rfl
@[simp] theorem ty80 : tyOf Tryz.prog 80 = some ⟨.func #[57, 56] #[3] false, 1, 8, .nilFunc⟩ := by kernel_rfl
@[simp] theorem ty81 : tyOf Tryz.prog 81 = some ⟨.func #[22] #[] false, 1, 8, .nilFunc⟩ := by kernel_rfl
@[simp] theorem ty82 : tyOf Tryz.prog 82 = some ⟨.func #[22] #[22] false, 1, 8, .nilFunc⟩ := by kernel_rfl
@[simp] theorem ty83 : tyOf Tryz.prog 83 = some ⟨.func #[25] #[] false, 1, 8, .nilFunc⟩ := by kernel_rfl
@[simp] theorem ty84 : tyOf Tryz.prog 84 = some ⟨.func #[9, 9] #[4] false, 1, 8, .nilFunc⟩ := by kernel_rfl
@[simp] theorem ty85 : tyOf Tryz.prog 85 = some ⟨.func #[5, 3, 71] #[25] false, 1, 8, .nilFunc⟩ := by kernel_rfl
@[simp] theorem ty86 : tyOf Tryz.prog 86 = some ⟨.tuple #[53, 44], 1, 0, .tuple #[.slice none 0 0, .nilIface]⟩ := by kernel_rfl
@[simp] theorem ty87 : tyOf Tryz.prog 87 = some ⟨.func #[5, 3, 77] #[53, 44] false, 1, 8, .nilFunc⟩ := by kernel_rfl
@[simp] theorem ty88 : tyOf Tryz.prog 88 = some ⟨.pointer 89, 1, 8, .pointer none⟩ := by kernel_rfl
@[simp] theorem ty89 : tyOf Tryz.prog 89 = some ⟨.struct #[{ name := "Err", type := 38, offset := 0, embedded := false, tag := "", pkgPath := "", byteOffset := 0 }, { name := "Place", type := 3, offset := 1, embedded := false, tag := "", pkgPath := "", byteOffset := 8 }], 2, 16, .agg #[.int .i64 0, .int .i64 0]⟩ := by kernel_rfl
@[simp] theorem ty90 : tyOf Tryz.prog 90 = some ⟨.func #[22, 3, 3, 3] #[] false, 1, 8, .nilFunc⟩ := by kernel_rfl
@[simp] theorem ty91 : tyOf Tryz.prog 91 = some ⟨.func #[92] #[3] false, 1, 8, .nilFunc⟩ := by kernel_rfl
@[simp] theorem ty92 : tyOf Tryz.prog 92 = some ⟨.int .u64, 1, 8, .int .u64 0⟩ := by kernel_rfl
@[simp] theorem ty93 : tyOf Tryz.prog 93 = some ⟨.func #[9, 9] #[3] false, 1, 8, .nilFunc⟩ := by kernel_rfl
@[simp] theorem ty94 : tyOf Tryz.prog 94 = some ⟨.func #[] #[9] false, 1, 8, .nilFunc⟩ := by kernel_rfl
@[simp] theorem ty95 : tyOf Tryz.prog 95 = some ⟨.func #[5] #[4] false, 1, 8, .nilFunc⟩ := by kernel_rfl
@[simp] theorem ty96 : tyOf Tryz.prog 96 = some ⟨.func #[22, 3, 3] #[] false, 1, 8, .nilFunc⟩ := by kernel_rfl
@[simp] theorem ty97 : tyOf Tryz.prog 97 = some ⟨.int .i64, 1, 8, .int .i64 0⟩ := by kernel_rfl
@[simp] theorem ty98 : tyOf Tryz.prog 98 = some ⟨.tuple #[3, 97], 1, 0, .tuple #[.int .i64 0, .int .i64 0]⟩ := by kernel_rfl
@[simp] theorem ty99 : tyOf Tryz.prog 99 = some ⟨.func #[22, 3, 3] #[3, 97] false, 1, 8, .nilFunc⟩ := by kernel_rfl
@[simp] theorem ty100 : tyOf Tryz.prog 100 = some ⟨.func #[22, 3, 3] #[4] false, 1, 8, .nilFunc⟩ := by kernel_rfl
@[simp] theorem ty101 : tyOf Tryz.prog 101 = some ⟨.func #[22, 3, 3, 3] #[3] false, 1, 8, .nilFunc⟩ := by kernel_rfl
@[simp] theorem ty102 : tyOf Tryz.prog 102 = some ⟨.tuple #[3, 4], 1, 0, .tuple #[.int .i64 0, .bool false]⟩ := by kernel_rfl
@[simp] theorem ty103 : tyOf Tryz.prog 103 = some ⟨.func #[22, 3, 3, 3] #[3, 4] false, 1, 8, .nilFunc⟩ := by kernel_rfl
@[simp] theorem ty104 : tyOf Tryz.prog 104 = some ⟨.func #[105] #[3] false, 1, 8, .nilFunc⟩ := by kernel_rfl
@[simp] theorem ty105 : tyOf Tryz.prog 105 = some ⟨.int .u32, 1, 4, .int .u32 0⟩ := by kernel_rfl
@[simp] theorem ty106 : tyOf Tryz.prog 106 = some ⟨.func #[107] #[3] false, 1, 8, .nilFunc⟩ := by kernel_rfl
@[simp] theorem ty107 : tyOf Tryz.prog 107 = some ⟨.int .u64, 1, 8, .int .u64 0⟩ := by kernel_rfl
@[simp] theorem ty108 : tyOf Tryz.prog 108 = some ⟨.func #[9, 21] #[4] false, 1, 8, .nilFunc⟩ := by kernel_rfl
@[simp] theorem ty109 : tyOf Tryz.prog 109 = some ⟨.tuple #[9, 44], 1, 0, .tuple #[.string ⟨#[]⟩, .nilIface]⟩ := by kernel_rfl
@[simp] theorem ty110 : tyOf Tryz.prog 110 = some ⟨.func #[] #[9, 44] false, 1, 8, .nilFunc⟩ := by kernel_rfl
@[simp] theorem ty111 : tyOf Tryz.prog 111 = some ⟨.int .u64, 1, 8, .int .u64 0⟩ := by kernel_rfl
@[simp] theorem ty112 : tyOf Tryz.prog 112 = some ⟨.func #[3] #[92] false, 1, 8, .nilFunc⟩ := by kernel_rfl
@[simp] theorem ty113 : tyOf Tryz.prog 113 = some ⟨.func #[] #[107] false, 1, 8, .nilFunc⟩ := by kernel_rfl
@[simp] theorem ty114 : tyOf Tryz.prog 114 = some ⟨.func #[22, 3, 115] #[3] false, 1, 8, .nilFunc⟩ := by kernel_rfl
@[simp] theorem ty115 : tyOf Tryz.prog 115 = some ⟨.pointer 3, 1, 8, .pointer none⟩ := by kernel_rfl
@[simp] theorem ty116 : tyOf Tryz.prog 116 = some ⟨.func #[22, 3, 3, 3, 115] #[3] false, 1, 8, .nilFunc⟩ := by kernel_rfl
@[simp] theorem ty117 : tyOf Tryz.prog 117 = some ⟨.func #[9, 5] #[3] false, 1, 8, .nilFunc⟩ := by kernel_rfl
@[simp] theorem ty118 : tyOf Tryz.prog 118 = some ⟨.func #[3] #[3] false, 1, 8, .nilFunc⟩ := by kernel_rfl
@[simp] theorem ty119 : tyOf Tryz.prog 119 = some ⟨.func #[9, 21] #[3] false, 1, 8, .nilFunc⟩ := by kernel_rfl
@[simp] theorem ty120 : tyOf Tryz.prog 120 = some ⟨.pointer 111, 1, 8, .pointer none⟩ := by kernel_rfl
@[simp] theorem ty121 : tyOf Tryz.prog 121 = some ⟨.tuple #[3, 3], 1, 0, .tuple #[.int .i64 0, .int .i64 0]⟩ := by kernel_rfl
@[simp] theorem ty122 : tyOf Tryz.prog 122 = some ⟨.func #[22, 3, 3, 115] #[3, 3] false, 1, 8, .nilFunc⟩ := by kernel_rfl
@[simp] theorem ty123 : tyOf Tryz.prog 123 = some ⟨.tuple #[105, 105], 1, 0, .tuple #[.int .u32 0, .int .u32 0]⟩ := by kernel_rfl
@[simp] theorem ty124 : tyOf Tryz.prog 124 = some ⟨.func #[9] #[105, 105] false, 1, 8, .nilFunc⟩ := by kernel_rfl
@[simp] theorem ty125 : tyOf Tryz.prog 125 = some ⟨.func #[21] #[4] false, 1, 8, .nilFunc⟩ := by kernel_rfl
@[simp] theorem ty126 : tyOf Tryz.prog 126 = some ⟨.func #[9, 9] #[9] false, 1, 8, .nilFunc⟩ := by kernel_rfl
@[simp] theorem ty127 : tyOf Tryz.prog 127 = some ⟨.func #[22, 9] #[4] false, 1, 8, .nilFunc⟩ := by kernel_rfl
@[simp] theorem ty128 : tyOf Tryz.prog 128 = some ⟨.func #[9, 5] #[9] false, 1, 8, .nilFunc⟩ := by kernel_rfl
@[simp] theorem ty131 : tyOf Tryz.prog 131 = some ⟨.tuple #[130, 4], 1, 0, .tuple #[.agg #[.bool false, .bool false, .bool false, .bool false, .bool false, .bool false, .bool false, .bool false, .bool false, .bool false, .bool false, .bool false, .bool false, .bool false, .bool false, .bool false, .bool false, .bool false, .bool false, .bool false, .bool false, .bool false, .bool false, .bool false, .bool false, .bool false, .bool false, .bool false, .bool false, .bool false, .bool false, .bool false, .bool false, .bool false, .bool false, .bool false, .bool false, .bool false, .bool false, .bool false, .bool false, .bool false, .bool false, .bool false, .bool false, .bool false, .bool false, .bool false, .bool false, .bool false, .bool false, .bool false, .bool false, .bool false, .bool false, .bool false, .bool false, .bool false, .bool false, .bool false, .bool false, .bool false, .bool false, .bool false, .bool false, .bool false, .bool false, .bool false, .bool false, .bool false, .bool false, .bool false, .bool false, .bool false, .bool false, .bool false, .bool false, .bool false, .bool false, .bool false, .bool false, .bool false, .bool false, .bool false, .bool false, .bool false, .bool false, .bool false, .bool false, .bool false, .bool false, .bool false, .bool false, .bool false, .bool false, .bool false, .bool false, .bool false, .bool false, .bool false, .bool false, .bool false, .bool false, .bool false, .bool false, .bool false, .bool false, .bool false, .bool false, .bool false, .bool false, .bool false, .bool false, .bool false, .bool false, .bool false, .bool false, .bool false, .bool false, .bool false, .bool false, .bool false, .bool false, .bool false, .bool false, .bool false, .bool false, .bool false, .bool false, .bool false, .bool false, .bool false, .bool false, .bool false, .bool false, .bool false, .bool false, .bool false, .bool false, .bool false, .bool false, .bool false, .bool false, .bool false, .bool false, .bool false, .bool false, .bool false, .bool false, .bool false, .bool false, .bool false, .bool false, .bool false, .bool false, .bool false, .bool false, .bool false, .bool false, .bool false, .bool false, .bool false, .bool false, .bool false, .bool false, .bool false, .bool false, .bool false, .bool false, .bool false, .bool false, .bool false, .bool false, .bool false, .bool false, .bool false, .bool false, .bool false, .bool false, .bool false, .bool false, .bool false, .bool false, .bool false, .bool false, .bool false, .bool false, .bool false, .bool false, .bool false, .bool false, .bool false, .bool false, .bool false, .bool false, .bool false, .bool false, .bool false, .bool false, .bool false, .bool false, .bool false, .bool false, .bool false, .bool false, .bool false, .bool false, .bool false, .bool false, .bool false, .bool false, .bool false, .bool false, .bool false, .bool false, .bool false, .bool false, .bool false, .bool false, .bool false, .bool false, .bool false, .bool false, .bool false, .bool false, .bool false, .bool false, .bool false, .bool false, .bool false, .bool false, .bool false, .bool false, .bool false, .bool false, .bool false, .bool false, .bool false, .bool false, .bool false, .bool false, .bool false, .bool false, .bool false, .bool false, .bool false, .bool false, .bool false, .bool false, .bool false, .bool false, .bool false, .bool false, .bool false, .bool false, .bool false], .bool false]⟩ := by kernel_rfl
@[simp] theorem ty132 : tyOf Tryz.prog 132 = some ⟨.func #[9] #[130, 4] false, 1, 8, .nilFunc⟩ := by kernel_rfl
@[simp] theorem ty133 : tyOf Tryz.prog 133 = some ⟨.func #[9, 134] #[9] false, 1, 8, .nilFunc⟩ := by kernel_rfl
@[simp] theorem ty134 : tyOf Tryz.prog 134 = some ⟨.pointer 130, 1, 8, .pointer none⟩ := by kernel_rfl
@[simp] theorem ty135 : tyOf Tryz.prog 135 = some ⟨.func #[22, 9] #[3] false, 1, 8, .nilFunc⟩ := by kernel_rfl
@[simp] theorem ty136 : tyOf Tryz.prog 136 = some ⟨.tuple #[21, 3], 1, 0, .tuple #[.int .i32 0, .int .i64 0]⟩ := by kernel_rfl
@[simp] theorem ty137 : tyOf Tryz.prog 137 = some ⟨.func #[9] #[21, 3] false, 1, 8, .nilFunc⟩ := by kernel_rfl
@[simp] theorem ty139 : tyOf Tryz.prog 139 = some ⟨.struct #[{ name := "lo", type := 5, offset := 0, embedded := false, tag := "", pkgPath := "unicode/utf8", byteOffset := 0 }, { name := "hi", type := 5, offset := 1, embedded := false, tag := "", pkgPath := "unicode/utf8", byteOffset := 1 }], 2, 2, .agg #[.int .u8 0, .int .u8 0]⟩ := by kernel_rfl
@[simp] theorem ty140 : tyOf Tryz.prog 140 = some ⟨.struct #[{ name := "lo", type := 5, offset := 0, embedded := false, tag := "", pkgPath := "unicode/utf8", byteOffset := 0 }, { name := "hi", type := 5, offset := 1, embedded := false, tag := "", pkgPath := "unicode/utf8", byteOffset := 1 }], 2, 2, .agg #[.int .u8 0, .int .u8 0]⟩ := by kernel_rfl
@[simp] theorem ty141 : tyOf Tryz.prog 141 = some ⟨.array 16 140, 32, 32, .agg #[.int .u8 0, .int .u8 0, .int .u8 0, .int .u8 0, .int .u8 0, .int .u8 0, .int .u8 0, .int .u8 0, .int .u8 0, .int .u8 0, .int .u8 0, .int .u8 0, .int .u8 0, .int .u8 0, .int .u8 0, .int .u8 0, .int .u8 0, .int .u8 0, .int .u8 0, .int .u8 0, .int .u8 0, .int .u8 0, .int .u8 0, .int .u8 0, .int .u8 0, .int .u8 0, .int .u8 0, .int .u8 0, .int .u8 0, .int .u8 0, .int .u8 0, .int .u8 0]⟩ := by kernel_rfl
@[simp] theorem ty142 : tyOf Tryz.prog 142 = some ⟨.struct #[{ name := "_interface", type := 17, offset := 0, embedded := false, tag := "", pkgPath := "runtime", byteOffset := 0 }, { name := "concrete", type := 17, offset := 1, embedded := false, tag := "", pkgPath := "runtime", byteOffset := 8 }, { name := "asserted", type := 17, offset := 2, embedded := false, tag := "", pkgPath := "runtime", byteOffset := 16 }, { name := "missingMethod", type := 9, offset := 3, embedded := false, tag := "", pkgPath := "runtime", byteOffset := 24 }], 4, 40, .agg #[.pointer none, .pointer none, .pointer none, .string ⟨#[]⟩]⟩ := by kernel_rfl
@[simp] theorem ty144 : tyOf Tryz.prog 144 = some ⟨.array 0 16, 0, 0, .agg #[]⟩ := by kernel_rfl
@[simp] theorem ty145 : tyOf Tryz.prog 145 = some ⟨.struct #[{ name := "_", type := 144, offset := 0, embedded := false, tag := "", pkgPath := "runtime", byteOffset := 0 }], 0, 0, .agg #[]⟩ := by kernel_rfl
@[simp] theorem ty149 : tyOf Tryz.prog 149 = some ⟨.func #[155, 155] #[4] false, 1, 8, .nilFunc⟩ := by kernel_rfl
@[simp] theorem ty150 : tyOf Tryz.prog 150 = some ⟨.pointer 5, 1, 8, .pointer none⟩ := by kernel_rfl
@[simp] theorem ty153 : tyOf Tryz.prog 153 = some ⟨.struct #[{ name := "Size_", type := 12, offset := 0, embedded := false, tag := "", pkgPath := "", byteOffset := 0 }, { name := "PtrBytes", type := 12, offset := 1, embedded := false, tag := "", pkgPath := "", byteOffset := 8 }, { name := "Hash", type := 105, offset := 2, embedded := false, tag := "", pkgPath := "", byteOffset := 16 }, { name := "TFlag", type := 147, offset := 3, embedded := false, tag := "", pkgPath := "", byteOffset := 20 }, { name := "Align_", type := 5, offset := 4, embedded := false, tag := "", pkgPath := "", byteOffset := 21 }, { name := "FieldAlign_", type := 5, offset := 5, embedded := false, tag := "", pkgPath := "", byteOffset := 22 }, { name := "Kind_", type := 148, offset := 6, embedded := false, tag := "", pkgPath := "", byteOffset := 23 }, { name := "Equal", type := 149, offset := 7, embedded := false, tag := "", pkgPath := "", byteOffset := 24 }, { name := "GCData", type := 150, offset := 8, embedded := false, tag := "", pkgPath := "", byteOffset := 32 }, { name := "Str", type := 151, offset := 9, embedded := false, tag := "", pkgPath := "", byteOffset := 40 }, { name := "PtrToThis", type := 152, offset := 10, embedded := false, tag := "", pkgPath := "", byteOffset := 44 }], 11, 48, .agg #[.int .u64 0, .int .u64 0, .int .u32 0, .int .u8 0, .int .u8 0, .int .u8 0, .int .u8 0, .nilFunc, .pointer none, .int .i32 0, .int .i32 0]⟩ := by kernel_rfl
end Go.Proofs.YtfehigldhedkgaaGreatDoor

/-
  Searching by a function.
-/
namespace Go.Proofs.YtfehigldhedkgaaGreatDoor
set_option linter.unusedSimpArgs false
set_option linter.unusedVariables false
open Go.Av

/-- Where the first one is that fits, or -1. -/
def idx {α : Type} (p : α → Bool) (l : List α) : Int := match l.findIdx? p with
  | some i => i
  | none => -1

theorem idx_hit {α : Type} {p : α → Bool} {l : List α} {n : Nat} (hn : n < l.length) (h : p l[n] = true) (hb : ∀ i (hi : i < n), p (l[i]'(by omega)) = false) : idx p l = n := by
  unfold idx
  have : l.findIdx? p = some n := by
    rw [List.findIdx?_eq_some_iff_getElem]
    exact ⟨hn, h, fun j hj => by simpa using hb j hj⟩
  rw [this]
theorem idx_miss {α : Type} {p : α → Bool} {l : List α} (hb : ∀ i (hi : i < l.length), p l[i] = false) : idx p l = -1 := by
  unfold idx
  have : l.findIdx? p = none := by
    rw [List.findIdx?_eq_none_iff]
    intro x hx
    obtain ⟨i, hi, rfl⟩ := List.mem_iff_getElem.1 hx
    exact hb i hi
  rw [this]

theorem idx_any {α : Type} (p : α → Bool) (l : List α) : decide (0 ≤ idx p l) = l.any p := by
  unfold idx
  split
  · rename_i i hi
    rw [List.findIdx?_eq_some_iff_getElem] at hi
    obtain ⟨h1, h2, _⟩ := hi
    have : l.any p = true := List.any_eq_true.2 ⟨_, List.getElem_mem h1, h2⟩
    rw [this]; simp
  · rename_i h
    rw [List.findIdx?_eq_none_iff] at h
    have : l.any p = false := by
      rw [List.any_eq_false]
      intro x hx
      simpa using h x hx
    rw [this]; simp

end Go.Proofs.YtfehigldhedkgaaGreatDoor
