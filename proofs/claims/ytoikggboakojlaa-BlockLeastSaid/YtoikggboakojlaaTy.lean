/-
  What the types of this seat's translation are: closed facts, by program (wip/tools/gen_ty.py).
-/
import Derived.Test.YtoikggboakojlaaProg
import Derived.Test.YtoikggboakojlaaAv19
namespace Go.Proofs.Ytoikggboakojlaa
open Go.Av
@[simp] theorem ty0 : tyOf Try.prog 0 = some ⟨.tuple #[], 1, 0, .tuple #[]⟩ := by kernel_rfl
@[simp] theorem ty1 : tyOf Try.prog 1 = some ⟨.func #[] #[] false, 1, 8, .nilFunc⟩ := by kernel_rfl
@[simp] theorem ty2 : tyOf Try.prog 2 = some ⟨.int .i64, 1, 8, .int .i64 0⟩ := by kernel_rfl
@[simp] theorem ty3 : tyOf Try.prog 3 = some ⟨.int .i64, 1, 8, .int .i64 0⟩ := by kernel_rfl
@[simp] theorem ty4 : tyOf Try.prog 4 = some ⟨.bool, 1, 1, .bool false⟩ := by kernel_rfl
@[simp] theorem ty5 : tyOf Try.prog 5 = some ⟨.int .u8, 1, 1, .int .u8 0⟩ := by kernel_rfl
@[simp] theorem ty7 : tyOf Try.prog 7 = some ⟨.struct #[{ name := "x", type := 2, offset := 0, embedded := false, tag := "", pkgPath := "runtime", byteOffset := 0 }, { name := "y", type := 3, offset := 1, embedded := false, tag := "", pkgPath := "runtime", byteOffset := 8 }, { name := "signed", type := 4, offset := 2, embedded := false, tag := "", pkgPath := "runtime", byteOffset := 16 }, { name := "code", type := 6, offset := 3, embedded := false, tag := "", pkgPath := "runtime", byteOffset := 17 }], 4, 24, .agg #[.int .i64 0, .int .i64 0, .bool false, .int .u8 0]⟩ := by kernel_rfl
@[simp] theorem ty9 : tyOf Try.prog 9 = some ⟨.string, 1, 16, .string ⟨#[]⟩⟩ := by kernel_rfl
@[simp] theorem ty12 : tyOf Try.prog 12 = some ⟨.int .u64, 1, 8, .int .u64 0⟩ := by kernel_rfl
@[simp] theorem ty13 : tyOf Try.prog 13 = some ⟨.struct #[{ name := "msg", type := 9, offset := 0, embedded := false, tag := "", pkgPath := "runtime", byteOffset := 0 }, { name := "addr", type := 12, offset := 1, embedded := false, tag := "", pkgPath := "runtime", byteOffset := 16 }], 2, 24, .agg #[.string ⟨#[]⟩, .int .u64 0]⟩ := by kernel_rfl
@[simp] theorem ty15 : tyOf Try.prog 15 = some ⟨.pointer 52, 1, 8, .pointer none⟩ := by kernel_rfl
@[simp] theorem ty16 : tyOf Try.prog 16 = some ⟨.pointer 55, 1, 8, .pointer none⟩ := by kernel_rfl
@[simp] theorem ty17 : tyOf Try.prog 17 = some ⟨.pointer 65, 1, 8, .pointer none⟩ := by kernel_rfl
@[simp] theorem ty18 : tyOf Try.prog 18 = some ⟨.struct #[{ name := "typ", type := 17, offset := 0, embedded := false, tag := "", pkgPath := "internal/runtime/maps", byteOffset := 0 }], 1, 8, .agg #[.pointer none]⟩ := by kernel_rfl
@[simp] theorem ty20 : tyOf Try.prog 20 = some ⟨.interface #[], 1, 16, .nilIface⟩ := by kernel_rfl
@[simp] theorem ty21 : tyOf Try.prog 21 = some ⟨.int .i32, 1, 4, .int .i32 0⟩ := by kernel_rfl
@[simp] theorem ty22 : tyOf Try.prog 22 = some ⟨.slice 31, 1, 24, .slice none 0 0⟩ := by kernel_rfl
@[simp] theorem ty23 : tyOf Try.prog 23 = some ⟨.struct #[{ name := "Next", type := 22, offset := 0, embedded := false, tag := "", pkgPath := "", byteOffset := 0 }, { name := "Tells", type := 22, offset := 1, embedded := false, tag := "", pkgPath := "", byteOffset := 24 }], 2, 48, .agg #[.slice none 0 0, .slice none 0 0]⟩ := by kernel_rfl
@[simp] theorem ty24 : tyOf Try.prog 24 = some ⟨.struct #[{ name := "Next", type := 22, offset := 0, embedded := false, tag := "", pkgPath := "", byteOffset := 0 }, { name := "Tells", type := 22, offset := 1, embedded := false, tag := "", pkgPath := "", byteOffset := 24 }], 2, 48, .agg #[.slice none 0 0, .slice none 0 0]⟩ := by kernel_rfl
@[simp] theorem ty25 : tyOf Try.prog 25 = some ⟨.func #[24, 3] #[4] false, 1, 8, .nilFunc⟩ := by kernel_rfl
@[simp] theorem ty26 : tyOf Try.prog 26 = some ⟨.interface #[("Error", 50)], 1, 16, .nilIface⟩ := by kernel_rfl
@[simp] theorem ty27 : tyOf Try.prog 27 = some ⟨.interface #[("Error", 50)], 1, 16, .nilIface⟩ := by kernel_rfl
@[simp] theorem ty28 : tyOf Try.prog 28 = some ⟨.tuple #[24, 27], 1, 0, .tuple #[.agg #[.slice none 0 0, .slice none 0 0], .nilIface]⟩ := by kernel_rfl
@[simp] theorem ty29 : tyOf Try.prog 29 = some ⟨.func #[24] #[24, 27] false, 1, 8, .nilFunc⟩ := by kernel_rfl
@[simp] theorem ty30 : tyOf Try.prog 30 = some ⟨.func #[] #[4] false, 1, 8, .nilFunc⟩ := by kernel_rfl
@[simp] theorem ty31 : tyOf Try.prog 31 = some ⟨.slice 3, 1, 24, .slice none 0 0⟩ := by kernel_rfl
@[simp] theorem ty32 : tyOf Try.prog 32 = some ⟨.tuple #[31, 27], 1, 0, .tuple #[.slice none 0 0, .nilIface]⟩ := by kernel_rfl
@[simp] theorem ty33 : tyOf Try.prog 33 = some ⟨.func #[24] #[31, 27] false, 1, 8, .nilFunc⟩ := by kernel_rfl
@[simp] theorem ty34 : tyOf Try.prog 34 = some ⟨.func #[24] #[4] false, 1, 8, .nilFunc⟩ := by kernel_rfl
@[simp] theorem ty35 : tyOf Try.prog 35 = some ⟨.func #[31] #[31] false, 1, 8, .nilFunc⟩ := by kernel_rfl
@[simp] theorem ty36 : tyOf Try.prog 36 = some ⟨.func #[24, 3, 3] #[31, 27] false, 1, 8, .nilFunc⟩ := by kernel_rfl
@[simp] theorem ty37 : tyOf Try.prog 37 = some ⟨.func #[31, 31] #[4] false, 1, 8, .nilFunc⟩ := by kernel_rfl
@[simp] theorem ty38 : tyOf Try.prog 38 = some ⟨.func #[24] #[27] false, 1, 8, .nilFunc⟩ := by kernel_rfl
@[simp] theorem ty39 : tyOf Try.prog 39 = some ⟨.func #[24] #[22] false, 1, 8, .nilFunc⟩ := by kernel_rfl
@[simp] theorem ty40 : tyOf Try.prog 40 = some ⟨.int .i64, 1, 8, .int .i64 0⟩ := by kernel_rfl
@[simp] theorem ty41 : tyOf Try.prog 41 = some ⟨.func #[22, 42] #[3] false, 1, 8, .nilFunc⟩ := by kernel_rfl
@[simp] theorem ty42 : tyOf Try.prog 42 = some ⟨.func #[31] #[4] false, 1, 8, .nilFunc⟩ := by kernel_rfl
@[simp] theorem ty43 : tyOf Try.prog 43 = some ⟨.pointer 45, 1, 8, .pointer none⟩ := by kernel_rfl
@[simp] theorem ty44 : tyOf Try.prog 44 = some ⟨.struct #[{ name := "Err", type := 40, offset := 0, embedded := false, tag := "", pkgPath := "", byteOffset := 0 }, { name := "Place", type := 3, offset := 1, embedded := false, tag := "", pkgPath := "", byteOffset := 8 }], 2, 16, .agg #[.int .i64 0, .int .i64 0]⟩ := by kernel_rfl
@[simp] theorem ty45 : tyOf Try.prog 45 = some ⟨.struct #[{ name := "Err", type := 40, offset := 0, embedded := false, tag := "", pkgPath := "", byteOffset := 0 }, { name := "Place", type := 3, offset := 1, embedded := false, tag := "", pkgPath := "", byteOffset := 8 }], 2, 16, .agg #[.int .i64 0, .int .i64 0]⟩ := by kernel_rfl
@[simp] theorem ty46 : tyOf Try.prog 46 = some ⟨.func #[31, 47] #[4] false, 1, 8, .nilFunc⟩ := by kernel_rfl
@[simp] theorem ty47 : tyOf Try.prog 47 = some ⟨.func #[3] #[4] false, 1, 8, .nilFunc⟩ := by kernel_rfl
@[simp] theorem ty48 : tyOf Try.prog 48 = some ⟨.func #[22] #[31] false, 1, 8, .nilFunc⟩ := by kernel_rfl
@[simp] theorem ty49 : tyOf Try.prog 49 = some ⟨.func #[31, 47] #[3] false, 1, 8, .nilFunc⟩ := by kernel_rfl
@[simp] theorem ty50 : tyOf Try.prog 50 = some ⟨.func #[] #[9] false, 1, 8, .nilFunc⟩ := by kernel_rfl
@[simp] theorem ty51 : tyOf Try.prog 51 = some ⟨.struct #[{ name := "_interface", type := 17, offset := 0, embedded := false, tag := "", pkgPath := "runtime", byteOffset := 0 }, { name := "concrete", type := 17, offset := 1, embedded := false, tag := "", pkgPath := "runtime", byteOffset := 8 }, { name := "asserted", type := 17, offset := 2, embedded := false, tag := "", pkgPath := "runtime", byteOffset := 16 }, { name := "missingMethod", type := 9, offset := 3, embedded := false, tag := "", pkgPath := "runtime", byteOffset := 24 }], 4, 40, .agg #[.pointer none, .pointer none, .pointer none, .string ⟨#[]⟩]⟩ := by kernel_rfl
@[simp] theorem ty53 : tyOf Try.prog 53 = some ⟨.array 0 16, 0, 0, .agg #[]⟩ := by kernel_rfl
@[simp] theorem ty54 : tyOf Try.prog 54 = some ⟨.struct #[{ name := "_", type := 53, offset := 0, embedded := false, tag := "", pkgPath := "runtime", byteOffset := 0 }], 0, 0, .agg #[]⟩ := by kernel_rfl
@[simp] theorem ty56 : tyOf Try.prog 56 = some ⟨.func #[] #[3] false, 1, 8, .nilFunc⟩ := by kernel_rfl
@[simp] theorem ty57 : tyOf Try.prog 57 = some ⟨.int .u32, 1, 4, .int .u32 0⟩ := by kernel_rfl
@[simp] theorem ty60 : tyOf Try.prog 60 = some ⟨.func #[66, 66] #[4] false, 1, 8, .nilFunc⟩ := by kernel_rfl
@[simp] theorem ty61 : tyOf Try.prog 61 = some ⟨.pointer 5, 1, 8, .pointer none⟩ := by kernel_rfl
@[simp] theorem ty64 : tyOf Try.prog 64 = some ⟨.struct #[{ name := "Size_", type := 12, offset := 0, embedded := false, tag := "", pkgPath := "", byteOffset := 0 }, { name := "PtrBytes", type := 12, offset := 1, embedded := false, tag := "", pkgPath := "", byteOffset := 8 }, { name := "Hash", type := 57, offset := 2, embedded := false, tag := "", pkgPath := "", byteOffset := 16 }, { name := "TFlag", type := 58, offset := 3, embedded := false, tag := "", pkgPath := "", byteOffset := 20 }, { name := "Align_", type := 5, offset := 4, embedded := false, tag := "", pkgPath := "", byteOffset := 21 }, { name := "FieldAlign_", type := 5, offset := 5, embedded := false, tag := "", pkgPath := "", byteOffset := 22 }, { name := "Kind_", type := 59, offset := 6, embedded := false, tag := "", pkgPath := "", byteOffset := 23 }, { name := "Equal", type := 60, offset := 7, embedded := false, tag := "", pkgPath := "", byteOffset := 24 }, { name := "GCData", type := 61, offset := 8, embedded := false, tag := "", pkgPath := "", byteOffset := 32 }, { name := "Str", type := 62, offset := 9, embedded := false, tag := "", pkgPath := "", byteOffset := 40 }, { name := "PtrToThis", type := 63, offset := 10, embedded := false, tag := "", pkgPath := "", byteOffset := 44 }], 11, 48, .agg #[.int .u64 0, .int .u64 0, .int .u32 0, .int .u8 0, .int .u8 0, .int .u8 0, .int .u8 0, .nilFunc, .pointer none, .int .i32 0, .int .i32 0]⟩ := by kernel_rfl
end Go.Proofs.Ytoikggboakojlaa
