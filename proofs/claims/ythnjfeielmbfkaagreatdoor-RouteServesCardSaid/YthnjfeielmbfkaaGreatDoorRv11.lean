/-
  Texts that belong together, in one file: Ty, F1, F2, F3, RT1, F4, F5, F6, RT2, RT3.
-/
import Derived.Test.YthnjfeielmbfkaaGreatDoorRv10
import Derived.Test.YthnjfeielmbfkaaGreatDoorProg
set_option linter.unusedSimpArgs false
set_option linter.unusedVariables false
namespace Go.Proofs.YthnjfeielmbfkaaGreatDoor
open Go.Av
@[simp] theorem ty3 : tyOf Tryz.prog 3 = some ⟨.int .i64, 1, 8, .int .i64 0, peOf Tryz.prog 3⟩ := by kernel_rfl
@[simp] theorem ty4 : tyOf Tryz.prog 4 = some ⟨.bool, 1, 1, .bool false, peOf Tryz.prog 4⟩ := by kernel_rfl
@[simp] theorem ty9 : tyOf Tryz.prog 9 = some ⟨.string, 1, 16, .string ⟨#[]⟩, peOf Tryz.prog 9⟩ := by kernel_rfl
@[simp] theorem ty21 : tyOf Tryz.prog 21 = some ⟨.int .i32, 1, 4, .int .i32 0, peOf Tryz.prog 21⟩ := by kernel_rfl
@[simp] theorem ty22 : tyOf Tryz.prog 22 = some ⟨.slice 106, 1, 24, .slice none 0 0, peOf Tryz.prog 22⟩ := by kernel_rfl
@[simp] theorem ty24 : tyOf Tryz.prog 24 = some ⟨.struct #[{ name := "Sections", type := 3, offset := 0, embedded := false, tag := "", pkgPath := "", byteOffset := 0 }, { name := "Points", type := 3, offset := 1, embedded := false, tag := "", pkgPath := "", byteOffset := 8 }, { name := "Routes", type := 22, offset := 2, embedded := false, tag := "", pkgPath := "", byteOffset := 16 }], 3, 40, .agg #[.int .i64 0, .int .i64 0, .slice none 0 0], peOf Tryz.prog 24⟩ := by kernel_rfl
@[simp] theorem ty25 : tyOf Tryz.prog 25 = some ⟨.slice 3, 1, 24, .slice none 0 0, peOf Tryz.prog 25⟩ := by kernel_rfl
@[simp] theorem ty26 : tyOf Tryz.prog 26 = some ⟨.slice 73, 1, 24, .slice none 0 0, peOf Tryz.prog 26⟩ := by kernel_rfl
@[simp] theorem ty27 : tyOf Tryz.prog 27 = some ⟨.slice 114, 1, 24, .slice none 0 0, peOf Tryz.prog 27⟩ := by kernel_rfl
@[simp] theorem ty29 : tyOf Tryz.prog 29 = some ⟨.struct #[{ name := "Names", type := 26, offset := 0, embedded := false, tag := "", pkgPath := "", byteOffset := 0 }, { name := "Rungs", type := 27, offset := 1, embedded := false, tag := "", pkgPath := "", byteOffset := 24 }], 2, 48, .agg #[.slice none 0 0, .slice none 0 0], peOf Tryz.prog 29⟩ := by kernel_rfl
@[simp] theorem ty31 : tyOf Tryz.prog 31 = some ⟨.interface #[("Error", 164)], 1, 16, .nilIface, peOf Tryz.prog 31⟩ := by kernel_rfl
@[simp] theorem ty37 : tyOf Tryz.prog 37 = some ⟨.slice 39, 1, 24, .slice none 0 0, peOf Tryz.prog 37⟩ := by kernel_rfl
@[simp] theorem ty39 : tyOf Tryz.prog 39 = some ⟨.slice 4, 1, 24, .slice none 0 0, peOf Tryz.prog 39⟩ := by kernel_rfl
@[simp] theorem ty40 : tyOf Tryz.prog 40 = some ⟨.slice 45, 1, 24, .slice none 0 0, peOf Tryz.prog 40⟩ := by kernel_rfl
@[simp] theorem ty45 : tyOf Tryz.prog 45 = some ⟨.struct #[{ name := "Is", type := 39, offset := 0, embedded := false, tag := "", pkgPath := "", byteOffset := 0 }, { name := "Count", type := 25, offset := 1, embedded := false, tag := "", pkgPath := "", byteOffset := 24 }], 2, 48, .agg #[.slice none 0 0, .slice none 0 0], peOf Tryz.prog 45⟩ := by kernel_rfl
@[simp] theorem ty48 : tyOf Tryz.prog 48 = some ⟨.interface #[("Text", 164)], 1, 16, .nilIface, peOf Tryz.prog 48⟩ := by kernel_rfl
@[simp] theorem ty62 : tyOf Tryz.prog 62 = some ⟨.int .i64, 1, 8, .int .i64 0, peOf Tryz.prog 62⟩ := by kernel_rfl
@[simp] theorem ty69 : tyOf Tryz.prog 69 = some ⟨.func #[48] #[9] false, 1, 8, .nilFunc, peOf Tryz.prog 69⟩ := by kernel_rfl
@[simp] theorem ty73 : tyOf Tryz.prog 73 = some ⟨.struct #[{ name := "Name", type := 9, offset := 0, embedded := false, tag := "", pkgPath := "", byteOffset := 0 }, { name := "Kind", type := 3, offset := 1, embedded := false, tag := "", pkgPath := "", byteOffset := 16 }, { name := "Count", type := 3, offset := 2, embedded := false, tag := "", pkgPath := "", byteOffset := 24 }], 3, 32, .agg #[.string ⟨#[]⟩, .int .i64 0, .int .i64 0], true⟩ := by kernel_rfl
@[simp] theorem ty100 : tyOf Tryz.prog 100 = some ⟨.func #[9] #[4] false, 1, 8, .nilFunc, peOf Tryz.prog 100⟩ := by kernel_rfl
@[simp] theorem ty104 : tyOf Tryz.prog 104 = some ⟨.slice 118, 1, 24, .slice none 0 0, peOf Tryz.prog 104⟩ := by kernel_rfl
@[simp] theorem ty106 : tyOf Tryz.prog 106 = some ⟨.struct #[{ name := "Sections", type := 25, offset := 0, embedded := false, tag := "", pkgPath := "", byteOffset := 0 }, { name := "Points", type := 104, offset := 1, embedded := false, tag := "", pkgPath := "", byteOffset := 24 }], 2, 48, .agg #[.slice none 0 0, .slice none 0 0], peOf Tryz.prog 106⟩ := by kernel_rfl
@[simp] theorem ty107 : tyOf Tryz.prog 107 = some ⟨.slice 48, 1, 24, .slice none 0 0, peOf Tryz.prog 107⟩ := by kernel_rfl
@[simp] theorem ty108 : tyOf Tryz.prog 108 = some ⟨.string, 1, 16, .string ⟨#[]⟩, peOf Tryz.prog 108⟩ := by kernel_rfl
@[simp] theorem ty110 : tyOf Tryz.prog 110 = some ⟨.struct #[{ name := "Of", type := 48, offset := 0, embedded := false, tag := "", pkgPath := "", byteOffset := 0 }], 1, 16, .agg #[.nilIface], peOf Tryz.prog 110⟩ := by kernel_rfl
@[simp] theorem ty114 : tyOf Tryz.prog 114 = some ⟨.struct #[{ name := "Kind", type := 3, offset := 0, embedded := false, tag := "", pkgPath := "", byteOffset := 0 }, { name := "Name", type := 9, offset := 1, embedded := false, tag := "", pkgPath := "", byteOffset := 8 }, { name := "If", type := 48, offset := 2, embedded := false, tag := "", pkgPath := "", byteOffset := 24 }], 3, 40, .agg #[.int .i64 0, .string ⟨#[]⟩, .nilIface], peOf Tryz.prog 114⟩ := by kernel_rfl
@[simp] theorem ty118 : tyOf Tryz.prog 118 = some ⟨.struct #[{ name := "Number", type := 3, offset := 0, embedded := false, tag := "", pkgPath := "", byteOffset := 0 }, { name := "Over", type := 4, offset := 1, embedded := false, tag := "", pkgPath := "", byteOffset := 8 }], 2, 16, .agg #[.int .i64 0, .bool false], true⟩ := by kernel_rfl
@[simp] theorem ty120 : tyOf Tryz.prog 120 = some ⟨.int .u64, 1, 8, .int .u64 0, peOf Tryz.prog 120⟩ := by kernel_rfl
@[simp] theorem ty123 : tyOf Tryz.prog 123 = some ⟨.slice 48, 1, 24, .slice none 0 0, peOf Tryz.prog 123⟩ := by kernel_rfl
@[simp] theorem ty124 : tyOf Tryz.prog 124 = some ⟨.slice 48, 1, 24, .slice none 0 0, peOf Tryz.prog 124⟩ := by kernel_rfl
@[simp] theorem ty125 : tyOf Tryz.prog 125 = some ⟨.string, 1, 16, .string ⟨#[]⟩, peOf Tryz.prog 125⟩ := by kernel_rfl
@[simp] theorem ty127 : tyOf Tryz.prog 127 = some ⟨.string, 1, 16, .string ⟨#[]⟩, peOf Tryz.prog 127⟩ := by kernel_rfl
@[simp] theorem ty128 : tyOf Tryz.prog 128 = some ⟨.bool, 1, 1, .bool false, peOf Tryz.prog 128⟩ := by kernel_rfl
@[simp] theorem ty169 : tyOf Tryz.prog 169 = some ⟨.slice 9, 1, 24, .slice none 0 0, peOf Tryz.prog 169⟩ := by kernel_rfl
@[simp] theorem ty194 : tyOf Tryz.prog 194 = some ⟨.pointer 196, 1, 8, .pointer none, peOf Tryz.prog 194⟩ := by kernel_rfl
@[simp] theorem ty196 : tyOf Tryz.prog 196 = some ⟨.struct #[{ name := "Err", type := 62, offset := 0, embedded := false, tag := "", pkgPath := "", byteOffset := 0 }, { name := "Place", type := 3, offset := 1, embedded := false, tag := "", pkgPath := "", byteOffset := 8 }], 2, 16, .agg #[.int .i64 0, .int .i64 0], true⟩ := by kernel_rfl
@[simp] theorem ty255 : tyOf Tryz.prog 255 = some ⟨.array 7 3, 7, 56, .agg #[.int .i64 0, .int .i64 0, .int .i64 0, .int .i64 0, .int .i64 0, .int .i64 0, .int .i64 0], peOf Tryz.prog 255⟩ := by kernel_rfl
end Go.Proofs.YthnjfeielmbfkaaGreatDoor
namespace Go.Proofs.YthnjfeielmbfkaaGreatDoor
open Go.Av
def dInts (k : Option Bool) (l : List Int) : D := .sl k (l.map fun n => [.v (.int .i64 n)])
end Go.Proofs.YthnjfeielmbfkaaGreatDoor
namespace Go.Proofs.YthnjfeielmbfkaaGreatDoor
open Go.Av
def idx {α : Type} (p : α → Bool) (l : List α) : Int := match l.findIdx? p with
 | some i => i
 | none => -1
theorem idx_hit {α : Type} {p : α → Bool} {l : List α} {n : Nat} (hn : n < l.length) (h : p l[n] = true) (hb : ∀ i (hi : i < n), p (l[i]'(by omega)) = false) : idx p l = n := by
 unfold idx
 have : l.findIdx? p = some n := by
  rw [List.findIdx?_eq_some_iff_getElem]; exact ⟨hn, h, fun j hj => by simpa using hb j hj⟩
 rw [this]
theorem idx_miss {α : Type} {p : α → Bool} {l : List α} (hb : ∀ i (hi : i < l.length), p l[i] = false) : idx p l = -1 := by
 unfold idx
 have : l.findIdx? p = none := by
  rw [List.findIdx?_eq_none_iff]
  intro x hx
  obtain ⟨i, hi, rfl⟩ := List.mem_iff_getElem.1 hx
  exact hb i hi
 rw [this]
def Answers {α : Type} (G : Glob) (g : FuncId) (caps : List D) (enc : α → D) (p : α → Bool) (xs : List α) : Prop := ∀ x ∈ xs, PureC Tryz.prog G g (enc x :: caps) (.v (.bool (p x)))
set_option maxHeartbeats 1000000 in
theorem indexInt_spec {α : Type} (G : Glob) (k : Option Bool) (enc : α → D) (xs : List α) (g : FuncId) (caps : List D) (p : α → Bool) (hl : xs.length < 2^63) (ha : Answers G g caps enc p xs) :
  PureC Tryz.prog G 123 [.sl k (xs.map fun x => [enc x]), .fn (.func g) caps] (.v (.int .i64 (idx p xs))) := by
 refine PureC.of_body (tyOf_good _) Tryz.func123 rfl rfl (rs := [.tmp 4]) Tryz.results123 (by simp [Tryz.ntmps123]) fun X => ?_; simp only [Tryz.ntmps123, List.map]; refine rg0 [0,1] [] ?_; refine AW_then fun K1 hK1 => ?_; refine rg0 [0,1,7,8] [] ?_; refine AW_for (S := Nat) (fun n => n ≤ xs.length ∧ ∀ i (hi : i < xs.length), i < n → p xs[i] = false) (fun n => ⟨lst [(0, .d (.sl k (xs.map fun x => [enc x]))), (1, .d (.fn (.func g) caps)), (7, int xs.length), (8, int n)], hlst []⟩) (fun n => xs.length - n) 0 ?_ (by simp) ?_
 ·refine Imp.to' (fun _ _ => trivial) (by simp) (by simp)
 ·rintro n ⟨hn, hp⟩
  refine rg0 [0,1,7,8,9] [] ?_; refine AW_then fun K2 hK2 => ?_; refine AW_cond' (b := n < xs.length) (by simp [D.le, D.le.go, takeMap]) (fun hc => ?_) (fun hc => ?_)
  ·refine AW_skip (hK2 _ ?_); refine AW_then fun K3 hK3 => ?_; refine AW_block ?_; refine rg0 [0,1,5,7,8] [] ?_
   have qf := @hc
   refine rgcv (ha xs[n] (by simp)) [0,1,5,7,8,16] [] ?_; refine AW_cond _ rfl (fun hp2 => ?_) (fun hp2 => ?_)
   ·refine rg0 [4] [] ?_; refine AW_ret ?_; simp [D.le, D.le.go, takeMap]; exact (idx_hit hc hp2 fun i hi => hp i (by omega) hi).symm
   ·refine AW_skip (hK3 _ ?_); refine AW_re (tyOf_good _) fun K' hK' => ?_; (repeat (refine sxn fun K2 hK2 => ?_; simp; (repeat (refine ⟨by omega, ?_⟩)); refine hK2 _ ?_; clear hK2 K2)); refine sxz (hK' _ ?_); clear hK' K'; (try simp only [thn, inb]); refine Again.mk (n + 1) ⟨by omega, fun i hi hin => ?_⟩ (by omega) ?_
    ·by_cases h : i = n
     ·subst h; exact hp2
     ·exact hp i hi (by omega)
    refine Imp.to' (fun _ _ => trivial) (by simp) (by simp)
  ·refine AW_exit (hK1 _ ?_); refine rg0 [4] [] ?_; refine AW_ret ?_; simp [D.le, D.le.go, takeMap]; exact (idx_miss fun i hi => hp i hi (by omega)).symm
theorem idx_any {α : Type} (p : α → Bool) (l : List α) : decide (0 ≤ idx p l) = l.any p := by
 unfold idx
 split
 ·rename_i i hi
  rw [List.findIdx?_eq_some_iff_getElem] at hi
  obtain ⟨h1, h2, _⟩ := hi
  have : l.any p = true := List.any_eq_true.2 ⟨_, List.getElem_mem h1, h2⟩
  rw [this]; simp
 ·rename_i h
  rw [List.findIdx?_eq_none_iff] at h
  have : l.any p = false := by
   rw [List.any_eq_false]
   intro x hx
   simpa using h x hx
  rw [this]; simp
set_option maxHeartbeats 1000000 in
theorem containsInt_spec {α : Type} (G : Glob) (k : Option Bool) (enc : α → D) (xs : List α) (g : FuncId) (caps : List D) (p : α → Bool) (hl : xs.length < 2^63) (ha : Answers G g caps enc p xs) :
  PureC Tryz.prog G 95 [.sl k (xs.map fun x => [enc x]), .fn (.func g) caps] (.v (.bool (xs.any p))) := by
 refine PureC.of_body (tyOf_good _) Tryz.func95 rfl rfl (rs := [.tmp 4]) Tryz.results95 (by simp [Tryz.ntmps95]) fun X => ?_; simp only [Tryz.ntmps95, List.map]; refine rg0 [0,1] [] ?_; refine rgc trivial (indexInt_spec G k enc xs g caps p hl ha) [4] [] ?_; refine AW_ret ?_; simp [D.le, D.le.go, takeMap]; exact idx_any p xs
end Go.Proofs.YthnjfeielmbfkaaGreatDoor
namespace Go.Proofs.YthnjfeielmbfkaaGreatDoor
open Go.Av
def dNum (n : Int) : D := .v (.int .i64 n)
def dRow (r : List Int) : D := dInts none r
end Go.Proofs.YthnjfeielmbfkaaGreatDoor
namespace Go.Proofs.YthnjfeielmbfkaaGreatDoor
open Go.Av
def cPt (p : Int × Bool) : List D := [.v (.int .i64 p.1), .v (.bool p.2)]
def dPt (p : Int × Bool) : D := .agg (cPt p)
def dPts (l : List (Int × Bool)) : D := .sl none (l.map cPt)
def cRt (r : Rt) : List D := [dRow r.1, dPts r.2]
def dRt (r : Rt) : D := .agg (cRt r)
def dRts (l : List Rt) : D := .sl none (l.map cRt)
theorem dRow_eq (l : List Int) : dRow l = .sl none (l.map fun x => [.v (.int .i64 x)]) := rfl
set_option maxHeartbeats 1000000 in
theorem indexEq_spec (G : Glob) (l : List Int) (x : Int) (hl : l.length < 2^62) : PureC Tryz.prog G 157 [dRow l, .v (.int .i64 x)] (.v (.int .i64 (idx (fun y => x == y) l))) := by
 rw [dRow_eq]; refine PureC.of_body (tyOf_good _) Tryz.func157 rfl rfl (rs := [.tmp 4]) Tryz.results157 (by simp [Tryz.ntmps157]) fun X => ?_; simp only [Tryz.ntmps157, List.map]; refine rg0 [0,1] [] ?_; refine AW_then fun K1 hK1 => ?_; refine rg0 [0,1,7,8] [] ?_; refine AW_for (S := Nat) (fun n => n ≤ l.length ∧ ∀ i (hi : i < l.length), i < n → (x == l[i]) = false) (fun n => ⟨lst [(0, .d (.sl none (l.map fun x => [.v (.int .i64 x)]))), (1, .d (.v (.int .i64 x))), (7, int l.length), (8, int n)], hlst []⟩) (fun n => l.length - n) 0 ?_ (by simp) ?_
 ·refine Imp.to' (fun _ _ => trivial) (by simp) (by simp)
 ·rintro n ⟨hn, hp⟩
  refine rg0 [0,1,7,8,9] [] ?_; refine AW_then fun K2 hK2 => ?_; refine AW_cond' (b := n < l.length) (by simp [D.le, D.le.go, takeMap]) (fun hc => ?_) (fun hc => ?_)
  ·refine AW_skip (hK2 _ ?_); refine AW_then fun K3 hK3 => ?_; refine AW_block ?_; refine rg0 [0,1,5,7,8] [] ?_
   have qf := @hc
   refine rgqv [0,1,5,7,8,16] [] ?_
   have hlt := hc
   refine AW_cond' (b := x = l[n]) (by simp [D.le, D.le.go, takeMap]) (fun hc => ?_) (fun hc => ?_)
   ·refine rg0 [4] [] ?_; refine AW_ret ?_; simp [D.le, D.le.go, takeMap]; exact (idx_hit hlt (by simpa using hc) fun i hi => hp i (by omega) hi).symm
   ·refine AW_skip (hK3 _ ?_); refine AW_re (tyOf_good _) fun K' hK' => ?_; (repeat (refine sxn fun K2 hK2 => ?_; simp; (repeat (refine ⟨by omega, ?_⟩)); refine hK2 _ ?_; clear hK2 K2)); refine sxz (hK' _ ?_); clear hK' K'; (try simp only [thn, inb]); refine Again.mk (n + 1) ⟨by omega, fun i hi hin => ?_⟩ (by omega) ?_
    ·by_cases h : i = n
     ·subst h; simpa using hc
     ·exact hp i hi (by omega)
    refine Imp.to' (fun _ _ => trivial) (by simp) (by simp)
  ·refine AW_exit (hK1 _ ?_); refine rg0 [4] [] ?_; refine AW_ret ?_; simp [D.le, D.le.go, takeMap]; exact (idx_miss fun i hi => hp i hi (by omega)).symm
theorem idx_memI (l : List Int) (x : Int) : 0 ≤ idx (fun y => decide (x = y)) l ↔ x ∈ l := by
 have h := idx_any (fun y => decide (x = y)) l
 have h2 : (l.any fun y => decide (x = y)) = decide (x ∈ l) := by
  rw [Bool.eq_iff_iff, List.any_eq_true]
  constructor
  ·rintro ⟨y, h1, h2⟩; have : x = y := by simpa using h2
   simpa using this ▸ h1
  ·intro h; exact ⟨x, by simpa using h, by simp⟩
 rw [h2] at h; simpa using h
theorem idx_memP (l : List (Int × Bool)) (x : Int × Bool) : 0 ≤ idx (fun y => x == y) l ↔ x ∈ l := by
 have h := idx_any (fun y => x == y) l
 have h2 : (l.any fun y => x == y) = decide (x ∈ l) := by
  rw [Bool.eq_iff_iff, List.any_eq_true]
  constructor
  ·rintro ⟨y, h1, h2⟩; have : x = y := by simpa using h2
   simpa using this ▸ h1
  ·intro h; exact ⟨x, by simpa using h, by simp⟩
 rw [h2] at h; simpa using h
set_option maxHeartbeats 1000000 in
theorem containsEq_spec (G : Glob) (l : List Int) (x : Int) (hl : l.length < 2^62) : PureC Tryz.prog G 101 [dRow l, .v (.int .i64 x)] (.v (.bool (l.contains x))) := by
 have h1 := indexEq_spec G l x hl
 rw [dRow_eq] at h1 ⊢; refine PureC.of_body (tyOf_good _) Tryz.func101 rfl rfl (rs := [.tmp 4]) Tryz.results101 (by simp [Tryz.ntmps101]) fun X => ?_; simp only [Tryz.ntmps101, List.map]; refine rg0 [0,1] [] ?_; refine rgc trivial h1 [4] [] ?_; refine AW_ret ?_; simp [D.le, D.le.go, takeMap]; exact idx_memI l x
set_option maxHeartbeats 1000000 in
theorem indexPt_spec (G : Glob) (k : Option Bool) (xs : List (Int × Bool)) (g : FuncId) (caps : List D) (p : Int × Bool → Bool) (hl : xs.length < 2^62) (ha : Answers G g caps dPt p xs) :
  PureC Tryz.prog G 155 [.sl k (xs.map cPt), .fn (.func g) caps] (.v (.int .i64 (idx p xs))) := by
 refine PureC.of_body (tyOf_good _) Tryz.func155 rfl rfl (rs := [.tmp 4]) Tryz.results155 (by simp [Tryz.ntmps155]) fun X => ?_; simp only [Tryz.ntmps155, List.map]; refine rg0 [0,1] [] ?_; refine AW_then fun K1 hK1 => ?_; refine rg0 [0,1,7,8] [] ?_; refine AW_for (S := Nat) (fun n => n ≤ xs.length ∧ ∀ i (hi : i < xs.length), i < n → p xs[i] = false) (fun n => ⟨lst [(0, .d (.sl k (xs.map cPt))), (1, .d (.fn (.func g) caps)), (7, int xs.length), (8, int n)], hlst []⟩) (fun n => xs.length - n) 0 ?_ (by simp) ?_
 ·refine Imp.to' (fun _ _ => trivial) (by simp) (by simp)
 ·rintro n ⟨hn, hp⟩
  refine rg0 [0,1,7,8,9] [] ?_; refine AW_then fun K2 hK2 => ?_; refine AW_cond' (b := n < xs.length) (by simp [D.le, D.le.go, takeMap]) (fun hc => ?_) (fun hc => ?_)
  ·refine AW_skip (hK2 _ ?_); refine AW_then fun K3 hK3 => ?_; refine AW_block ?_; refine rg0 [0,1,5,7,8] [] ?_
   have hax := ha xs[n] (by simp)
   simp only [dPt, cPt] at hax
   have qf := (Aq @hc @cPt.eq_1)
   refine rgcv hax [0,1,5,7,8,16] [] ?_; refine AW_cond _ rfl (fun hp2 => ?_) (fun hp2 => ?_)
   ·refine rg0 [4] [] ?_; refine AW_ret ?_; simp [D.le, D.le.go, takeMap]; exact (idx_hit hc hp2 fun i hi => hp i (by omega) hi).symm
   ·refine AW_skip (hK3 _ ?_); refine AW_re (tyOf_good _) fun K' hK' => ?_; (repeat (refine sxn fun K2 hK2 => ?_; simp; (repeat (refine ⟨by omega, ?_⟩)); refine hK2 _ ?_; clear hK2 K2)); refine sxz (hK' _ ?_); clear hK' K'; (try simp only [thn, inb]); refine Again.mk (n + 1) ⟨by omega, fun i hi hin => ?_⟩ (by omega) ?_
    ·by_cases h : i = n
     ·subst h; exact hp2
     ·exact hp i hi (by omega)
    refine Imp.to' (fun _ _ => trivial) (by simp) (by simp)
  ·refine AW_exit (hK1 _ ?_); refine rg0 [4] [] ?_; refine AW_ret ?_; simp [D.le, D.le.go, takeMap]; exact (idx_miss fun i hi => hp i hi (by omega)).symm
set_option maxHeartbeats 1000000 in
theorem containsPt_spec (G : Glob) (k : Option Bool) (xs : List (Int × Bool)) (g : FuncId) (caps : List D) (p : Int × Bool → Bool) (hl : xs.length < 2^62) (ha : Answers G g caps dPt p xs) :
  PureC Tryz.prog G 97 [.sl k (xs.map cPt), .fn (.func g) caps] (.v (.bool (xs.any p))) := by
 refine PureC.of_body (tyOf_good _) Tryz.func97 rfl rfl (rs := [.tmp 4]) Tryz.results97 (by simp [Tryz.ntmps97]) fun X => ?_; simp only [Tryz.ntmps97, List.map]; refine rg0 [0,1] [] ?_; refine rgc trivial (indexPt_spec G k xs g caps p hl ha) [4] [] ?_; refine AW_ret ?_; simp [D.le, D.le.go, takeMap]; exact idx_any p xs
set_option maxHeartbeats 1000000 in
theorem indexPtEq_spec (G : Glob) (l : List (Int × Bool)) (x : Int × Bool) (hl : l.length < 2^62) : PureC Tryz.prog G 103 [.sl none (l.map cPt), dPt x] (.v (.int .i64 (idx (fun y => x == y) l))) := by
 obtain ⟨xn, xo⟩ := x
 simp only [dPt, cPt]; refine PureC.of_body (tyOf_good _) Tryz.func103 rfl rfl (rs := [.tmp 4]) Tryz.results103 (by simp [Tryz.ntmps103]) fun X => ?_; simp only [Tryz.ntmps103, List.map]; refine rg0 [0,3] [3] ?_; refine AW_then fun K1 hK1 => ?_; refine rg0 [0,3,7,8] [3] ?_; refine AW_for (S := Nat) (fun n => n ≤ l.length ∧ ∀ i (hi : i < l.length), i < n → ((xn, xo) == l[i]) = false) (fun n => ⟨lst [(0, .d (.sl none (l.map cPt))), (3, .ref 3 0 0), (7, int l.length), (8, int n)], hlst [(3, .box 118 [.d (.v (.int .i64 xn)), .d (.v (.bool xo))])]⟩) (fun n => l.length - n) 0 ?_ (by simp) ?_
 ·refine Imp.to' (fun _ _ => trivial) (by simp [cPt]) (by simp [cPt])
 ·rintro n ⟨hn, hp⟩
  refine rg0 [0,3,7,8,9] [3] ?_; refine AW_then fun K2 hK2 => ?_; refine AW_cond' (b := n < l.length) (by simp [D.le, D.le.go, takeMap]) (fun hc => ?_) (fun hc => ?_)
  ·refine AW_skip (hK2 _ ?_); refine AW_then fun K3 hK3 => ?_; refine AW_block ?_; refine rg0 [0,3,5,7,8] [3] ?_
   have hpe : ((xn, xo) == l[n]) = (decide (xn = l[n].1) && decide (xo = l[n].2)) := by
    obtain ⟨a, b⟩ := l[n]
    by_cases h1 : xn = a <;> by_cases h2 : xo = b <;> simp [h1, h2]
   have qf := (Aq @hc (Aq @cPt.eq_1 (Aq @eqFs.eq_1 (Aq @eqFs.eq_2 (Aq @eqSc.eq_1 (Aq @eqSc.eq_2 (Aq @eqSc.eq_3 (Aq @eqSc.eq_4 (Aq @eqv.eq_1 (Aq @eqv.eq_2 @eqv.eq_3))))))))))
   refine rdqv [0,3,5,7,8,16] [3] ?_
   have hlt := hc
   refine AW_cond _ rfl (fun hc => ?_) (fun hc => ?_)
   ·refine rg0 [4] [3] ?_; refine AW_ret ?_; simp [D.le, D.le.go, takeMap]; refine (idx_hit hlt ?_ fun i hi => hp i (by omega) hi).symm; rw [hpe]; simpa using hc
   ·refine AW_skip (hK3 _ ?_); refine AW_re (tyOf_good _) fun K' hK' => ?_; (repeat (refine sxn fun K2 hK2 => ?_; simp; (repeat (refine ⟨by omega, ?_⟩)); refine hK2 _ ?_; clear hK2 K2)); refine sxz (hK' _ ?_); clear hK' K'; (try simp only [thn, inb]); refine Again.mk (n + 1) ⟨by omega, fun i hi hin => ?_⟩ (by omega) ?_
    ·by_cases h : i = n
     ·subst h; rw [hpe]; simpa using hc
     ·exact hp i hi (by omega)
    refine Imp.to' (fun _ _ => trivial) (by simp [cPt]) (by simp [cPt])
  ·refine AW_exit (hK1 _ ?_); refine rg0 [4] [3] ?_; refine AW_ret ?_; simp [D.le, D.le.go, takeMap]; exact (idx_miss fun i hi => hp i hi (by omega)).symm
set_option maxHeartbeats 1000000 in
theorem containsPtEq_spec (G : Glob) (l : List (Int × Bool)) (x : Int × Bool) (hl : l.length < 2^62) : PureC Tryz.prog G 48 [.sl none (l.map cPt), dPt x] (.v (.bool (l.contains x))) := by
 have h1 := indexPtEq_spec G l x hl
 obtain ⟨xn, xo⟩ := x
 simp only [dPt, cPt] at h1 ⊢; refine PureC.of_body (tyOf_good _) Tryz.func48 rfl rfl (rs := [.tmp 4]) Tryz.results48 (by simp [Tryz.ntmps48]) fun X => ?_; simp only [Tryz.ntmps48, List.map]; refine rg0 [0,3] [3] ?_; refine rgc @cPt.eq_1 h1 [4] [3] ?_; refine AW_ret ?_; simp [D.le, D.le.go, takeMap]; exact idx_memP l _
def SmallR (r : Rt) : Prop := r.1.length < 2^62 ∧ r.2.length < 2^62
set_option maxHeartbeats 1000000 in
theorem clash1_spec (G : Glob) (b : Rt) (hb : SmallR b) (s : Int) : PureC Tryz.prog G 100 [.v (.int .i64 s), .ip (cRt b)] (.v (.bool (b.1.contains s))) := by
 refine PureC.of_body (tyOf_good _) Tryz.func100 rfl rfl (rs := [.tmp 3]) Tryz.results100 (by simp [Tryz.ntmps100]) fun X => ?_; simp only [Tryz.ntmps100, List.map]
 have fw := @cRt.eq_1
 refine rgq fw [0,1] [] ?_; refine rgc fw (containsEq_spec G b.1 s hb.1) [3] [] ?_; refine AW_ret ?_; simp [D.le, D.le.go, takeMap, cRt]
set_option maxHeartbeats 1000000 in
theorem clash2_spec (G : Glob) (b : Rt) (hb : SmallR b) (p : Int × Bool) : PureC Tryz.prog G 102 [dPt p, .ip (cRt b)] (.v (.bool (b.2.contains (p.1, !p.2)))) := by
 have h := containsPtEq_spec G b.2 (p.1, !p.2) hb.2
 obtain ⟨n, o⟩ := p
 simp only [dPt, cPt] at h ⊢; refine PureC.of_body (tyOf_good _) Tryz.func102 rfl rfl (rs := [.tmp 3]) Tryz.results102 (by simp [Tryz.ntmps102]) fun X => ?_; simp only [Tryz.ntmps102, List.map]
 have fw := (Aq @cRt.eq_1 @dPts.eq_1)
 refine rgq fw [1,2] [2] ?_; refine rgc fw h [3] [2] ?_; refine AW_ret ?_; simp [D.le, D.le.go, takeMap, cRt, dPts]
set_option maxHeartbeats 2000000 in
theorem clash_spec (G : Glob) (a b : Rt) (ha : SmallR a) (hb : SmallR b) : PureC Tryz.prog G 47 [dRt a, dRt b] (.v (.bool (clashF a b))) := by
 have h1 := containsInt_spec G none (fun x : Int => D.v (.int .i64 x)) a.1 100 [.ip (cRt b)] (fun s => b.1.contains s) (by have := ha.1; omega) fun s _ => clash1_spec G b hb s
 have h2 := containsPt_spec G none a.2 102 [.ip (cRt b)] (fun p => b.2.contains (p.1, !p.2)) ha.2 fun p _ => clash2_spec G b hb p
 simp only [dRt, cRt, dPts, dRow_eq] at h1 h2 ⊢; refine PureC.of_body (tyOf_good _) Tryz.func47 rfl rfl (rs := [.tmp 4]) Tryz.results47 (by simp [Tryz.ntmps47]) fun X => ?_; simp only [Tryz.ntmps47, List.map]
 have fw := (Aq @cRt.eq_1 @dPts.eq_1)
 refine rgq fw [2,3] [2,3] ?_; refine AW.imp (Imp.freezeB 3 trivial) ?_; refine AW.st (by simp [cRt, dPts]; rfl) ?_; unfold clashF
 cases hr : (a.1.any fun s => b.1.contains s)
 ·rw [hr] at h1; refine rg [4] [2] (fun _ _ => trivial) fun K' hK' => ?_; (repeat (refine sxn fun K2 hK2 => ?_; simp [cRt, dPts]; (repeat (refine ⟨by omega, ?_⟩)); refine hK2 _ ?_; clear hK2 K2)); refine sxn fun K2 hK2 => ?_; simp [cRt, dPts]; refine callK.data (h1) (by simp; rfl) (by first | exact D.leGo_refl _ | simp [takeMap, List.map_map, Function.comp_def, D.le, D.le.go, D.le_refl, D.leGo_refl, cRt, dPts]) ?_; refine hK2 _ ?_; clear hK2 K2; simp only [putd, upd_lst]; (repeat (refine sxn fun K2 hK2 => ?_; simp [cRt, dPts]; (repeat (refine ⟨by omega, ?_⟩)); refine hK2 _ ?_; clear hK2 K2)); refine sxn fun K2 hK2 => ?_; simp [cRt, dPts]; refine callK.data (h2) (by simp; rfl) (by first | exact D.leGo_refl _ | simp [takeMap, List.map_map, Function.comp_def, D.le, D.le.go, D.le_refl, D.leGo_refl, cRt, dPts]) ?_; refine hK2 _ ?_; clear hK2 K2; simp only [putd, upd_lst]; (repeat (refine sxn fun K2 hK2 => ?_; simp [cRt, dPts]; (repeat (refine ⟨by omega, ?_⟩)); refine hK2 _ ?_; clear hK2 K2)); refine sxz (hK' _ (AW.st (by simp [cRt, dPts]; rfl) ?_)); clear hK' K'; refine AW_ret ?_; simp [D.le, D.le.go, takeMap, cRt, dPts]
 ·rw [hr] at h1; refine rgc fw h1 [4] [2] ?_; refine AW_ret ?_; simp [D.le, D.le.go, takeMap, cRt, dPts]
end Go.Proofs.YthnjfeielmbfkaaGreatDoor
namespace Go.Proofs.YthnjfeielmbfkaaGreatDoor
open Go.Av
def numStep (st : List (List Int) × List Int) (l : List Int) : List (List Int) × List Int :=
 if idx (fun x => x == l) st.1 < 0 then (st.1 ++ [l], st.2 ++ [(st.1.length : Int)]) else (st.1, st.2 ++ [idx (fun x => x == l) st.1])
def numSt (L : List (List Int)) (n : Nat) : List (List Int) × List Int := (L.take n).foldl numStep ([], [])
def numberF (L : List (List Int)) : List Int := (numSt L L.length).2
end Go.Proofs.YthnjfeielmbfkaaGreatDoor
namespace Go.Proofs.YthnjfeielmbfkaaGreatDoor
open Go.Av
structure Tab where
 next : List (List Int)
 tells : List (List Int)
end Go.Proofs.YthnjfeielmbfkaaGreatDoor
namespace Go.Proofs.YthnjfeielmbfkaaGreatDoor
open Go.Av
def dErr : Option (Int × Option Nat) → D
 | none => .v .nilIface
 | some (c, none) => .ifc 62 (.v (.int .i64 c))
 | some (c, some s) => .ifc 194 (.ip [.v (.int .i64 c), .v (.int .i64 s)])
end Go.Proofs.YthnjfeielmbfkaaGreatDoor
namespace Go.Proofs.YthnjfeielmbfkaaGreatDoor
open Go.Av
theorem twiceL_iff {α : Type} (same : α → α → Bool) : ∀ (l seen : List α), twiceL same seen l = true ↔ ∃ n, ∃ h : n < l.length, (seen ++ l.take n).any (same l[n]) = true
 | [], seen => by simp [twiceL]
 | x :: l, seen => by
  rw [twiceL, Bool.or_eq_true, twiceL_iff same l (seen ++ [x])]
  constructor
  ·rintro (h | ⟨n, h, hh⟩)
   ·exact ⟨0, by simp, by simpa using h⟩
   ·exact ⟨n + 1, by simpa using h, by simpa using hh⟩
  ·rintro ⟨n, h, hh⟩
   cases n with
   | zero => exact .inl (by simpa using hh)
   | succ n => exact .inr ⟨n, by simpa using h, by simpa using hh⟩
theorem twiceL_hit {α : Type} {same : α → α → Bool} {l : List α} {n : Nat} (h : n < l.length) (hh : (l.take n).any (same l[n]) = true) : twiceL same [] l = true := (twiceL_iff same l []).2 ⟨n, h, by simpa using hh⟩
theorem twiceL_miss {α : Type} {same : α → α → Bool} {l : List α} (hh : ∀ n (h : n < l.length), (l.take n).any (same l[n]) = false) : twiceL same [] l = false := by
 rw [← Bool.not_eq_true]
 intro h
 obtain ⟨n, hn, h⟩ := (twiceL_iff same l []).1 h
 rw [List.nil_append, hh n hn] at h
 cases h
theorem contains_any (l : List Int) (x : Int) : l.contains x = l.any fun y => x == y := by
 rw [Bool.eq_iff_iff, List.any_eq_true, List.contains_iff_mem]
 constructor
 ·intro h; exact ⟨x, h, by simp⟩
 ·rintro ⟨y, h1, h2⟩; have : x = y := by simpa using h2
  exact this ▸ h1
set_option maxHeartbeats 1000000 in
theorem twice1_spec (G : Glob) (p q : Int × Bool) : PureC Tryz.prog G 156 [dPt q, .ip (cPt p)] (.v (.bool (p.1 == q.1))) := by
 obtain ⟨n, o⟩ := p
 obtain ⟨m, u⟩ := q
 simp only [dPt, cPt]; refine PureC.of_body (tyOf_good _) Tryz.func156 rfl rfl (rs := [.tmp 3]) Tryz.results156 (by simp [Tryz.ntmps156]) fun X => ?_; simp only [Tryz.ntmps156, List.map]; refine rg0 [1,2] [2] ?_; refine rg0 [3] [2] ?_; refine AW_ret ?_; simp [D.le, D.le.go, takeMap]
set_option maxHeartbeats 2000000 in
theorem twice_spec (G : Glob) (r : Rt) (hr : SmallR r) : PureC Tryz.prog G 99 [dRt r] (.v (.bool (twiceF r))) := by
 obtain ⟨ss, ps⟩ := r
 obtain ⟨hs, hp⟩ := hr
 dsimp only at hs hp
 unfold twiceF
 dsimp only
 generalize hA : twiceL (fun a b => a == b) [] ss = A; generalize hB : twiceL (fun a b : Int × Bool => a.1 == b.1) [] ps = B; refine PureC.of_body (tyOf_good _) Tryz.func99 rfl rfl (rs := [.tmp 2]) Tryz.results99 (by simp [Tryz.ntmps99]) fun X => ?_; simp only [Tryz.ntmps99, List.map]
 have fw := (Aq @dRt.eq_1 (Aq @cRt.eq_1 (Aq @dPts.eq_1 @dRow_eq)))
 refine rgq fw [1] [1] ?_; refine AW_then fun K1 hK1 => ?_; refine rgq fw [1,8,9,10] [1] ?_; refine AW_for (S := Nat) (fun n => n ≤ ss.length ∧ ∀ i (hi : i < ss.length), i < n → ((ss.take i).any fun y => ss[i] == y) = false) (fun n => ⟨lst [(1, .ref 1 0 0), (8, .d (.sl none (ss.map fun x => [.v (.int .i64 x)]))), (9, int ss.length), (10, int n)], hlst [(1, .box 106 [.d (.sl none (ss.map fun x => [.v (.int .i64 x)])), .d (.sl none (ps.map cPt))])]⟩) (fun n => ss.length - n) 0 ?_ (by simp) ?_
 ·refine Imp.to' (fun _ _ => trivial) (by simp [dRt, cRt, dPts, dRow_eq]) (by simp [dRt, cRt, dPts, dRow_eq])
 ·rintro n ⟨hn, hb⟩
  refine rgq fw [1,8,9,10,11] [1] ?_; refine AW_then fun K2 hK2 => ?_; refine AW_cond' (b := n < ss.length) (by simp [D.le, D.le.go, takeMap, dRt, cRt, dPts, dRow_eq]) (fun hc => ?_) (fun hc => ?_)
  ·have hlt := hc
   refine AW_skip (hK2 _ ?_); refine AW_then fun K3 hK3 => ?_; refine AW_block ?_
   have qf := (Aq fw @hc)
   refine rgqv [1,3,4,8,9,10] [1] ?_
   have hcs := containsEq_spec G (ss.take n) ss[n] (by rw [List.length_take]; omega)
   rw [contains_any, dRow_eq, List.map_take] at hcs
   have qf := (Aq fw (Aq @hc @takeMap))
   refine rgcv hcs [1,8,9,10,20] [1] ?_; refine AW_cond _ rfl (fun hc => ?_) (fun hc => ?_)
   ·rw [twiceL_hit hlt hc] at hA; refine rgq fw [2] [1] ?_; refine AW_ret ?_; simp [D.le, D.le.go, takeMap, dRt, cRt, dPts, dRow_eq, ← hA]
   ·refine AW_skip (hK3 _ ?_); refine AW_re (tyOf_good _) fun K' hK' => ?_; (repeat (refine sxn fun K2 hK2 => ?_; simp [dRt, cRt, dPts, dRow_eq]; (repeat (refine ⟨by omega, ?_⟩)); refine hK2 _ ?_; clear hK2 K2)); refine sxz (hK' _ ?_); clear hK' K'; (try simp only [thn, inb]); refine Again.mk (n + 1) ⟨by omega, fun i hi hin => ?_⟩ (by omega) ?_
    ·by_cases h : i = n
     ·subst h; exact hc
     ·exact hb i hi (by omega)
    refine Imp.to' (fun _ _ => trivial) (by simp [dRt, cRt, dPts, dRow_eq]) (by simp [dRt, cRt, dPts, dRow_eq])
  ·have hA0 : A = false := by rw [← hA]; exact twiceL_miss fun i hi => hb i hi (by omega)
   refine AW_exit (hK1 _ ?_); refine AW_then fun K4 hK4 => ?_; refine rgq fw [1,23,24,25] [1] ?_; refine AW_for (S := Nat) (fun n => n ≤ ps.length ∧ ∀ i (hi : i < ps.length), i < n → ((ps.take i).any fun y => ps[i].1 == y.1) = false) (fun n => ⟨lst [(1, .ref 1 0 0), (23, .d (.sl none (ps.map cPt))), (24, int ps.length), (25, int n)], hlst [(1, .box 106 [.d (.sl none (ss.map fun x => [.v (.int .i64 x)])), .d (.sl none (ps.map cPt))])]⟩) (fun n => ps.length - n) 0 ?_ (by simp) ?_
   ·refine Imp.to' (fun _ _ => trivial) (by simp [dRt, cRt, dPts, dRow_eq]) (by simp [dRt, cRt, dPts, dRow_eq])
   ·rintro n ⟨hn, hb⟩
    refine rgq fw [1,23,24,25,26] [1] ?_; refine AW_then fun K5 hK5 => ?_; refine AW_cond' (b := n < ps.length) (by simp [D.le, D.le.go, takeMap, dRt, cRt, dPts, dRow_eq]) (fun hc => ?_) (fun hc => ?_)
    ·have hlt := hc
     refine AW_skip (hK5 _ ?_); refine AW_then fun K6 hK6 => ?_; refine AW_block ?_
     have qf := (Aq fw (Aq @hc @cPt.eq_1))
     refine rgqv [1,5,6,23,24,25] [1,6] ?_; refine AW.imp (Imp.freezeB 6 trivial) ?_; refine AW.st (by simp [dRt, cRt, dPts, dRow_eq]; rfl) ?_
     have hcp := containsPt_spec G none (ps.take n) 156 [.ip (cPt ps[n])] (fun q => ps[n].1 == q.1) (by rw [List.length_take]; omega) fun q _ => twice1_spec G ps[n] q
     rw [List.map_take] at hcp; simp only [cPt] at hcp
     have qf := (Aq fw (Aq @hc @takeMap))
     refine rgcv hcp [1,23,24,25,35] [1] ?_; refine AW_cond _ rfl (fun hc => ?_) (fun hc => ?_)
     ·rw [twiceL_hit hlt hc] at hB; refine rgq fw [2] [1] ?_; refine AW_ret ?_; simp [D.le, D.le.go, takeMap, dRt, cRt, dPts, dRow_eq, ← hB]
     ·refine AW_skip (hK6 _ ?_); refine AW_re (tyOf_good _) fun K' hK' => ?_; (repeat (refine sxn fun K2 hK2 => ?_; simp [dRt, cRt, dPts, dRow_eq]; (repeat (refine ⟨by omega, ?_⟩)); refine hK2 _ ?_; clear hK2 K2)); refine sxz (hK' _ ?_); clear hK' K'; (try simp only [thn, inb]); refine Again.mk (n + 1) ⟨by omega, fun i hi hin => ?_⟩ (by omega) ?_
      ·by_cases h : i = n
       ·subst h; exact hc
       ·exact hb i hi (by omega)
      refine Imp.to' (fun _ _ => trivial) (by simp [dRt, cRt, dPts, dRow_eq]) (by simp [dRt, cRt, dPts, dRow_eq])
    ·have hB0 : B = false := by rw [← hB]; exact twiceL_miss fun i hi => hb i hi (by omega)
     refine AW_exit (hK4 _ ?_); refine rgq fw [2] [1] ?_; refine AW_ret ?_; simp [D.le, D.le.go, takeMap, dRt, cRt, dPts, dRow_eq, hA0, hB0]
end Go.Proofs.YthnjfeielmbfkaaGreatDoor
namespace Go.Proofs.YthnjfeielmbfkaaGreatDoor
open Go.Av
structure LaterR (T : Prop) : Prop where
 out : T
theorem lateR {T U : Prop} (h : LaterR T → U) (t : T) : U := h ⟨t⟩
structure Tb where
 secs : Int
 pts : Int
 rts : List Rt
def cTb (t : Tb) : List D := [.v (.int .i64 t.secs), .v (.int .i64 t.pts), dRts t.rts]
def dTb (t : Tb) : D := .agg (cTb t)
def firstE {α : Type} (f : α → Int) : List α → Nat → Option (Int × Option Nat)
 | [], _ => none
 | x :: l, i => if f x = 0 then firstE f l (i + 1) else some (f x, some i)
theorem firstE_at {α : Type} {f : α → Int} : ∀ {l : List α} {i n : Nat} (hn : n < l.length), (∀ k (hk : k < l.length), k < n → f l[k] = 0) → f l[n] ≠ 0 → firstE f l i = some (f l[n], some (i + n))
 | x :: l, i, 0, _, _, hne => by rw [firstE, if_neg (show ¬ f x = 0 from hne)]; rfl
 | x :: l, i, n + 1, hn, hb, hne => by
  have h0 : f x = 0 := hb 0 (by simp) (by omega)
  rw [firstE, if_pos h0, firstE_at (l := l) (n := n) (by simpa using hn) (fun k hk hkn => hb (k + 1) (by simpa using hk) (by omega)) hne]; simp [Nat.add_assoc, Nat.add_comm 1 n]
theorem firstE_none {α : Type} {f : α → Int} : ∀ {l : List α} {i : Nat}, (∀ k (hk : k < l.length), f l[k] = 0) → firstE f l i = none
 | [], _, _ => rfl
 | x :: l, i, hb => by
  rw [firstE, if_pos (show f x = 0 from hb 0 (by simp)), firstE_none fun k hk => hb (k + 1) (by simpa using hk)]
def limT (S P : Int) (n : Nat) : Prop := S < 1 ∨ 3 < S ∨ P < 0 ∨ 2 < P ∨ n < 1 ∨ 3 < n
instance (S P : Int) (n : Nat) : Decidable (limT S P n) := inferInstanceAs (Decidable (_ ∨ _))
def checkT (t : Tb) : Option (Int × Option Nat) := if limT t.secs t.pts t.rts.length then some (4, none) else firstE (badR 8 2 9 t.secs t.pts) t.rts 0
set_option maxHeartbeats 1000000 in
theorem rcheck1_spec (G : Glob) (t : Tb) (s : Int) : PureC Tryz.prog G 96 [.v (.int .i64 s), .ip (cTb t)] (.v (.bool (decide (s < 0) || decide (s ≥ t.secs)))) := by
 refine PureC.of_body (tyOf_good _) Tryz.func96 rfl rfl (rs := [.tmp 3]) Tryz.results96 (by simp [Tryz.ntmps96]) fun X => ?_; simp only [Tryz.ntmps96, List.map]
 have fw := @cTb.eq_1
 by_cases h : s < 0
 ·refine rgq fw [0,1] [] ?_
  have qf := (Aq fw @h)
  refine rgqv [3] [] ?_; refine AW_ret ?_; simp [D.le, D.le.go, takeMap, cTb, h]
 ·refine rgq fw [0,1] [] ?_
  have qf := (Aq fw @h)
  refine rgqv [3] [] ?_; refine AW_ret ?_; simp [D.le, D.le.go, takeMap, cTb, h]
set_option maxHeartbeats 1000000 in
theorem rcheck2_spec (G : Glob) (t : Tb) (p : Int × Bool) : PureC Tryz.prog G 98 [dPt p, .ip (cTb t)] (.v (.bool (decide (p.1 < 0) || decide (p.1 ≥ t.pts)))) := by
 obtain ⟨n, o⟩ := p
 simp only [dPt, cPt]; refine PureC.of_body (tyOf_good _) Tryz.func98 rfl rfl (rs := [.tmp 3]) Tryz.results98 (by simp [Tryz.ntmps98]) fun X => ?_; simp only [Tryz.ntmps98, List.map]
 have fw := @cTb.eq_1
 by_cases h : n < 0
 ·refine rgq fw [1,2] [2] ?_
  have qf := (Aq fw @h)
  refine rgqv [3] [2] ?_; refine AW_ret ?_; simp [D.le, D.le.go, takeMap, cTb, h]
 ·refine rgq fw [1,2] [2] ?_
  have qf := (Aq fw @h)
  refine rgqv [3] [2] ?_; refine AW_ret ?_; simp [D.le, D.le.go, takeMap, cTb, h]
def SmallT (t : Tb) : Prop := t.rts.length < 2^62 ∧ ∀ r ∈ t.rts, SmallR r
set_option maxHeartbeats 8000000 in
theorem rcheck_spec (G : Glob) (t : Tb) (ht : SmallT t) : PureC Tryz.prog G 42 [dTb t] (dErr (checkT t)) := by
 obtain ⟨S, P, rts⟩ := t
 obtain ⟨hl, hsr⟩ := ht
 dsimp only at hl hsr
 have hr2 : checkT ⟨S, P, rts⟩ = if limT S P rts.length then some (4, none) else firstE (badR 8 2 9 S P) rts 0 := rfl
 generalize hres : checkT ⟨S, P, rts⟩ = res; rw [hr2] at hres
 have hk1 := fun s => rcheck1_spec G ⟨S, P, rts⟩ s
 have hk2 := fun p => rcheck2_spec G ⟨S, P, rts⟩ p
 simp only [cTb, dRts] at hk1 hk2; refine PureC.of_body (tyOf_good _) Tryz.func42 rfl rfl (rs := [.tmp 2]) Tryz.results42 (by simp [Tryz.ntmps42]) fun X => ?_; simp only [Tryz.ntmps42, List.map]
 have fw := (Aq @dTb.eq_1 (Aq @cTb.eq_1 @dRts.eq_1))
 refine rgq fw [1] [1] ?_; refine AW.imp (Imp.freezeB 1 trivial) ?_; refine AW.st (by simp [dTb, cTb, dRts]; rfl) ?_; refine AW_then fun K1 hK1 => ?_
 by_cases g0 : S < 1
 ·rw [if_pos (.inl (by omega))] at hres
  have qf := (Aq fw @g0)
  refine rgqv [1,35] [] ?_; refine AW_tt rfl ?_; refine rgq fw [2] [] ?_; refine AW_ret ?_; simp [D.le, D.le.go, takeMap, dTb, cTb, dRts]; simp [← hres, dErr, D.le]
 by_cases g1 : S > 3
 ·rw [if_pos (.inr (.inl (by omega)))] at hres
  have qf := (Aq fw (Aq @g0 @g1))
  refine rgqv [1,35] [] ?_; refine AW_tt rfl ?_; refine rgq fw [2] [] ?_; refine AW_ret ?_; simp [D.le, D.le.go, takeMap, dTb, cTb, dRts]; simp [← hres, dErr, D.le]
 by_cases g2 : P < 0
 ·rw [if_pos (.inr (.inr (.inl (by omega))))] at hres
  have qf := (Aq fw (Aq @g0 (Aq @g1 @g2)))
  refine rgqv [1,35] [] ?_; refine AW_tt rfl ?_; refine rgq fw [2] [] ?_; refine AW_ret ?_; simp [D.le, D.le.go, takeMap, dTb, cTb, dRts]; simp [← hres, dErr, D.le]
 by_cases g3 : P > 2
 ·rw [if_pos (.inr (.inr (.inr (.inl (by omega)))))] at hres
  have qf := (Aq fw (Aq @g0 (Aq @g1 (Aq @g2 @g3))))
  refine rgqv [1,35] [] ?_; refine AW_tt rfl ?_; refine rgq fw [2] [] ?_; refine AW_ret ?_; simp [D.le, D.le.go, takeMap, dTb, cTb, dRts]; simp [← hres, dErr, D.le]
 by_cases g4 : (rts.length : Int) < 1
 ·rw [if_pos (.inr (.inr (.inr (.inr (.inl (by omega))))))] at hres
  have qf := (Aq fw (Aq @g0 (Aq @g1 (Aq @g2 (Aq @g3 @g4)))))
  refine rgqv [1,35] [] ?_; refine AW_tt rfl ?_; refine rgq fw [2] [] ?_; refine AW_ret ?_; simp [D.le, D.le.go, takeMap, dTb, cTb, dRts]; simp [← hres, dErr, D.le]
 by_cases g5 : (rts.length : Int) > 3
 ·rw [if_pos (.inr (.inr (.inr (.inr (.inr (by omega))))))] at hres
  have qf := (Aq fw (Aq @g0 (Aq @g1 (Aq @g2 (Aq @g3 (Aq @g4 @g5))))))
  refine rgqv [1,35] [] ?_; refine AW_tt rfl ?_; refine rgq fw [2] [] ?_; refine AW_ret ?_; simp [D.le, D.le.go, takeMap, dTb, cTb, dRts]; simp [← hres, dErr, D.le]
 rw [if_neg (by unfold limT; omega)] at hres
 have qf := (Aq fw (Aq @g0 (Aq @g1 (Aq @g2 (Aq @g3 (Aq @g4 @g5))))))
 refine rgqv [1,35] [] ?_; refine AW_ff rfl ?_; refine AW_skip (hK1 _ ?_); refine AW_then fun K2 hK2 => ?_; refine rgq fw [1,38,39,40] [] ?_; refine AW_for (S := Nat) (fun n => n ≤ rts.length ∧ ∀ k (hk : k < rts.length), k < n → badR 8 2 9 S P rts[k] = 0) (fun n => ⟨lst [(1, .d (.ip [.v (.int .i64 S), .v (.int .i64 P), .sl none (rts.map cRt)])), (38, .d (.sl none (rts.map cRt))), (39, int rts.length), (40, int n)], hlst []⟩) (fun n => rts.length - n) 0 ?_ (by simp) ?_
 ·refine Imp.to' (fun _ _ => trivial) (by simp [dTb, cTb, dRts]) (by simp [dTb, cTb, dRts])
 ·rintro n ⟨hn, hb⟩
  refine rgq fw [1,38,39,40,41] [] ?_; refine AW_then fun K3 hK3 => ?_; refine AW_cond' (b := n < rts.length) (by simp [D.le, D.le.go, takeMap, dTb, cTb, dRts]) (fun hc => ?_) (fun hc => ?_)
  ·have hlt := hc
   have hsm := hsr rts[n] (by simp)
   have hbad : badR 8 2 9 S P rts[n] = if rts[n].1 = [] then 8 else if (rts[n].1.any fun s => decide (s < 0) || decide (s ≥ S)) || (rts[n].2.any fun p => decide (p.1 < 0) || decide (p.1 ≥ P)) then 2 else if twiceF rts[n] then 9 else 0 := rfl
   have hgo : badR 8 2 9 S P rts[n] ≠ 0 → res = some (badR 8 2 9 S P rts[n], some n) := fun hne => by rw [← hres, firstE_at hlt (fun k hk hkn => hb k hk hkn) hne]; simp
   have h16 := containsInt_spec G none (fun x : Int => D.v (.int .i64 x)) rts[n].1 96 [.ip [.v (.int .i64 S), .v (.int .i64 P), .sl none (rts.map cRt)]] (fun s => decide (s < 0) || decide (s ≥ S)) (by have := hsm.1; omega) fun s _ => hk1 s
   have h18 := containsPt_spec G none rts[n].2 98 [.ip [.v (.int .i64 S), .v (.int .i64 P), .sl none (rts.map cRt)]] (fun p => decide (p.1 < 0) || decide (p.1 ≥ P)) hsm.2 fun p _ => hk2 p
   have h20 := twice_spec G rts[n] hsm
   simp only [dRt, cRt, dPts, dRow_eq] at h20; refine AW_skip (hK3 _ ?_); refine AW_then fun K4 hK4 => ?_; refine AW_block ?_
   have qf := (Aq fw (Aq @hc (Aq @cRt.eq_1 (Aq @dPts.eq_1 @dRow_eq))))
   refine rgqv [1,3,4,38,39,40] [4] ?_; refine rgq fw [1,3,4,5,38,39,40] [4] ?_; refine AW_then fun K5 hK5 => ?_; generalize hv : badR 8 2 9 S P rts[n] = v at hbad hgo; refine' lateR (fun hrest => ?_) ?_
   rotate_left
   ·refine AW_block ?_
    by_cases c0 : rts[n].1 = []
    ·rw [if_pos c0] at hbad
     have qf := (Aq fw @c0)
     refine rgqv [1,3,4,5,38,39,40,45] [4] ?_; refine AW_tt rfl ?_; refine reK fw hK5 [1,3,5,38,39,40] [] ?_; refine AW.st (show _ = (⟨lst [(1, .d (.ip [.v (.int .i64 S), .v (.int .i64 P), .sl none (rts.map cRt)])), (3, int n), (5, int v), (38, .d (.sl none (rts.map cRt))), (39, int rts.length), (40, int n)], hlst []⟩ : St) by rw [hbad] <;> rfl) ?_; exact hrest.out
    ·rw [if_neg c0] at hbad
     have c0' : ¬ ((rts[n].1.length : Int) = 0) := by simpa using c0
     have qf := (Aq fw (Aq @c0' @c0))
     refine rgqv [1,3,4,5,38,39,40,45] [4] ?_; refine AW_ff rfl ?_; refine AW_then fun K6 hK6 => ?_; generalize (rts[n].1.any fun s => decide (s < 0) || decide (s ≥ S)) = b1 at h16 hbad; generalize (rts[n].2.any fun p => decide (p.1 < 0) || decide (p.1 ≥ P)) = b2 at h18 hbad; generalize hbo : (b1 || b2) = bo at hbad; refine' lateR (fun hrest2 => ?_) ?_
     rotate_left
     ·cases b1 with
      | true =>
       refine rgc fw h16 [1,3,4,5,38,39,40,50] [4] ?_; refine AW_tt rfl ?_; refine AW_skip ?_; refine hK6 _ (AW.norm [1, 3, 4, 5, 38, 39, 40, 50] [4] (fun _ _ => trivial) (AW.st (by simp [dTb, cTb, dRts]; rfl) ?_)); refine AW.st (show _ = (⟨lst [(1, .d (.ip [.v (.int .i64 S), .v (.int .i64 P), .sl none (rts.map cRt)])), (3, int n), (4, .ref 4 0 0), (5, int 0), (38, .d (.sl none (rts.map cRt))), (39, int rts.length), (40, int n), (50, .d (.v (.bool bo)))], hlst [(4, .box 106 [.d (.sl none (rts[n].1.map fun x => [.v (.int .i64 x)])), .d (.sl none (rts[n].2.map cPt))])]⟩ : St) by rw [← hbo] <;> rfl) ?_; exact hrest2.out
      | false =>
       refine rgc fw h16 [1,3,4,5,38,39,40,50] [4] ?_; refine AW_ff rfl ?_; refine AW_re (tyOf_good _) fun K' hK' => ?_; (repeat (refine sxn fun K2 hK2 => ?_; simp [dTb, cTb, dRts]; (repeat (refine ⟨by omega, ?_⟩)); refine hK2 _ ?_; clear hK2 K2)); refine sxn fun K2 hK2 => ?_; simp [dTb, cTb, dRts]; refine callK.data (h18) (by simp; rfl) (by first | exact D.leGo_refl _ | simp [takeMap, List.map_map, Function.comp_def, D.le, D.le.go, D.le_refl, D.leGo_refl, dTb, cTb, dRts]) ?_; refine hK2 _ ?_; clear hK2 K2; simp only [putd, upd_lst]; (repeat (refine sxn fun K2 hK2 => ?_; simp [dTb, cTb, dRts]; (repeat (refine ⟨by omega, ?_⟩)); refine hK2 _ ?_; clear hK2 K2)); refine sxz (hK' _ ?_); clear hK' K'; refine hK6 _ (AW.norm [1, 3, 4, 5, 38, 39, 40, 50] [4] (fun _ _ => trivial) (AW.st (by simp [dTb, cTb, dRts]; rfl) ?_)); refine AW.st (show _ = (⟨lst [(1, .d (.ip [.v (.int .i64 S), .v (.int .i64 P), .sl none (rts.map cRt)])), (3, int n), (4, .ref 4 0 0), (5, int 0), (38, .d (.sl none (rts.map cRt))), (39, int rts.length), (40, int n), (50, .d (.v (.bool bo)))], hlst [(4, .box 106 [.d (.sl none (rts[n].1.map fun x => [.v (.int .i64 x)])), .d (.sl none (rts[n].2.map cPt))])]⟩ : St) by rw [← hbo] <;> rfl) ?_; exact hrest2.out
     ·cases bo with
      | true =>
       rw [if_pos rfl] at hbad; refine AW_tt rfl ?_; refine reK fw hK5 [1,3,5,38,39,40] [] ?_; refine AW.st (show _ = (⟨lst [(1, .d (.ip [.v (.int .i64 S), .v (.int .i64 P), .sl none (rts.map cRt)])), (3, int n), (5, int v), (38, .d (.sl none (rts.map cRt))), (39, int rts.length), (40, int n)], hlst []⟩ : St) by rw [hbad] <;> rfl) ?_; exact hrest.out
      | false =>
       rw [if_neg (by decide)] at hbad; refine AW_ff rfl ?_; refine rgc fw h20 [1,3,5,38,39,40,59] [] ?_; generalize twiceF rts[n] = b3 at hbad
       cases b3 with
       | true =>
        rw [if_pos rfl] at hbad; refine AW_tt rfl ?_; refine reK fw hK5 [1,3,5,38,39,40] [] ?_; refine AW.st (show _ = (⟨lst [(1, .d (.ip [.v (.int .i64 S), .v (.int .i64 P), .sl none (rts.map cRt)])), (3, int n), (5, int v), (38, .d (.sl none (rts.map cRt))), (39, int rts.length), (40, int n)], hlst []⟩ : St) by rw [hbad] <;> rfl) ?_; exact hrest.out
       | false =>
        rw [if_neg (by decide)] at hbad; refine AW_ff rfl ?_; refine AW_skip ?_; refine hK5 _ (AW.norm [1, 3, 5, 38, 39, 40] [] (fun _ _ => trivial) (AW.st (by simp [dTb, cTb, dRts]; rfl) ?_)); refine AW.st (show _ = (⟨lst [(1, .d (.ip [.v (.int .i64 S), .v (.int .i64 P), .sl none (rts.map cRt)])), (3, int n), (5, int v), (38, .d (.sl none (rts.map cRt))), (39, int rts.length), (40, int n)], hlst []⟩ : St) by rw [hbad] <;> rfl) ?_; exact hrest.out
   ·by_cases hv0 : v = 0
    ·have qf := (Aq fw @hv0)
     refine rgqv [1,3,5,38,39,40,63] [] ?_; refine AW_ff rfl ?_; refine AW_skip ?_; refine hK4 _ ?_; refine AW_re (tyOf_good _) fun K' hK' => ?_; (repeat (refine sxn fun K2 hK2 => ?_; simp [dTb, cTb, dRts]; (repeat (refine ⟨by omega, ?_⟩)); refine hK2 _ ?_; clear hK2 K2)); refine sxz (hK' _ ?_); clear hK' K'; (try simp only [thn, inb]); refine Again.mk (n + 1) ⟨by omega, fun k hk hkn => ?_⟩ (by omega) ?_
     ·by_cases h : k = n
      ·subst h; rw [hv, hv0]
      ·exact hb k hk (by omega)
     refine Imp.to' (fun _ _ => trivial) (by simp [dTb, cTb, dRts]) (by simp [dTb, cTb, dRts])
    ·have qf := (Aq fw @hv0)
     refine rgqv [1,3,5,38,39,40,63] [] ?_; refine AW_tt rfl ?_; refine rgq fw [2] [67] ?_; refine AW_ret ?_; simp [D.le, D.le.go, takeMap, dTb, cTb, dRts]; simp [hgo hv0, dErr, D.le, D.le.go]
  ·refine AW_exit (hK2 _ ?_); refine rgq fw [2] [] ?_; refine AW_ret ?_; simp [D.le, D.le.go, takeMap, dTb, cTb, dRts]; rw [firstE_none fun k hk => hb k hk (by omega)] at hres; simp [← hres, dErr]
end Go.Proofs.YthnjfeielmbfkaaGreatDoor
