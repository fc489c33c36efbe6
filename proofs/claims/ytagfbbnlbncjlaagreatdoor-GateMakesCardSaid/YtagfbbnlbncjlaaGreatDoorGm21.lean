/-
  Texts that belong together, in one file: Sh5, U3.
-/
import Derived.Test.YtagfbbnlbncjlaaGreatDoorGm20
import Derived.Test.YtagfbbnlbncjlaaGreatDoorProg
import Derived.Ground.NamesProg
import Derived.Shelf.Strings.Search3
/-
  DERIVED: THE SHELF's CONTRACTS AT THIS DUMP, IN PLAIN WORDS (tools/lay-plain.mjs out of 'YtagfbbnlbncjlaaGreatDoorSh5s.lean', which tools/lay-shelf.mjs wrote): THE SAME DECLARATIONS UNDER THE SAME NAMES: 'import', 'namespace', 'open', 'def', 'theorem' AND NOTHING ELSE: no command of the shelf's: FOR A HAND-IN. Each laying: the table of numbers ('.._ren') and one theorem, a field a fact of the dump's own or the kernel's comparison; each contract: ONE APPLICATION.
-/
namespace Go.Proofs
open Go.Shelf
def Tryz.lays144_ren : Go.Shelf.Ren := ⟨fun | 144 => 71 | 143 => 101 | 219 => 113 | 217 => 128 | 225 => 129 | 224 => 130 | 267 => 131 | 266 => 141 | 314 => 142 | n => n, fun | 9 => 9 | 4 => 4 | 3 => 3 | 5 => 5 | 46 => 38 | 146 => 211 | 51 => 199 | n => n, fun | 1 => 2 | n => n⟩
theorem Tryz.lays144 : Go.Proofs.Lays.n144 Tryz.prog Tryz.lays144_ren := {
  mixed := by kernel_rfl
  f143 := Tryz.func101.trans (congrArg some (by kernel_rfl))
  f144 := Tryz.func71.trans (congrArg some (by kernel_rfl))
  f217 := Tryz.func128.trans (congrArg some (by kernel_rfl))
  f219 := Tryz.func113.trans (congrArg some (by kernel_rfl))
  f224 := Tryz.func130.trans (congrArg some (by kernel_rfl))
  f225 := Tryz.func129.trans (congrArg some (by kernel_rfl))
  f266 := Tryz.func141.trans (congrArg some (by kernel_rfl))
  f267 := Tryz.func131.trans (congrArg some (by kernel_rfl))
  f314 := Tryz.func142.trans (congrArg some (by kernel_rfl))
  t3 := Tryz.underlying3
  a3 := Tryz.isAgg3
  z3 := Tryz.sizeOf3
  v3 := Tryz.zeroValue3
  t4 := Tryz.underlying4
  a4 := Tryz.isAgg4
  z4 := Tryz.sizeOf4
  v4 := Tryz.zeroValue4
  t5 := Tryz.underlying5
  a5 := Tryz.isAgg5
  z5 := Tryz.sizeOf5
  v5 := Tryz.zeroValue5
  t9 := Tryz.underlying9
  a9 := Tryz.isAgg9
  z9 := Tryz.sizeOf9
  v9 := Tryz.zeroValue9
  t46 := Tryz.underlying38
  a46 := Tryz.isAgg38
  z46 := Tryz.sizeOf38
  v46 := Tryz.zeroValue38
  t51 := Tryz.underlying199
  a51 := Tryz.isAgg199
  z51 := Tryz.sizeOf199
  v51 := Tryz.zeroValue199
  t146 := Tryz.underlying211
  a146 := Tryz.isAgg211
  z146 := Tryz.sizeOf211
  v146 := Tryz.zeroValue211
  g1 := by kernel_rfl }
end Go.Proofs

/-
  strings.Contains, where internal/bytealg.MaxLen holds some integer.
-/
namespace Go.Proofs.YtagfbbnlbncjlaaGreatDoor
set_option linter.unusedSimpArgs false
set_option linter.unusedVariables false
open Go.Av Go.Shelf

/-- MaxLen holds some integer. -/
def HasMax (G : Glob) : Prop := ∃ m, G 2 = some (.ip [dNum m])
theorem scontains_spec (G : Glob) (hM : HasMax G) (a b : List UInt8) (ha : a.length < 2^30) : PureC Tryz.prog G 71 [dS a, dS b] (.v (.bool (Lib.contains a b))) := by
  obtain ⟨m, hm⟩ := hM
  refine PureC.of_calls (Fun.of Tryz.func71 rfl rfl) fun X w vs hsz hrd hgl => ?_
  obtain ⟨u, v, rfl⟩ : ∃ u v, vs = #[u, v] := by
    match vs, hsz with
    | ⟨[u, v]⟩, _ => exact ⟨u, v, rfl⟩
  have hu := (hrd 0 u _ rfl rfl).scalar
  have hv := (hrd 1 v _ rfl rfl).scalar
  subst hu hv
  obtain ⟨b', off, f, hp, _, _, hcell, hr⟩ := (hgl _ _ hm).ip_inv
  have h0 := hcell 0 (by simp)
  have h1 := (hr 0 _ rfl).scalar
  rw [h1] at h0
  injection hp with hp
  injection hp with hp
  injection hp with hp1 hp2 _
  subst hp1 hp2
  have hcon := Any.strings_Contains (P := Tryz.prog) (ρ := Tryz.lays144_ren) { Tryz.lays144 with } (bs a) (bs b) m w (by rw [bs_size]; omega) h0
  refine hcon.mono fun e w' ⟨he, hw⟩ => ⟨_, he, by rw [hw]; exact Grew.refl _, ?_⟩
  rw [bs_data, bs_data]
  exact .v _
end Go.Proofs.YtagfbbnlbncjlaaGreatDoor
