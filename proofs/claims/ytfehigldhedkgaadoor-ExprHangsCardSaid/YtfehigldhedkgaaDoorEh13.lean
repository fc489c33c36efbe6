/-
  Texts that belong together, in one file: Sh1, T1.
-/
import Derived.Test.YtfehigldhedkgaaDoorEh12
import Derived.Test.YtfehigldhedkgaaDoorProg
import Derived.Ground.NamesProg
import Derived.Shelf.Strings.OnBuilder
/-
  DERIVED: THE SHELF's CONTRACTS AT THIS DUMP, IN PLAIN WORDS (tools/lay-plain.mjs out of 'YtfehigldhedkgaaDoorSh1s.lean', which tools/lay-shelf.mjs wrote): THE SAME DECLARATIONS UNDER THE SAME NAMES: 'import', 'namespace', 'open', 'def', 'theorem' AND NOTHING ELSE: no command of the shelf's: FOR A HAND-IN. Each laying: the table of numbers ('.._ren') and one theorem, a field a fact of the dump's own or the kernel's comparison; each contract: ONE APPLICATION.
-/
namespace Go.Proofs
open Go.Shelf
def Tryd.lays156_ren : Go.Shelf.Ren := ⟨fun | 156 => 60 | 165 => 82 | 166 => 43 | 169 => 46 | 240 => 73 | 241 => 97 | 276 => 91 | 277 => 110 | n => n, fun | 31 => 49 | 9 => 9 | 3 => 3 | 4 => 4 | 0 => 0 | 20 => 20 | 72 => 90 | 76 => 91 | 70 => 87 | 37 => 88 | 75 => 36 | 127 => 138 | 164 => 152 | 5 => 5 | 80 => 66 | n => n, fun | n => n⟩
theorem Tryd.lays156 : Go.Proofs.Lays.n156 Tryd.prog Tryd.lays156_ren := {
  mixed := by kernel_rfl
  f156 := Tryd.func60.trans (congrArg some (by kernel_rfl))
  f165 := Tryd.func82.trans (congrArg some (by kernel_rfl))
  f166 := Tryd.func43.trans (congrArg some (by kernel_rfl))
  f169 := Tryd.func46.trans (congrArg some (by kernel_rfl))
  f240 := Tryd.func73.trans (congrArg some (by kernel_rfl))
  f241 := Tryd.func97.trans (congrArg some (by kernel_rfl))
  f276 := Tryd.func91.trans (congrArg some (by kernel_rfl))
  f277 := Tryd.func110.trans (congrArg some (by kernel_rfl))
  t0 := Tryd.underlying0
  a0 := Tryd.isAgg0
  z0 := Tryd.sizeOf0
  v0 := Tryd.zeroValue0
  t3 := Tryd.underlying3
  a3 := Tryd.isAgg3
  z3 := Tryd.sizeOf3
  v3 := Tryd.zeroValue3
  t4 := Tryd.underlying4
  a4 := Tryd.isAgg4
  z4 := Tryd.sizeOf4
  v4 := Tryd.zeroValue4
  t9 := Tryd.underlying9
  a9 := Tryd.isAgg9
  z9 := Tryd.sizeOf9
  v9 := Tryd.zeroValue9
  t20 := Tryd.underlying20
  a20 := Tryd.isAgg20
  z20 := Tryd.sizeOf20
  v20 := Tryd.zeroValue20
  t31 := Tryd.underlying49
  a31 := Tryd.isAgg49
  z31 := Tryd.sizeOf49
  v31 := Tryd.zeroValue49
  t37 := Tryd.underlying88
  a37 := Tryd.isAgg88
  z37 := Tryd.sizeOf88
  v37 := Tryd.zeroValue88
  t70 := Tryd.underlying87
  a70 := Tryd.isAgg87
  z70 := Tryd.sizeOf87
  v70 := Tryd.zeroValue87
  t72 := Tryd.underlying90
  a72 := Tryd.isAgg90
  z72 := Tryd.sizeOf90
  v72 := Tryd.zeroValue90
  t75 := Tryd.underlying36
  a75 := Tryd.isAgg36
  z75 := Tryd.sizeOf36
  v75 := Tryd.zeroValue36
  t76 := Tryd.underlying91
  a76 := Tryd.isAgg91
  z76 := Tryd.sizeOf91
  v76 := Tryd.zeroValue91
  t127 := Tryd.underlying138
  a127 := Tryd.isAgg138
  z127 := Tryd.sizeOf138
  v127 := Tryd.zeroValue138
  t164 := Tryd.underlying152
  a164 := Tryd.isAgg152
  z164 := Tryd.sizeOf152
  v164 := Tryd.zeroValue152 }
theorem Tryd.Builder_Extra_156 : Builder.Extra Tryd.prog Tryd.lays156_ren := {
  sizeBuilder := by kernel_rfl
  liesBuilder := by kernel_rfl
  t5 := Tryd.underlying5
  a5 := Tryd.isAgg5
  z5 := Tryd.sizeOf5
  v5 := Tryd.zeroValue5
  infoByte := by kernel_rfl
  cellsByte := by kernel_rfl
  sizeByte := by kernel_rfl
  neB5 := by decide }
end Go.Proofs

/-
  Formulas as texts: strings.Join, lasso.text, lasso.Text.
-/
namespace Go.Proofs.YtfehigldhedkgaaDoor
set_option linter.unusedSimpArgs false
set_option linter.unusedVariables false
open Go.Av
open Go.RowKit Go.Shelf Go.Lib

theorem bs_lit (l : List UInt8) : (⟨l.toArray⟩ : ByteArray) = bs l := rfl
theorem bs_append (a b : List UInt8) : bs a ++ bs b = bs (a ++ b) := ByteArray.ext (by simp [bs, ByteArray.data_append])
theorem binS_bs (a b : List UInt8) (h : a.length + b.length ≤ 9223372036854775807) : binS .add (bs a) (bs b) = some (True, .string (bs (a ++ b))) := by
  rw [binS, bs_append, bs_size, bs_size, eq_true h]

theorem join_spec (G : Glob) (l : List (List UInt8)) (sep : List UInt8) (hl : (Lib.join l sep).length ≤ 2^46) (hn : l.length ≤ 2^46) : PureC Tryd.prog G 60 [.sl none (l.map fun s => [dS s]), dS sep] (dS (Lib.join l sep)) := by
  refine PureC.of_calls (Fun.of Tryd.func60 rfl rfl) fun X w vs hsz hrd hgl => ?_
  obtain ⟨a, b, rfl⟩ : ∃ a b, vs = #[a, b] := by
    match vs, hsz with
    | ⟨[a, b]⟩, _ => exact ⟨a, b, rfl⟩
  have hb := (hrd 1 b _ rfl rfl).scalar
  subst hb
  have ha := hrd 0 a _ rfl rfl
  have none : ∀ (ad : Option Addr) (cap : Nat), l = [] → Calls Tryd.prog 60 #[.slice ad 0 cap, .string (bs sep)] w fun e w' => ∃ v, e = .returned v ∧ Grew w w' ∧ RD w' X v (dS (Lib.join l sep)) := fun ad cap h => by
    subst h
    have hcon := Any.strings_Join_none Tryd.lays156 Tryd.Builder_Extra_156 ad cap (bs sep) w
    exact hcon.mono fun e w' ⟨he, hw⟩ => ⟨_, he, hw ▸ Grew.refl w, .v _⟩
  rcases ha.sl_inv with ⟨rfl, hz, _⟩ | ⟨ad, cap, rfl, _, hc, hm, hr⟩
  · exact none _ _ (List.map_eq_nil_iff.1 hz)
  · rcases hr with hz | ⟨b0, off, sz, f, rfl, hX, hz, hs, hcell, hrr⟩
    · have h0 : l = [] := List.map_eq_nil_iff.1 hz
      have := none (some ad) cap h0
      rw [show (l.map fun s => [dS s]).length = 0 by rw [h0]; rfl]
      exact this
    · by_cases h0 : l = []
      · rw [show (l.map fun s => [dS s]).length = 0 by rw [h0]; rfl]
        exact none _ _ h0
      · have hpos : 0 < l.length := List.length_pos_iff.2 h0
        have hs1 : sz = 1 := (hs [dS l[0]] (List.mem_map.2 ⟨_, List.getElem_mem hpos, rfl⟩)).symm
        subst hs1
        simp only [List.length_map] at hcell hc ⊢
        have hc0 : ∀ (j : Nat) x, (l.map bs)[j]? = some x → w.cell? ⟨b0, off + j, .none⟩ = some (.string x) := fun j x hx => by
          rw [List.getElem?_map] at hx
          obtain ⟨s, hs', rfl⟩ := Option.map_eq_some_iff.1 hx
          have hj := (List.getElem?_eq_some_iff.1 hs').1
          have h1 := hcell j 0 hj (by decide)
          have h2 := (hrr j 0 [dS s] (dS s) (by rw [List.getElem?_map, hs']; rfl) rfl).scalar
          rw [Nat.mul_one, Nat.add_zero] at h1
          rw [h1, h2]
        have hbk : b0 < w.heap.size := cell_lt (hc0 0 (bs l[0]) (by simp [hpos]))
        have hml : (l.map bs).map (fun x => x.data.toList) = l := by
          rw [List.map_map]
          exact (List.map_congr_left fun s _ => rfl).trans (List.map_id _)
        have hlen : (Lib.join ((l.map bs).map (·.data.toList)) (bs sep).data.toList).length ≤ 140737488355328 := by
          rw [hml]
          show (Lib.join l sep).length ≤ _
          omega
        have hcon := Any.strings_Join Tryd.lays156 Tryd.Builder_Extra_156 b0 off cap (l.map bs) (bs sep) w hc0 hbk (by simp; omega) (by simpa using hc) hlen
        rw [hml, List.length_map] at hcon
        exact hcon.mono fun e w' ⟨he, hB⟩ => ⟨_, he, below_grew hB, .v _⟩
end Go.Proofs.YtfehigldhedkgaaDoor
