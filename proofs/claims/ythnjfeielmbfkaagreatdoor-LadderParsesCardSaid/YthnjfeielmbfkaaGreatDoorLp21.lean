/-
  Texts that belong together, in one file: Sh1, T1.
-/
import Derived.Test.YthnjfeielmbfkaaGreatDoorLp20
import Derived.Test.YthnjfeielmbfkaaGreatDoorProg
import Derived.Ground.NamesProg
import Derived.Shelf.Strings.OnBuilder
set_option linter.unusedSimpArgs false
set_option linter.unusedVariables false
namespace Go.Proofs
open Go.Shelf
def Tryz.lays156_ren : Go.Shelf.Ren := ⟨fun | 156 => 76 | 165 => 128 | 166 => 69 | 169 => 71 | 240 => 127 | 241 => 176 | 276 => 175 | 277 => 225 | n => n, fun | 31 => 169 | 9 => 9 | 3 => 3 | 4 => 4 | 0 => 0 | 20 => 20 | 72 => 158 | 76 => 159 | 70 => 155 | 37 => 156 | 75 => 31 | 127 => 222 | 164 => 268 | 5 => 5 | 80 => 164 | n => n, fun | n => n⟩
theorem Tryz.lays156 : Go.Proofs.Lays.n156 Tryz.prog Tryz.lays156_ren := {
 mixed := by kernel_rfl
 f156 := Tryz.func76.trans (congrArg some (by kernel_rfl))
 f165 := Tryz.func128.trans (congrArg some (by kernel_rfl))
 f166 := Tryz.func69.trans (congrArg some (by kernel_rfl))
 f169 := Tryz.func71.trans (congrArg some (by kernel_rfl))
 f240 := Tryz.func127.trans (congrArg some (by kernel_rfl))
 f241 := Tryz.func176.trans (congrArg some (by kernel_rfl))
 f276 := Tryz.func175.trans (congrArg some (by kernel_rfl))
 f277 := Tryz.func225.trans (congrArg some (by kernel_rfl))
 t0 := Tryz.underlying0
 a0 := Tryz.isAgg0
 z0 := Tryz.sizeOf0
 v0 := Tryz.zeroValue0
 t3 := Tryz.underlying3
 a3 := Tryz.isAgg3
 z3 := Tryz.sizeOf3
 v3 := Tryz.zeroValue3
 t4 := Tryz.underlying4
 a4 := Tryz.isAgg4
 z4 := Tryz.sizeOf4
 v4 := Tryz.zeroValue4
 t9 := Tryz.underlying9
 a9 := Tryz.isAgg9
 z9 := Tryz.sizeOf9
 v9 := Tryz.zeroValue9
 t20 := Tryz.underlying20
 a20 := Tryz.isAgg20
 z20 := Tryz.sizeOf20
 v20 := Tryz.zeroValue20
 t31 := Tryz.underlying169
 a31 := Tryz.isAgg169
 z31 := Tryz.sizeOf169
 v31 := Tryz.zeroValue169
 t37 := Tryz.underlying156
 a37 := Tryz.isAgg156
 z37 := Tryz.sizeOf156
 v37 := Tryz.zeroValue156
 t70 := Tryz.underlying155
 a70 := Tryz.isAgg155
 z70 := Tryz.sizeOf155
 v70 := Tryz.zeroValue155
 t72 := Tryz.underlying158
 a72 := Tryz.isAgg158
 z72 := Tryz.sizeOf158
 v72 := Tryz.zeroValue158
 t75 := Tryz.underlying31
 a75 := Tryz.isAgg31
 z75 := Tryz.sizeOf31
 v75 := Tryz.zeroValue31
 t76 := Tryz.underlying159
 a76 := Tryz.isAgg159
 z76 := Tryz.sizeOf159
 v76 := Tryz.zeroValue159
 t127 := Tryz.underlying222
 a127 := Tryz.isAgg222
 z127 := Tryz.sizeOf222
 v127 := Tryz.zeroValue222
 t164 := Tryz.underlying268
 a164 := Tryz.isAgg268
 z164 := Tryz.sizeOf268
 v164 := Tryz.zeroValue268 }
theorem Tryz.Builder_Extra_156 : Builder.Extra Tryz.prog Tryz.lays156_ren := {
 sizeBuilder := by kernel_rfl
 liesBuilder := by kernel_rfl
 t5 := Tryz.underlying5
 a5 := Tryz.isAgg5
 z5 := Tryz.sizeOf5
 v5 := Tryz.zeroValue5
 infoByte := by kernel_rfl
 cellsByte := by kernel_rfl
 sizeByte := by kernel_rfl
 neB5 := by decide }
end Go.Proofs
namespace Go.Proofs.YthnjfeielmbfkaaGreatDoor
open Go.Av
open Go.RowKit Go.Shelf Go.Lib
theorem bs_lit (l : List UInt8) : (⟨l.toArray⟩ : ByteArray) = bs l := rfl
theorem bs_append (a b : List UInt8) : bs a ++ bs b = bs (a ++ b) := ByteArray.ext (by simp [bs, ByteArray.data_append])
theorem binS_bs (a b : List UInt8) (h : a.length + b.length ≤ 9223372036854775807) : binS .add (bs a) (bs b) = some (True, .string (bs (a ++ b))) := by
 rw [binS, bs_append, bs_size, bs_size, eq_true h]
theorem join_spec (G : Glob) (l : List (List UInt8)) (sep : List UInt8) (hl : (Lib.join l sep).length ≤ 2^46) (hn : l.length ≤ 2^46) : PureC Tryz.prog G 76 [.sl none (l.map fun s => [dS s]), dS sep] (dS (Lib.join l sep)) := by
 refine PureC.of_calls (Fun.of Tryz.func76 rfl rfl) fun X w vs hsz hrd hgl => ?_
 obtain ⟨a, b, rfl⟩ : ∃ a b, vs = #[a, b] := by
  match vs, hsz with
  | ⟨[a, b]⟩, _ => exact ⟨a, b, rfl⟩
 have hb := (hrd 1 b _ rfl rfl).scalar
 subst hb
 have ha := hrd 0 a _ rfl rfl
 have none : ∀ (ad : Option Addr) (cap : Nat), l = [] → Calls Tryz.prog 76 #[.slice ad 0 cap, .string (bs sep)] w fun e w' => ∃ v, e = .returned v ∧ Grew w w' ∧ RD w' X v (dS (Lib.join l sep)) := fun ad cap h => by
  subst h
  have hcon := Any.strings_Join_none Tryz.lays156 Tryz.Builder_Extra_156 ad cap (bs sep) w
  exact hcon.mono fun e w' ⟨he, hw⟩ => ⟨_, he, hw ▸ Grew.refl w, .v _⟩
 rcases ha.sl_inv with ⟨rfl, hz, _⟩ | ⟨ad, cap, rfl, _, hc, hm, hr⟩
 ·exact none _ _ (List.map_eq_nil_iff.1 hz)
 ·rcases hr with hz | ⟨b0, off, sz, f, rfl, hX, hz, hs, hcell, hrr⟩
  ·have h0 : l = [] := List.map_eq_nil_iff.1 hz
   have := none (some ad) cap h0
   rw [show (l.map fun s => [dS s]).length = 0 by rw [h0]; rfl]; exact this
  ·by_cases h0 : l = []
   ·rw [show (l.map fun s => [dS s]).length = 0 by rw [h0]; rfl]; exact none _ _ h0
   ·have hpos : 0 < l.length := List.length_pos_iff.2 h0
    have hs1 : sz = 1 := (hs [dS l[0]] (List.mem_map.2 ⟨_, List.getElem_mem hpos, rfl⟩)).symm
    subst hs1; simp only [List.length_map] at hcell hc ⊢
    have hc0 : ∀ (j : Nat) x, (l.map bs)[j]? = some x → w.cell? ⟨b0, off + j, .none⟩ = some (.string x) := fun j x hx => by
     rw [List.getElem?_map] at hx
     obtain ⟨s, hs', rfl⟩ := Option.map_eq_some_iff.1 hx
     have hj := (List.getElem?_eq_some_iff.1 hs').1
     have h1 := hcell j 0 hj (by decide)
     have h2 := (hrr j 0 [dS s] (dS s) (by rw [List.getElem?_map, hs']; rfl) rfl).scalar
     rw [Nat.mul_one, Nat.add_zero] at h1; rw [h1, h2]
    have hbk : b0 < w.heap.size := cell_lt (hc0 0 (bs l[0]) (by simp [hpos]))
    have hml : (l.map bs).map (fun x => x.data.toList) = l := by
     rw [List.map_map]; exact (List.map_congr_left fun s _ => rfl).trans (List.map_id _)
    have hlen : (Lib.join ((l.map bs).map (·.data.toList)) (bs sep).data.toList).length ≤ 140737488355328 := by
     rw [hml]
     show (Lib.join l sep).length ≤ _
     omega
    have hcon := Any.strings_Join Tryz.lays156 Tryz.Builder_Extra_156 b0 off cap (l.map bs) (bs sep) w hc0 hbk (by simp; omega) (by simpa using hc) hlen
    rw [hml, List.length_map] at hcon; exact hcon.mono fun e w' ⟨he, hB⟩ => ⟨_, he, below_grew hB, .v _⟩
end Go.Proofs.YthnjfeielmbfkaaGreatDoor
